/- The law KeysPlay walked: it returns true. -/
import Derived.Test.YtmndedahkodibaaH20
namespace Go.Proofs.Ytmndedahkodibaa.G
open Go.RowKit Go.Proofs.YtmndedahkodibaaW.PrintWords Go.Proofs.YtmndedahkodibaaW.PrintLast Go.Proofs.YtmndedahkodibaaW.PrintMore
open Go.Proofs.Ytmndedahkodibaa.Pure (lt Lt Lt_tri Lt_irrefl Lt_trans Rep keys_eq rd_mem find_ref put_ref drop_ref)
set_option linter.unusedVariables false
set_option linter.unusedSimpArgs false

abbrev A46 (w : World) (ad : Addr) (i : Nat) (x : S46) : Prop := w.cell? (ad.add (i * 5)) = some (.int .i64 x.f0) ∧ w.cell? ⟨(ad.add (i * 5)).block, (ad.add (i * 5)).off + 1, none⟩ = some (.string x.f1.f0) ∧ w.cell? ⟨(ad.add (i * 5)).block, (ad.add (i * 5)).off + 2, none⟩ = some (.string x.f1.f1) ∧ w.cell? ⟨(ad.add (i * 5)).block, (ad.add (i * 5)).off + 3, none⟩ = some (.int .i64 x.f1.f2) ∧ w.cell? ⟨(ad.add (i * 5)).block, (ad.add (i * 5)).off + 4, none⟩ = some (.int .i64 x.f2)
theorem at46 {w : World} {A : Option Addr} {xs : List S46} (h : Kd.C k46 w A xs.length xs) (i : Nat) (hi : i < xs.length) : ∃ ad, A = some ad ∧ A46 w ad i (rd_T46 xs (i : Int)) := by
  obtain ⟨ad, h1, h2, h3, h4, h5, h6⟩ := at_T46 h (i : Int) (by omega) (by omega)
  rw [Int.toNat_natCast] at h2 h3 h4 h5 h6
  exact ⟨ad, h1, h2, h3, h4, h5, h6⟩
theorem Ent.num {w : World} {v : Value} {r : List S39} {D : S28 → Option Int} {i : Nat} (h : Ent w v r D i) (j : Nat) (hj : j < r.length) :
    ∃ ad c, v = .slice (some ad) r.length c ∧ w.cell? ⟨(ad.add (j * 4)).block, (ad.add (j * 4)).off + 3, none⟩ = some (.int .i64 (rd_T39 r (j : Int)).f1) := by
  obtain ⟨⟨A, c, rfl, h2, h3⟩, h4, h5⟩ := h
  obtain ⟨ad, rfl, q0, q1, q2, q3⟩ := at_T39 h3 (j : Int) (by omega) (by omega)
  rw [Int.toNat_natCast] at q3
  exact ⟨ad, c, rfl, q3⟩
theorem long_l0 (l : List S46) (hl : l.length ≤ 9223372036854775807) (d : Nat) : ∀ i : Nat, i + d = l.length → (∀ j, j < i → (rd_T46 l (j : Int)).f1.f0.size ≤ 200 ∧ (rd_T46 l (j : Int)).f1.f1.size ≤ 200) →
    ∃ b, Go.Proofs.Ytmndedahkodibaa.Pure.Ev (fun k => tendrillaw07_long.l0 k l (l.length : Int) (i : Int)) b ∧ (b = false → l.length ≤ 200 ∧ ∀ j, j < l.length → (rd_T46 l (j : Int)).f1.f0.size ≤ 200 ∧ (rd_T46 l (j : Int)).f1.f1.size ≤ 200) := by
  induction d with
  | zero =>
    intro i hi hj
    refine ⟨decide ((l.length : Int) > 200), (Go.Proofs.Ytmndedahkodibaa.Pure.Ev.pure _).step (fun k => by rw [tendrillaw07_long.l0, if_neg (by omega)]), fun h => ?_⟩
    have := of_decide_eq_false h
    exact ⟨by omega, fun j hj' => hj j (by omega)⟩
  | succ d ih =>
    intro i hi hj
    by_cases c0 : ((rd_T46 l (i : Int)).f1.f0.size : Int) > 200
    · exact ⟨true, (Go.Proofs.Ytmndedahkodibaa.Pure.Ev.pure true).step (fun k => by rw [tendrillaw07_long.l0, if_pos (by omega), if_pos (by omega), if_pos (by omega), if_pos c0]), fun h => by cases h⟩
    · by_cases c1 : ((rd_T46 l (i : Int)).f1.f1.size : Int) > 200
      · exact ⟨true, (Go.Proofs.Ytmndedahkodibaa.Pure.Ev.pure true).step (fun k => by rw [tendrillaw07_long.l0, if_pos (by omega), if_pos (by omega), if_pos (by omega), if_neg c0, if_pos c1]), fun h => by cases h⟩
      · obtain ⟨b, hb, h⟩ := ih (i + 1) (by omega) (fun j hj' => by
          by_cases e : j = i
          · subst e; exact ⟨by omega, by omega⟩
          · exact hj j (by omega))
        refine ⟨b, hb.step (fun k => ?_), h⟩
        have w : wrap64 ((i : Int) + 1) = ((i + 1 : Nat) : Int) := by unfold wrap64; omega
        rw [tendrillaw07_long.l0, if_pos (by omega), if_pos (by omega), if_pos (by omega), if_neg c0, if_neg c1, w]
theorem long_calls (w : World) (A : Option Addr) (c : Nat) (l : List S46) (hC : Kd.C k46 w A l.length l) (hc : l.length ≤ c) :
    ∃ b, Calls Try.prog 18 #[.slice A l.length c] w (fun e w' => e = .returned (.bool b) ∧ Below w.heap.size w w') ∧ (b = false → l.length ≤ 200 ∧ ∀ j, j < l.length → Fit (rd_T46 l (j : Int)).f1) := by
  obtain ⟨b, hb, h⟩ := long_l0 l hC.2.1 l.length 0 (by omega) (fun j hj => by omega)
  obtain ⟨k, hk⟩ := (hb.eq (f := fun k => tendrillaw07_long.f k l) (fun k => rfl)).ex
  refine ⟨b, (tendrillaw07_long.calls k A c l b w hC hc hk).mono ?_, fun e => ?_⟩
  · rintro e w' ⟨rfl, ⟨n, rfl⟩⟩
    exact ⟨rfl, pw_below_drewN (Below.refl _ _) n⟩
  · obtain ⟨h1, h2⟩ := h e
    exact ⟨h1, fun j hj => by have := h2 j hj; exact ⟨by omega, by omega⟩⟩
set_option maxHeartbeats 4000000 in
set_option maxRecDepth 100000 in
theorem play_in (W : World) (room : Int) (A : Option Addr) (c : Nat) (l : List S46) (hC : Kd.C k46 W A l.length l) (hc : l.length ≤ c) (hn : l.length ≤ 200) (hfit : ∀ j, j < l.length → Fit (rd_T46 l (j : Int)).f1)
    (hlong : Calls Try.prog 18 #[.slice A l.length c] W fun e w' => e = .returned (.bool false) ∧ Below W.heap.size W w') :
    Calls Try.prog 5 #[.int .i64 room, .slice A l.length c] W fun e w' => e = .returned (.bool true) ∧ Below W.heap.size W w' := by
  have HC := Aside0.mk hC
  have HN := Aside0.mk hn
  have HF := Aside0.mk hfit
  have HLO := Aside0.mk hlong
  clear hC hn hfit hc hlong
  go_enter Try.func5, Try.ntmps5
  go_wp2_with (first | (go_at_call 18; refine HLO.out.mono ?_; rintro e w1 ⟨rfl, hb⟩; have B1 := Aside0.mk hb; clear hb) | (go_at_call 8; refine (New w1 room).mono ?_; rintro e w2 ⟨p, rfl, hb, hi⟩; have B2 := Aside0.mk hb; have I2 := Aside0.mk hi; clear hb hi))
  go_loopg [6, 7, 8, 9, 10, 18] l.length (fun kq v6 v7 v8 v9 v10 v18 w => ∃ i : Nat, v18 = .int .i64 (i : Int) ∧ Aside0 (i + kq = l.length) ∧ Aside0 (∃ n r D, n ≤ i ∧ PX w1 w p v6 i n r D D))
  case atStart => exact ⟨0, rfl, ⟨by omega⟩, ⟨0, [], fun _ => none, Nat.le_refl _, ⟨B2.out, by obtain ⟨g, S, used, h⟩ := I2.out; exact ⟨g, ⟨S, used, h⟩, fun b hb => by simp [Value.ownBlock] at hb⟩, Ent.start _⟩⟩⟩
  case round =>
  obtain ⟨i, rfl, HI, HP⟩ := hrel
  clear B2 I2
  obtain ⟨n, r, D, hle, hP⟩ := HP.out
  have HP := Aside0.mk hP
  have HLE := Aside0.mk hle
  clear hP hle
  obtain ⟨v, hv⟩ : ∃ v, u6 = v := ⟨_, rfl⟩
  subst hv
  have hi9 : Aside0 (i ≤ 1000000) := ⟨by have := HI.out; have := HN.out; omega⟩
  cases gk with
  | zero =>
    have hlt : ¬ i < l.length := by have := HI.out; omega
    go_wp2_with (first | (go_at_call 16; refine (HP.out.ent.all _ p n (by have := HLE.out; have := hi9.out; omega) HP.out.ix.choose_spec.1.ix).mono ?_; rintro e w4 ⟨rfl, hb⟩; have B4 := Aside0.mk hb; clear hb) | (go_at_call 7; refine (same _).mono ?_; rintro e w5 ⟨rfl, hb⟩; have B5 := Aside0.mk hb; clear hb))
    refine bodyPost_ret (results_tmp rfl _ _ _) rfl ?_
    have h1 := B1.out.trans (HP.out.b.mono B1.out.size)
    have h2 := h1.trans (B4.out.mono h1.size)
    exact ⟨rfl, h2.trans (B5.out.mono h2.size)⟩
  | succ k1 =>
    have hlt : i < l.length := by have := HI.out; omega
    have HIL := Aside0.mk hlt
    obtain ⟨x, hx⟩ : ∃ x, rd_T46 l (i : Int) = x := ⟨_, rfl⟩
    have HXX := Aside0.mk hx
    obtain ⟨ad, rfl, t0, t1, t2, t3, t4⟩ := at46 (Kd.C_below HC.out (B1.out.trans (HP.out.b.mono B1.out.size))) i hlt
    rw [hx] at t0 t1 t2 t3 t4
    have hwi : Aside0 (wrap64 ((i : Int) + 1) = ((i + 1 : Nat) : Int)) := ⟨by have := HN.out; have := HIL.out; unfold wrap64; omega⟩
    have HK := Aside0.mk (show Fit x.f1 from hx ▸ HF.out i hlt)
    have HQ := Aside0.mk (fun (w' : World) (hb : Below W.heap.size W w') => show A46 w' ad i x from by
      obtain ⟨ad2, h2, q⟩ := at46 (Kd.C_below HC.out hb) i HIL.out
      obtain rfl := Option.some.inj h2
      rw [HXX.out] at q
      exact q)
    have BW := Aside0.mk (B1.out.trans (HP.out.b.mono B1.out.size))
    clear hx
    have hnb : Aside0 (n ≤ 1073741824) := ⟨by have := HLE.out; have := hi9.out; omega⟩
    cases hd : D x.f1 with
    | none =>
      have HD := Aside0.mk hd
      clear hd
      go_upto_region 9 with (go_at_call 14; refine (HP.out.ent.find_no (by have := hi9.out; omega) x.f1 HD.out).mono ?_; rintro e w4 ⟨rfl, hb⟩; have P4 := Aside0.mk (HP.out.below hb); clear hb t0 t1 t2 t3 t4)
      obtain ⟨t0, t1, t2, t3, t4⟩ := HQ.out _ (B1.out.trans (P4.out.b.mono B1.out.size))
      by_cases c0 : x.f0 = 0
      · have c0b : (x.f0 == 0) = true := by simp [c0]
        clear c0
        go_upto_region 10 with fail
        refine start_ (n := 15) (S := (fun w' => w'.cell? ⟨(ad.add (i * 5)).block, (ad.add (i * 5)).off + 1, none⟩ = some (.string x.f1.f0) ∧ w'.cell? ⟨(ad.add (i * 5)).block, (ad.add (i * 5)).off + 2, none⟩ = some (.string x.f1.f1) ∧ w'.cell? ⟨(ad.add (i * 5)).block, (ad.add (i * 5)).off + 3, none⟩ = some (.int .i64 x.f1.f2) ∧ w'.cell? ⟨(ad.add (i * 5)).block, (ad.add (i * 5)).off + 4, none⟩ = some (.int .i64 x.f2))) (ds := []) #[false, false, false, false, false, false, false, false, false, false, false, false, false, false, false] (by kernel_rfl) rfl rfl ?_ ?_
        · exact ⟨t1, t2, t3, t4⟩
        intro hHeld
        refine pure_ (i := 0) (N := some 34) (v := ?_) (a' := ?_) #[true, false, false, false, false, false, false, false, false, false, false, false, false, false, false] rfl rfl (by kernel_rfl) (fun _ _ _ h => h) (Or.inl ⟨by rfl, ?_⟩) ?_ ?_
        rotate_left
        · intro w'
          go_simp
          with_reducible rfl
        rotate_left
        · simp only [Act.put, List.setIfInBounds_toArray, List.set_cons_zero, List.set_cons_succ, i64_w, i32_w]
          rfl
        refine pure_ (i := 1) (N := some 35) (v := ?_) (a' := ?_) #[true, true, false, false, false, false, false, false, false, false, false, false, false, false, false] rfl rfl (by kernel_rfl) (fun _ _ _ h => h) (Or.inl ⟨by rfl, ?_⟩) ?_ ?_
        rotate_left
        · intro w'
          go_simp
          with_reducible rfl
        rotate_left
        · simp only [Act.put, List.setIfInBounds_toArray, List.set_cons_zero, List.set_cons_succ, i64_w, i32_w]
          rfl
        refine pure_ (i := 2) (N := some 36) (v := ?_) (a' := ?_) #[true, true, true, false, false, false, false, false, false, false, false, false, false, false, false] rfl rfl (by kernel_rfl) (fun _ _ _ h => h) (Or.inl ⟨by rfl, ?_⟩) ?_ ?_
        rotate_left
        · intro w'
          go_simp
          with_reducible rfl
        rotate_left
        · simp only [Act.put, List.setIfInBounds_toArray, List.set_cons_zero, List.set_cons_succ, i64_w, i32_w]
          rfl
        refine pure_ (i := 3) (N := some 37) (v := ?_) (a' := ?_) #[true, true, true, true, false, false, false, false, false, false, false, false, false, false, false] rfl rfl (by kernel_rfl) (fun _ _ _ h => h) (Or.inl ⟨by rfl, ?_⟩) ?_ ?_
        rotate_left
        · intro w'
          go_simp
          with_reducible rfl
        rotate_left
        · simp only [Act.put, List.setIfInBounds_toArray, List.set_cons_zero, List.set_cons_succ, i64_w, i32_w]
          rfl
        refine pure_ (i := 4) (N := some 38) (v := ?_) (a' := ?_) #[true, true, true, true, true, false, false, false, false, false, false, false, false, false, false] rfl rfl (by kernel_rfl) (fun _ _ _ h => h) (Or.inl ⟨by rfl, ?_⟩) ?_ ?_
        rotate_left
        · intro w'
          go_simp
          with_reducible rfl
        rotate_left
        · simp only [Act.put, List.setIfInBounds_toArray, List.set_cons_zero, List.set_cons_succ, i64_w, i32_w]
          rfl
        refine pure_ (i := 6) (N := some 40) (v := ?_) (a' := ?_) #[true, true, true, true, true, false, true, false, false, false, false, false, false, false, false] rfl rfl (by kernel_rfl) (fun _ _ _ h => h) (Or.inl ⟨by rfl, ?_⟩) ?_ ?_
        rotate_left
        · intro w'
          go_simp
          with_reducible rfl
        rotate_left
        · simp only [Act.put, List.setIfInBounds_toArray, List.set_cons_zero, List.set_cons_succ, i64_w, i32_w]
          rfl
        refine pure_ (i := 7) (N := some 41) (v := ?_) (a' := ?_) #[true, true, true, true, true, false, true, true, false, false, false, false, false, false, false] rfl rfl (by kernel_rfl) (fun _ _ _ h => h) (Or.inl ⟨by rfl, ?_⟩) ?_ ?_
        rotate_left
        · intro w'
          go_simp
          with_reducible rfl
        rotate_left
        · simp only [Act.put, List.setIfInBounds_toArray, List.set_cons_zero, List.set_cons_succ, i64_w, i32_w]
          rfl
        refine pure_ (i := 8) (N := some 42) (v := ?_) (a' := ?_) #[true, true, true, true, true, false, true, true, true, false, false, false, false, false, false] rfl rfl (by kernel_rfl) (fun _ _ _ h => h) (Or.inl ⟨by rfl, ?_⟩) ?_ ?_
        rotate_left
        · intro w'
          go_simp
          with_reducible rfl
        rotate_left
        · simp only [Act.put, List.setIfInBounds_toArray, List.set_cons_zero, List.set_cons_succ, i64_w, i32_w]
          rfl
        refine pure_ (i := 9) (N := some 43) (v := ?_) (a' := ?_) #[true, true, true, true, true, false, true, true, true, true, false, false, false, false, false] rfl rfl (by kernel_rfl) (fun _ _ _ h => h) (Or.inl ⟨by rfl, ?_⟩) ?_ ?_
        rotate_left
        · intro w'
          go_simp
          with_reducible rfl
        rotate_left
        · simp only [Act.put, List.setIfInBounds_toArray, List.set_cons_zero, List.set_cons_succ, i64_w, i32_w]
          rfl
        refine pure_ (i := 12) (N := some 46) (v := ?_) (a' := ?_) #[true, true, true, true, true, false, true, true, true, true, false, false, true, false, false] rfl rfl (by kernel_rfl) (fun _ _ _ h => h) (Or.inl ⟨by rfl, ?_⟩) ?_ ?_
        rotate_left
        · intro w'
          go_simp
          with_reducible rfl
        rotate_left
        · simp only [Act.put, List.setIfInBounds_toArray, List.set_cons_zero, List.set_cons_succ, i64_w, i32_w]
          rfl
        refine pure_ (i := 13) (N := some 47) (v := ?_) (a' := ?_) #[true, true, true, true, true, false, true, true, true, true, false, false, true, true, false] rfl rfl (by kernel_rfl) (fun _ _ _ h => h) (Or.inl ⟨by rfl, ?_⟩) ?_ ?_
        rotate_left
        · intro w'
          go_simp
          with_reducible rfl
        rotate_left
        · simp only [Act.put, List.setIfInBounds_toArray, List.set_cons_zero, List.set_cons_succ, i64_w, i32_w]
          rfl
        refine take_ (i := 5) (N := some 39) (v := ?_) (a' := ?_) #[true, true, true, true, true, true, true, true, true, true, false, false, true, true, false] rfl rfl (by kernel_rfl) (fun _ _ _ h => h) (Or.inl ⟨by rfl, ?_⟩) hHeld ?_ ?_
        rotate_left
        · rintro w' ⟨s0, s1, s2, s3⟩
          go_simp
          with_reducible rfl
        rotate_left
        · simp only [Act.put, List.setIfInBounds_toArray, List.set_cons_zero, List.set_cons_succ, i64_w, i32_w]
          rfl
        refine take_ (i := 10) (N := some 44) (v := ?_) (a' := ?_) #[true, true, true, true, true, true, true, true, true, true, true, false, true, true, false] rfl rfl (by kernel_rfl) (fun _ _ _ h => h) (Or.inl ⟨by rfl, ?_⟩) hHeld ?_ ?_
        rotate_left
        · rintro w' ⟨s0, s1, s2, s3⟩
          go_simp
          with_reducible rfl
        rotate_left
        · simp only [Act.put, List.setIfInBounds_toArray, List.set_cons_zero, List.set_cons_succ, i64_w, i32_w]
          rfl
        refine one_ (i := 11) (N := some 45) #[true, true, true, true, true, true, true, true, true, true, true, true, true, true, false] rfl rfl (by kernel_rfl) (by decide) (fun K hK => ?_)
        refine goes_ Try.func9 (by kernel_rfl) rfl #[.pointer (some ⟨p, 0, none⟩), .agg #[.string x.f1.f0, .string x.f1.f1, .int .i64 x.f1.f2], .int .i64 x.f2] (by rfl) rfl rfl (by (try simp only [List.map_toArray, List.map_cons, List.map_nil]); first | done | rfl) ?_
        refine ((P4.out.below (drew_below _)).put x.f1 x.f2 HK.out hnb.out true (by rw [HD.out]; rfl)).mono ?_
        rintro e w5 ⟨rfl, hP⟩
        refine ⟨_, rfl, ?_⟩
        have P5 := Aside0.mk (show PX w1 w5 p u6 i (n + 1) r (upd D x.f1 (some x.f2)) D from hP)
        obtain ⟨t0, t1, t2, t3, t4⟩ := HQ.out _ (B1.out.trans (P5.out.b.mono B1.out.size))
        clear hP
        refine hK.out _ _ ⟨t1, t2, t3, t4⟩ (fun hHeld => ?_)
        clear hK K
        refine norm_ (a' := ?_) ?_ ?_
        rotate_left
        · show Act.put _ (some 45) _ = _
          simp only [Act.put, List.setIfInBounds_toArray, List.set_cons_zero, List.set_cons_succ, i64_w, i32_w]
          rfl
        refine pure_ (i := 14) (N := some 48) (v := ?_) (a' := ?_) #[true, true, true, true, true, true, true, true, true, true, true, true, true, true, true] rfl rfl (by kernel_rfl) (fun _ _ _ h => h) (Or.inl ⟨by rfl, ?_⟩) ?_ ?_
        rotate_left
        · intro w'
          go_simp
          with_reducible rfl
        rotate_left
        · simp only [Act.put, List.setIfInBounds_toArray, List.set_cons_zero, List.set_cons_succ, i64_w, i32_w]
          rfl
        refine done_ (by kernel_rfl) ?_
        clear t0
        go_upto_region 13 with fail
        refine start_ (n := 14) (S := (fun w' => w'.cell? ⟨(ad.add (i * 5)).block, (ad.add (i * 5)).off + 1, none⟩ = some (.string x.f1.f0) ∧ w'.cell? ⟨(ad.add (i * 5)).block, (ad.add (i * 5)).off + 2, none⟩ = some (.string x.f1.f1) ∧ w'.cell? ⟨(ad.add (i * 5)).block, (ad.add (i * 5)).off + 3, none⟩ = some (.int .i64 x.f1.f2) ∧ w'.cell? ⟨(ad.add (i * 5)).block, (ad.add (i * 5)).off + 4, none⟩ = some (.int .i64 x.f2))) (ds := []) #[false, false, false, false, false, false, false, false, false, false, false, false, false, false] (by kernel_rfl) rfl rfl ?_ ?_
        · exact ⟨t1, t2, t3, t4⟩
        intro hHeld
        refine pure_ (i := 0) (N := some 51) (v := ?_) (a' := ?_) #[true, false, false, false, false, false, false, false, false, false, false, false, false, false] rfl rfl (by kernel_rfl) (fun _ _ _ h => h) (Or.inl ⟨by rfl, ?_⟩) ?_ ?_
        rotate_left
        · intro w'
          go_simp
          with_reducible rfl
        rotate_left
        · simp only [Act.put, List.setIfInBounds_toArray, List.set_cons_zero, List.set_cons_succ, i64_w, i32_w]
          rfl
        refine pure_ (i := 1) (N := some 52) (v := ?_) (a' := ?_) #[true, true, false, false, false, false, false, false, false, false, false, false, false, false] rfl rfl (by kernel_rfl) (fun _ _ _ h => h) (Or.inl ⟨by rfl, ?_⟩) ?_ ?_
        rotate_left
        · intro w'
          go_simp
          with_reducible rfl
        rotate_left
        · simp only [Act.put, List.setIfInBounds_toArray, List.set_cons_zero, List.set_cons_succ, i64_w, i32_w]
          rfl
        refine pure_ (i := 2) (N := some 53) (v := ?_) (a' := ?_) #[true, true, true, false, false, false, false, false, false, false, false, false, false, false] rfl rfl (by kernel_rfl) (fun _ _ _ h => h) (Or.inl ⟨by rfl, ?_⟩) ?_ ?_
        rotate_left
        · intro w'
          go_simp
          with_reducible rfl
        rotate_left
        · simp only [Act.put, List.setIfInBounds_toArray, List.set_cons_zero, List.set_cons_succ, i64_w, i32_w]
          rfl
        refine pure_ (i := 3) (N := some 54) (v := ?_) (a' := ?_) #[true, true, true, true, false, false, false, false, false, false, false, false, false, false] rfl rfl (by kernel_rfl) (fun _ _ _ h => h) (Or.inl ⟨by rfl, ?_⟩) ?_ ?_
        rotate_left
        · intro w'
          go_simp
          with_reducible rfl
        rotate_left
        · simp only [Act.put, List.setIfInBounds_toArray, List.set_cons_zero, List.set_cons_succ, i64_w, i32_w]
          rfl
        refine pure_ (i := 4) (N := some 55) (v := ?_) (a' := ?_) #[true, true, true, true, true, false, false, false, false, false, false, false, false, false] rfl rfl (by kernel_rfl) (fun _ _ _ h => h) (Or.inl ⟨by rfl, ?_⟩) ?_ ?_
        rotate_left
        · intro w'
          go_simp
          with_reducible rfl
        rotate_left
        · simp only [Act.put, List.setIfInBounds_toArray, List.set_cons_zero, List.set_cons_succ, i64_w, i32_w]
          rfl
        refine pure_ (i := 6) (N := some 57) (v := ?_) (a' := ?_) #[true, true, true, true, true, false, true, false, false, false, false, false, false, false] rfl rfl (by kernel_rfl) (fun _ _ _ h => h) (Or.inl ⟨by rfl, ?_⟩) ?_ ?_
        rotate_left
        · intro w'
          go_simp
          with_reducible rfl
        rotate_left
        · simp only [Act.put, List.setIfInBounds_toArray, List.set_cons_zero, List.set_cons_succ, i64_w, i32_w]
          rfl
        refine pure_ (i := 7) (N := some 58) (v := ?_) (a' := ?_) #[true, true, true, true, true, false, true, true, false, false, false, false, false, false] rfl rfl (by kernel_rfl) (fun _ _ _ h => h) (Or.inl ⟨by rfl, ?_⟩) ?_ ?_
        rotate_left
        · intro w'
          go_simp
          with_reducible rfl
        rotate_left
        · simp only [Act.put, List.setIfInBounds_toArray, List.set_cons_zero, List.set_cons_succ, i64_w, i32_w]
          rfl
        refine pure_ (i := 8) (N := some 59) (v := ?_) (a' := ?_) #[true, true, true, true, true, false, true, true, true, false, false, false, false, false] rfl rfl (by kernel_rfl) (fun _ _ _ h => h) (Or.inl ⟨by rfl, ?_⟩) ?_ ?_
        rotate_left
        · intro w'
          go_simp
          with_reducible rfl
        rotate_left
        · simp only [Act.put, List.setIfInBounds_toArray, List.set_cons_zero, List.set_cons_succ, i64_w, i32_w]
          rfl
        refine pure_ (i := 9) (N := some 60) (v := ?_) (a' := ?_) #[true, true, true, true, true, false, true, true, true, true, false, false, false, false] rfl rfl (by kernel_rfl) (fun _ _ _ h => h) (Or.inl ⟨by rfl, ?_⟩) ?_ ?_
        rotate_left
        · intro w'
          go_simp
          with_reducible rfl
        rotate_left
        · simp only [Act.put, List.setIfInBounds_toArray, List.set_cons_zero, List.set_cons_succ, i64_w, i32_w]
          rfl
        refine take_ (i := 5) (N := some 56) (v := ?_) (a' := ?_) #[true, true, true, true, true, true, true, true, true, true, false, false, false, false] rfl rfl (by kernel_rfl) (fun _ _ _ h => h) (Or.inl ⟨by rfl, ?_⟩) hHeld ?_ ?_
        rotate_left
        · rintro w' ⟨s0, s1, s2, s3⟩
          go_simp
          with_reducible rfl
        rotate_left
        · simp only [Act.put, List.setIfInBounds_toArray, List.set_cons_zero, List.set_cons_succ, i64_w, i32_w]
          rfl
        refine take_ (i := 10) (N := some 61) (v := ?_) (a' := ?_) #[true, true, true, true, true, true, true, true, true, true, true, false, false, false] rfl rfl (by kernel_rfl) (fun _ _ _ h => h) (Or.inl ⟨by rfl, ?_⟩) hHeld ?_ ?_
        rotate_left
        · rintro w' ⟨s0, s1, s2, s3⟩
          go_simp
          with_reducible rfl
        rotate_left
        · simp only [Act.put, List.setIfInBounds_toArray, List.set_cons_zero, List.set_cons_succ, i64_w, i32_w]
          rfl
        refine pure_ (i := 11) (N := some 62) (v := ?_) (a' := ?_) #[true, true, true, true, true, true, true, true, true, true, true, true, false, false] rfl rfl (by kernel_rfl) (fun _ _ _ h => h) (Or.inl ⟨by rfl, ?_⟩) ?_ ?_
        rotate_left
        · intro w'
          go_simp
          with_reducible rfl
        rotate_left
        · simp only [Act.put, List.setIfInBounds_toArray, List.set_cons_zero, List.set_cons_succ, i64_w, i32_w]
          rfl
        refine one_ (i := 12) (N := some 63) #[true, true, true, true, true, true, true, true, true, true, true, true, true, false] rfl rfl (by kernel_rfl) (by decide) (fun K hK => ?_)
        refine goes_ Try.func15 (by kernel_rfl) rfl #[u6, .agg #[.string x.f1.f0, .string x.f1.f1, .int .i64 x.f1.f2, .int .i64 x.f2]] (by rfl) rfl rfl (by (try simp only [List.map_toArray, List.map_cons, List.map_nil]); first | done | rfl) ?_
        refine ((P5.out.below (drew_below _)).entPut (by have := hi9.out; omega) x.f1 x.f2 HK.out HD.out).mono ?_
        rintro e w6 ⟨v', r', rfl, hP⟩
        refine ⟨_, rfl, ?_⟩
        have P6 := Aside0.mk hP
        obtain ⟨t0, t1, t2, t3, t4⟩ := HQ.out _ (B1.out.trans (P6.out.b.mono B1.out.size))
        clear hP
        refine hK.out _ _ ⟨t1, t2, t3, t4⟩ (fun hHeld => ?_)
        clear hK K
        refine norm_ (a' := ?_) ?_ ?_
        rotate_left
        · show Act.put _ (some 63) _ = _
          simp only [Act.put, List.setIfInBounds_toArray, List.set_cons_zero, List.set_cons_succ, i64_w, i32_w]
          rfl
        refine pure_ (i := 13) (N := some 6) (v := ?_) (a' := ?_) #[true, true, true, true, true, true, true, true, true, true, true, true, true, true] rfl rfl (by kernel_rfl) (fun _ _ _ h => h) (Or.inl ⟨by rfl, ?_⟩) ?_ ?_
        rotate_left
        · intro w'
          go_simp
          with_reducible rfl
        rotate_left
        · simp only [Act.put, List.setIfInBounds_toArray, List.set_cons_zero, List.set_cons_succ, i64_w, i32_w]
          rfl
        refine done_ (by kernel_rfl) ?_
        go_wp2_with fail
        go_roundg k1
        case measure => omega
        case rel => exact ⟨i + 1, by rw [hwi.out], ⟨by have := HI.out; omega⟩, ⟨n + 1, r', _, by have := HLE.out; omega, P6.out⟩⟩
      · have c0b : (x.f0 == 0) = false := by simp [c0]
        clear c0
        by_cases c1 : x.f0 = 1
        · have c1b : (x.f0 == 1) = true := by simp [c1]
          clear c1
          go_wp2_with (go_at_call 12; refine (get_no _ w1.heap.size p n D x.f1 HK.out P4.out.ix.choose_spec.1.ix HD.out).mono ?_; rintro e w5 ⟨rfl, hb⟩; have P5 := Aside0.mk (P4.out.below hb); clear hb t0 t1 t2 t3 t4)
          go_roundg k1
          case measure => omega
          case rel => exact ⟨i + 1, by rw [hwi.out], ⟨by have := HI.out; omega⟩, ⟨n, r, D, by have := HLE.out; omega, P5.out.up⟩⟩
        · have c1b : (x.f0 == 1) = false := by simp [c1]
          clear c1
          go_wp2_with (go_at_call 11; refine (P4.out.drop x.f1 HK.out hnb.out false (by rw [HD.out]; rfl)).mono ?_; rintro e w5 ⟨rfl, hP⟩; have P5 := Aside0.mk (show PX w1 w5 p u6 i n r D D from by rw [upd_none HD.out] at hP; exact hP); clear hP t0 t1 t2 t3 t4)
          go_roundg k1
          case measure => omega
          case rel => exact ⟨i + 1, by rw [hwi.out], ⟨by have := HI.out; omega⟩, ⟨n, r, D, by have := HLE.out; omega, P5.out.up⟩⟩
    | some u =>
      have HD := Aside0.mk hd
      clear hd
      go_upto_region 9 with (go_at_call 14; refine (HP.out.ent.find_yes (by have := hi9.out; omega) x.f1 u HD.out).mono ?_; rintro e w4 ⟨j, rfl, hb, hj, hj2, hj3⟩; have HJ := Aside0.mk (And.intro hj (And.intro hj2 hj3)); have P4 := Aside0.mk (HP.out.below hb); clear hb hj hj2 hj3 t0 t1 t2 t3 t4)
      obtain ⟨t0, t1, t2, t3, t4⟩ := HQ.out _ (B1.out.trans (P4.out.b.mono B1.out.size))
      have j0 : decide ((j : Int) < 0) = false := decide_eq_false (by omega)
      by_cases c0 : x.f0 = 0
      · have c0b : (x.f0 == 0) = true := by simp [c0]
        clear c0
        go_upto_region 10 with fail
        refine start_ (n := 15) (S := (fun w' => w'.cell? ⟨(ad.add (i * 5)).block, (ad.add (i * 5)).off + 1, none⟩ = some (.string x.f1.f0) ∧ w'.cell? ⟨(ad.add (i * 5)).block, (ad.add (i * 5)).off + 2, none⟩ = some (.string x.f1.f1) ∧ w'.cell? ⟨(ad.add (i * 5)).block, (ad.add (i * 5)).off + 3, none⟩ = some (.int .i64 x.f1.f2) ∧ w'.cell? ⟨(ad.add (i * 5)).block, (ad.add (i * 5)).off + 4, none⟩ = some (.int .i64 x.f2))) (ds := []) #[false, false, false, false, false, false, false, false, false, false, false, false, false, false, false] (by kernel_rfl) rfl rfl ?_ ?_
        · exact ⟨t1, t2, t3, t4⟩
        intro hHeld
        refine pure_ (i := 0) (N := some 34) (v := ?_) (a' := ?_) #[true, false, false, false, false, false, false, false, false, false, false, false, false, false, false] rfl rfl (by kernel_rfl) (fun _ _ _ h => h) (Or.inl ⟨by rfl, ?_⟩) ?_ ?_
        rotate_left
        · intro w'
          go_simp
          with_reducible rfl
        rotate_left
        · simp only [Act.put, List.setIfInBounds_toArray, List.set_cons_zero, List.set_cons_succ, i64_w, i32_w]
          rfl
        refine pure_ (i := 1) (N := some 35) (v := ?_) (a' := ?_) #[true, true, false, false, false, false, false, false, false, false, false, false, false, false, false] rfl rfl (by kernel_rfl) (fun _ _ _ h => h) (Or.inl ⟨by rfl, ?_⟩) ?_ ?_
        rotate_left
        · intro w'
          go_simp
          with_reducible rfl
        rotate_left
        · simp only [Act.put, List.setIfInBounds_toArray, List.set_cons_zero, List.set_cons_succ, i64_w, i32_w]
          rfl
        refine pure_ (i := 2) (N := some 36) (v := ?_) (a' := ?_) #[true, true, true, false, false, false, false, false, false, false, false, false, false, false, false] rfl rfl (by kernel_rfl) (fun _ _ _ h => h) (Or.inl ⟨by rfl, ?_⟩) ?_ ?_
        rotate_left
        · intro w'
          go_simp
          with_reducible rfl
        rotate_left
        · simp only [Act.put, List.setIfInBounds_toArray, List.set_cons_zero, List.set_cons_succ, i64_w, i32_w]
          rfl
        refine pure_ (i := 3) (N := some 37) (v := ?_) (a' := ?_) #[true, true, true, true, false, false, false, false, false, false, false, false, false, false, false] rfl rfl (by kernel_rfl) (fun _ _ _ h => h) (Or.inl ⟨by rfl, ?_⟩) ?_ ?_
        rotate_left
        · intro w'
          go_simp
          with_reducible rfl
        rotate_left
        · simp only [Act.put, List.setIfInBounds_toArray, List.set_cons_zero, List.set_cons_succ, i64_w, i32_w]
          rfl
        refine pure_ (i := 4) (N := some 38) (v := ?_) (a' := ?_) #[true, true, true, true, true, false, false, false, false, false, false, false, false, false, false] rfl rfl (by kernel_rfl) (fun _ _ _ h => h) (Or.inl ⟨by rfl, ?_⟩) ?_ ?_
        rotate_left
        · intro w'
          go_simp
          with_reducible rfl
        rotate_left
        · simp only [Act.put, List.setIfInBounds_toArray, List.set_cons_zero, List.set_cons_succ, i64_w, i32_w]
          rfl
        refine pure_ (i := 6) (N := some 40) (v := ?_) (a' := ?_) #[true, true, true, true, true, false, true, false, false, false, false, false, false, false, false] rfl rfl (by kernel_rfl) (fun _ _ _ h => h) (Or.inl ⟨by rfl, ?_⟩) ?_ ?_
        rotate_left
        · intro w'
          go_simp
          with_reducible rfl
        rotate_left
        · simp only [Act.put, List.setIfInBounds_toArray, List.set_cons_zero, List.set_cons_succ, i64_w, i32_w]
          rfl
        refine pure_ (i := 7) (N := some 41) (v := ?_) (a' := ?_) #[true, true, true, true, true, false, true, true, false, false, false, false, false, false, false] rfl rfl (by kernel_rfl) (fun _ _ _ h => h) (Or.inl ⟨by rfl, ?_⟩) ?_ ?_
        rotate_left
        · intro w'
          go_simp
          with_reducible rfl
        rotate_left
        · simp only [Act.put, List.setIfInBounds_toArray, List.set_cons_zero, List.set_cons_succ, i64_w, i32_w]
          rfl
        refine pure_ (i := 8) (N := some 42) (v := ?_) (a' := ?_) #[true, true, true, true, true, false, true, true, true, false, false, false, false, false, false] rfl rfl (by kernel_rfl) (fun _ _ _ h => h) (Or.inl ⟨by rfl, ?_⟩) ?_ ?_
        rotate_left
        · intro w'
          go_simp
          with_reducible rfl
        rotate_left
        · simp only [Act.put, List.setIfInBounds_toArray, List.set_cons_zero, List.set_cons_succ, i64_w, i32_w]
          rfl
        refine pure_ (i := 9) (N := some 43) (v := ?_) (a' := ?_) #[true, true, true, true, true, false, true, true, true, true, false, false, false, false, false] rfl rfl (by kernel_rfl) (fun _ _ _ h => h) (Or.inl ⟨by rfl, ?_⟩) ?_ ?_
        rotate_left
        · intro w'
          go_simp
          with_reducible rfl
        rotate_left
        · simp only [Act.put, List.setIfInBounds_toArray, List.set_cons_zero, List.set_cons_succ, i64_w, i32_w]
          rfl
        refine pure_ (i := 12) (N := some 46) (v := ?_) (a' := ?_) #[true, true, true, true, true, false, true, true, true, true, false, false, true, false, false] rfl rfl (by kernel_rfl) (fun _ _ _ h => h) (Or.inl ⟨by rfl, ?_⟩) ?_ ?_
        rotate_left
        · intro w'
          go_simp
          with_reducible rfl
        rotate_left
        · simp only [Act.put, List.setIfInBounds_toArray, List.set_cons_zero, List.set_cons_succ, i64_w, i32_w]
          rfl
        refine pure_ (i := 13) (N := some 47) (v := ?_) (a' := ?_) #[true, true, true, true, true, false, true, true, true, true, false, false, true, true, false] rfl rfl (by kernel_rfl) (fun _ _ _ h => h) (Or.inl ⟨by rfl, ?_⟩) ?_ ?_
        rotate_left
        · intro w'
          go_simp
          with_reducible rfl
        rotate_left
        · simp only [Act.put, List.setIfInBounds_toArray, List.set_cons_zero, List.set_cons_succ, i64_w, i32_w]
          rfl
        refine take_ (i := 5) (N := some 39) (v := ?_) (a' := ?_) #[true, true, true, true, true, true, true, true, true, true, false, false, true, true, false] rfl rfl (by kernel_rfl) (fun _ _ _ h => h) (Or.inl ⟨by rfl, ?_⟩) hHeld ?_ ?_
        rotate_left
        · rintro w' ⟨s0, s1, s2, s3⟩
          go_simp
          with_reducible rfl
        rotate_left
        · simp only [Act.put, List.setIfInBounds_toArray, List.set_cons_zero, List.set_cons_succ, i64_w, i32_w]
          rfl
        refine take_ (i := 10) (N := some 44) (v := ?_) (a' := ?_) #[true, true, true, true, true, true, true, true, true, true, true, false, true, true, false] rfl rfl (by kernel_rfl) (fun _ _ _ h => h) (Or.inl ⟨by rfl, ?_⟩) hHeld ?_ ?_
        rotate_left
        · rintro w' ⟨s0, s1, s2, s3⟩
          go_simp
          with_reducible rfl
        rotate_left
        · simp only [Act.put, List.setIfInBounds_toArray, List.set_cons_zero, List.set_cons_succ, i64_w, i32_w]
          rfl
        refine one_ (i := 11) (N := some 45) #[true, true, true, true, true, true, true, true, true, true, true, true, true, true, false] rfl rfl (by kernel_rfl) (by decide) (fun K hK => ?_)
        refine goes_ Try.func9 (by kernel_rfl) rfl #[.pointer (some ⟨p, 0, none⟩), .agg #[.string x.f1.f0, .string x.f1.f1, .int .i64 x.f1.f2], .int .i64 x.f2] (by rfl) rfl rfl (by (try simp only [List.map_toArray, List.map_cons, List.map_nil]); first | done | rfl) ?_
        refine ((P4.out.below (drew_below _)).put x.f1 x.f2 HK.out hnb.out false (by rw [HD.out]; rfl)).mono ?_
        rintro e w5 ⟨rfl, hP⟩
        refine ⟨_, rfl, ?_⟩
        have P5 := Aside0.mk (show PX w1 w5 p u6 i n r D D from hP)
        obtain ⟨t0, t1, t2, t3, t4⟩ := HQ.out _ (B1.out.trans (P5.out.b.mono B1.out.size))
        clear hP
        refine hK.out _ _ ⟨t1, t2, t3, t4⟩ (fun hHeld => ?_)
        clear hK K
        refine norm_ (a' := ?_) ?_ ?_
        rotate_left
        · show Act.put _ (some 45) _ = _
          simp only [Act.put, List.setIfInBounds_toArray, List.set_cons_zero, List.set_cons_succ, i64_w, i32_w]
          rfl
        refine pure_ (i := 14) (N := some 48) (v := ?_) (a' := ?_) #[true, true, true, true, true, true, true, true, true, true, true, true, true, true, true] rfl rfl (by kernel_rfl) (fun _ _ _ h => h) (Or.inl ⟨by rfl, ?_⟩) ?_ ?_
        rotate_left
        · intro w'
          go_simp
          with_reducible rfl
        rotate_left
        · simp only [Act.put, List.setIfInBounds_toArray, List.set_cons_zero, List.set_cons_succ, i64_w, i32_w]
          rfl
        refine done_ (by kernel_rfl) ?_
        clear t0 t1 t2 t3 t4
        go_wp2_with fail
        go_roundg k1
        case measure => omega
        case rel => exact ⟨i + 1, by rw [hwi.out], ⟨by have := HI.out; omega⟩, ⟨n, r, D, by have := HLE.out; omega, P5.out.up⟩⟩
      · have c0b : (x.f0 == 0) = false := by simp [c0]
        clear c0
        by_cases c1 : x.f0 = 1
        · have c1b : (x.f0 == 1) = true := by simp [c1]
          clear c1
          go_upto_region 16 with (go_at_call 12; refine (get_of _ w1.heap.size p n D x.f1 u HK.out P4.out.ix.choose_spec.1.ix HD.out).mono ?_; rintro e w5 ⟨rfl, hb⟩; have P5 := Aside0.mk (P4.out.below hb); clear hb t0 t1 t2 t3 t4)
          have HJR := Aside0.mk (P5.out.ent.num j HJ.out.1)
          obtain ⟨ad2, c2, hv6, s3⟩ := HJR.out
          rw [HJ.out.2.2] at s3
          subst hv6
          have hjr : (j : Int) < (r.length : Int) := by have := HJ.out.1; omega
          go_wp2_with fail
          go_roundg k1
          case measure => omega
          case rel => exact ⟨i + 1, by rw [hwi.out], ⟨by have := HI.out; omega⟩, ⟨n, r, D, by have := HLE.out; omega, P5.out.up⟩⟩
        · have c1b : (x.f0 == 1) = false := by simp [c1]
          clear c1
          have j1 : decide (0 ≤ (j : Int)) = true := decide_eq_true (by omega)
          go_wp2_with (first | (go_at_call 11; refine (P4.out.drop x.f1 HK.out hnb.out true (by rw [HD.out]; rfl)).mono ?_; rintro e w5 ⟨rfl, hP⟩; have P5 := Aside0.mk (show PX w1 w5 p u6 i (n - 1) r (upd D x.f1 none) D from hP); clear hP t0 t1 t2 t3 t4) | (go_at_call 19; refine (P5.out.entDrop (by have := hi9.out; omega) x.f1 j HJ.out.1 HJ.out.2.1).mono ?_; rintro e w6 ⟨v', r', rfl, hP⟩; have P6 := Aside0.mk hP; clear hP))
          go_roundg k1
          case measure => omega
          case rel => exact ⟨i + 1, by rw [hwi.out], ⟨by have := HI.out; omega⟩, ⟨n - 1, r', _, by have := HLE.out; omega, P6.out⟩⟩
set_option maxHeartbeats 4000000 in
set_option maxRecDepth 100000 in
theorem play_out (W : World) (room : Int) (A : Option Addr) (c : Nat) (l : List S46)
    (hlong : Calls Try.prog 18 #[.slice A l.length c] W fun e w' => e = .returned (.bool true) ∧ Below W.heap.size W w') :
    Calls Try.prog 5 #[.int .i64 room, .slice A l.length c] W fun e w' => e = .returned (.bool true) ∧ Below W.heap.size W w' := by
  have HLO := Aside0.mk hlong
  clear hlong
  go_enter Try.func5, Try.ntmps5
  go_wp2_with (first | (go_at_call 18; refine HLO.out.mono ?_; rintro e w1 ⟨rfl, hb⟩; have B1 := Aside0.mk hb; clear hb) | (go_at_call 7; refine (same _).mono ?_; rintro e w5 ⟨rfl, hb⟩; have B5 := Aside0.mk hb; clear hb))
  refine bodyPost_ret (results_tmp rfl _ _ _) rfl ?_
  exact ⟨rfl, B1.out.trans (B5.out.mono B1.out.size)⟩
/-- The law KeysPlay. -/
def tendrillaw07_KeysPlay.f (a0 : Int) (l1 : List S46) : Option Bool := some true
theorem tendrillaw07_KeysPlay.calls (a0 : Int) (A1 : Option Addr) (c1 : Nat) (l1 : List (S46)) (r : Bool) (w : World) (hr1 : Kd.C k46 w A1 l1.length l1) (hc1 : l1.length ≤ c1) (h : tendrillaw07_KeysPlay.f a0 l1 = some r) :
    Calls Try.prog 5 #[.int .i64 a0, .slice A1 l1.length c1] w fun e w' => e = .returned (.bool r) ∧ Below w.heap.size w w' := by
  obtain rfl := Option.some.inj h
  obtain ⟨b, hb, h2⟩ := long_calls w A1 c1 l1 hr1 hc1
  cases b with
  | true => exact play_out w a0 A1 c1 l1 hb
  | false => exact play_in w a0 A1 c1 l1 hr1 hc1 (h2 rfl).1 (h2 rfl).2 hb
end Go.Proofs.Ytmndedahkodibaa.G
