/- The law KeysOf walked: it returns true. -/
import Derived.Test.YtmndedahkodibaaH18
namespace Go.Proofs.Ytmndedahkodibaa.G
open Go.RowKit Go.Proofs.YtmndedahkodibaaW.PrintWords Go.Proofs.YtmndedahkodibaaW.PrintLast Go.Proofs.YtmndedahkodibaaW.PrintMore
open Go.Proofs.Ytmndedahkodibaa.Pure (lt Lt Lt_tri Lt_irrefl Lt_trans Rep keys_eq rd_mem find_ref put_ref drop_ref)
set_option linter.unusedVariables false
set_option linter.unusedSimpArgs false

/-- Entries in memory. -/
structure Ent (w : World) (v : Value) (r : List S39) (D : S28 → Option Int) (i : Nat) : Prop where
  sl : ∃ A c, v = .slice A r.length c ∧ r.length ≤ c ∧ Kd.C k39 w A r.length r
  rep : Rep r D
  le : r.length ≤ i
theorem Ent.below {w w' : World} {v : Value} {r : List S39} {D : S28 → Option Int} {i : Nat} (h : Ent w v r D i) (hb : Below w.heap.size w w') : Ent w' v r D i := by
  obtain ⟨⟨A, c, h1, h2, h3⟩, h4, h5⟩ := h
  exact ⟨⟨A, c, h1, h2, Kd.C_below h3 hb⟩, h4, h5⟩
theorem Ent.start (w : World) : Ent w (.slice none 0 0) [] (fun _ => none) 0 := ⟨⟨none, 0, rfl, Nat.le_refl _, ⟨rfl, by decide, fun h => absurd h (by decide)⟩⟩, Rep.nil, Nat.le_refl _⟩
theorem Ent.of_R {w : World} {base : Nat} {ok : Nat → Prop} {v : Value} {r : List S39} {D : S28 → Option Int} {i : Nat} (h : Kd.R k39 39 w base ok v r) (h2 : Rep r D) (h3 : r.length ≤ i) : Ent w v r D i := by
  obtain ⟨A, c, rfl⟩ := Kd.R_slice h
  exact ⟨⟨A, c, rfl, (Kd.R_reads' h).2.1, (Kd.R_reads' h).2.2⟩, h2, h3⟩
theorem Ent.find {w : World} {v : Value} {r : List S39} {D : S28 → Option Int} {i : Nat} (h : Ent w v r D i) (hi : i ≤ 1000000000) (k : S28) :
    Calls Try.prog 14 #[v, .agg #[.string k.f0, .string k.f1, .int .i64 k.f2]] w fun e w' => ∃ t, e = .returned (.int .i64 t) ∧ Below w.heap.size w w' ∧ ((t = -1 ∧ D k = none) ∨ ∃ (j : Nat) (v : Int), t = (j : Int) ∧ j < r.length ∧ (rd_T39 r (j : Int)).f0 = k ∧ (rd_T39 r (j : Int)).f1 = v ∧ D k = some v) := by
  obtain ⟨⟨A, c, rfl, h2, h3⟩, h4, h5⟩ := h
  obtain ⟨t, ⟨f, hf⟩, ht⟩ := find_ref h4 (by omega) k
  exact (tendrilref07_Find.calls f A c r _ _ _ t w h3 h2 hf).mono fun e w' ⟨he, hb⟩ => ⟨t, he, hb, ht⟩
theorem Ent.find_no {w : World} {v : Value} {r : List S39} {D : S28 → Option Int} {i : Nat} (h : Ent w v r D i) (hi : i ≤ 1000000000) (k : S28) (hd : D k = none) :
    Calls Try.prog 14 #[v, .agg #[.string k.f0, .string k.f1, .int .i64 k.f2]] w fun e w' => e = .returned (.int .i64 (-1)) ∧ Below w.heap.size w w' := by
  refine (h.find hi k).mono ?_
  rintro e w' ⟨t, he, hb, ⟨ht, _⟩ | ⟨j, v, _, _, _, _, h2⟩⟩
  · exact ⟨ht ▸ he, hb⟩
  · rw [hd] at h2; cases h2
theorem Ent.find_yes {w : World} {v : Value} {r : List S39} {D : S28 → Option Int} {i : Nat} (h : Ent w v r D i) (hi : i ≤ 1000000000) (k : S28) (n : Int) (hd : D k = some n) :
    Calls Try.prog 14 #[v, .agg #[.string k.f0, .string k.f1, .int .i64 k.f2]] w fun e w' => ∃ j : Nat, e = .returned (.int .i64 (j : Int)) ∧ Below w.heap.size w w' ∧ j < r.length ∧ (rd_T39 r (j : Int)).f0 = k ∧ (rd_T39 r (j : Int)).f1 = n := by
  refine (h.find hi k).mono ?_
  rintro e w' ⟨t, he, hb, ⟨ht, h2⟩ | ⟨j, v, ht, h3, h4, h5, h2⟩⟩
  · rw [hd] at h2; cases h2
  · rw [hd] at h2
    injection h2 with h2
    exact ⟨j, ht ▸ he, hb, h3, h4, h5.trans h2.symm⟩
theorem Ent.put {w : World} {v : Value} {r : List S39} {D : S28 → Option Int} {i : Nat} (h : Ent w v r D i) (hi : i ≤ 100000000) (k : S28) (n : Int) (hk : Fit k) (hd : D k = none) :
    Calls Try.prog 15 #[v, .agg #[.string k.f0, .string k.f1, .int .i64 k.f2, .int .i64 n]] w fun e w' => ∃ v' r', e = .returned v' ∧ Below w.heap.size w w' ∧ Ent w' v' r' (upd D k (some n)) (i + 1) := by
  obtain ⟨⟨A, c, rfl, h2, h3⟩, h4, h5⟩ := h
  obtain ⟨r', ⟨f, hf⟩, hr, hl⟩ := put_ref h4 (by omega) k n hk hd
  exact (tendrilref07_Put.calls f A c r _ _ _ n r' w h3 h2 hf).mono fun e w' ⟨v', he, hR, hb⟩ => ⟨v', r', he, hb, Ent.of_R hR hr (by omega)⟩
theorem Ent.drop {w : World} {v : Value} {r : List S39} {D : S28 → Option Int} {i : Nat} (h : Ent w v r D i) (hi : i ≤ 100000000) (k : S28) (j : Nat) (hj : j < r.length) (hk : (rd_T39 r (j : Int)).f0 = k) :
    Calls Try.prog 19 #[v, .int .i64 (j : Int)] w fun e w' => ∃ v' r', e = .returned v' ∧ Below w.heap.size w w' ∧ Ent w' v' r' (upd D k none) (i + 1) := by
  obtain ⟨⟨A, c, rfl, h2, h3⟩, h4, h5⟩ := h
  obtain ⟨r', hf, hr, hl⟩ := drop_ref h4 (by omega) k j hj hk
  exact (tendrilref07_Drop.calls A c r _ r' w h3 h2 hf).mono fun e w' ⟨v', he, hR, hb⟩ => ⟨v', r', he, hb, Ent.of_R hR hr (by omega)⟩

theorem Ent.all {w : World} {v : Value} {r : List S39} {D : S28 → Option Int} {i : Nat} (h : Ent w v r D i) (base p n : Nat) (hnb : n ≤ 1073741824) (hx : IX w base p n D) :
    Calls Try.prog 16 #[.pointer (some ⟨p, 0, none⟩), v] w fun e w' => e = .returned (.bool true) ∧ Below w.heap.size w w' := by
  obtain ⟨⟨A, c, rfl, h2, h3⟩, h4, h5⟩ := h
  exact all_walk w base p n D hnb hx A c r h3 h4
theorem at28 {w : World} {A : Option Addr} {xs : List S28} (h : Kd.C k28 w A xs.length xs) (i : Nat) (hi : i < xs.length) :
    ∃ ad, A = some ad ∧ w.cell? (ad.add (i * 3)) = some (.string (rd_T28 xs (i : Int)).f0) ∧ w.cell? ⟨(ad.add (i * 3)).block, (ad.add (i * 3)).off + 1, none⟩ = some (.string (rd_T28 xs (i : Int)).f1) ∧ w.cell? ⟨(ad.add (i * 3)).block, (ad.add (i * 3)).off + 2, none⟩ = some (.int .i64 (rd_T28 xs (i : Int)).f2) := by
  obtain ⟨ad, h1, h2, h3, h4⟩ := at_T28 h (i : Int) (by omega) (by omega)
  rw [Int.toNat_natCast] at h2 h3 h4
  exact ⟨ad, h1, h2, h3, h4⟩

set_option maxHeartbeats 4000000 in
set_option maxRecDepth 100000 in
theorem of_in (W : World) (A : Option Addr) (c : Nat) (l : List S28) (hC : Kd.C k28 W A l.length l) (hn : l.length ≤ 100) : Calls Try.prog 4 #[.slice A l.length c] W fun e w' => e = .returned (.bool true) ∧ Below W.heap.size W w' := by
  have HC := Aside0.mk hC
  have HN := Aside0.mk hn
  have c0 : decide ((100 : Int) < (l.length : Int)) = false := decide_eq_false (by omega)
  clear hC hn
  go_enter Try.func4, Try.ntmps4
  go_wp2_with fail
  clear c0
  go_loopg [3, 4, 11] l.length (fun kq v3 v4 v11 w => ∃ i : Nat, v11 = .int .i64 (i : Int) ∧ Aside0 (i + kq = l.length) ∧ Aside0 (Below W.heap.size W w) ∧ Aside0 (∃ r, Ent w v3 r (ofM l i) i) ∧ Aside0 (∀ j, j < i → Fit (rd_T28 l (j : Int))))
  case atStart => exact ⟨0, rfl, ⟨by omega⟩, ⟨Below.refl _ _⟩, ⟨[], Ent.start _⟩, ⟨fun j hj => by omega⟩⟩
  case round =>
  obtain ⟨i, rfl, HI, HB, HE, HF⟩ := hrel
  obtain ⟨v, hv⟩ : ∃ v, u3 = v := ⟨_, rfl⟩
  subst hv
  cases gk with
  | zero =>
    have hlt : ¬ i < l.length := by have := HI.out; omega
    have hi : i = l.length := by have := HI.out; omega
    have HO := Aside0.mk (Of wr A c l (Kd.C_below HC.out HB.out) (fun j hj => HF.out j (by omega)) (by have := HN.out; omega))
    have HEE := Aside0.mk (show ∃ r, Ent wr u3 r (ofM l l.length) l.length from hi ▸ HE.out)
    clear hi
    go_wp2_with (first | (go_at_call 17; refine HO.out.mono ?_; rintro e w3 ⟨p, rfl, hb, hi⟩; have B3 := Aside0.mk hb; have I3 := Aside0.mk hi; clear hb hi) | (go_at_call 16; refine ((Ent.below HEE.out.choose_spec B3.out).all _ p _ (by have := ofN_le l l.length; have := HN.out; omega) I3.out).mono ?_; rintro e w4 ⟨rfl, hb⟩; have B4 := Aside0.mk hb; clear hb) | (go_at_call 7; refine (same _).mono ?_; rintro e w5 ⟨rfl, hb⟩; have B5 := Aside0.mk hb; clear hb))
    refine bodyPost_ret (results_tmp rfl _ _ _) rfl ?_
    have h1 := HB.out.trans (B3.out.mono HB.out.size)
    have h2 := h1.trans (B4.out.mono h1.size)
    exact ⟨rfl, h2.trans (B5.out.mono h2.size)⟩
  | succ k1 =>
    have hlt : i < l.length := by have := HI.out; omega
    have HIL := Aside0.mk hlt
    obtain ⟨x, hx⟩ : ∃ x, rd_T28 l (i : Int) = x := ⟨_, rfl⟩
    have HXX := Aside0.mk hx
    obtain ⟨ad, rfl, t0, t1, t2⟩ := at28 (Kd.C_below HC.out HB.out) i hlt
    rw [hx] at t0 t1 t2
    have hwi : Aside0 (wrap64 ((i : Int) + 1) = ((i + 1 : Nat) : Int)) := ⟨by have := HN.out; have := HIL.out; unfold wrap64; omega⟩
    clear hx
    by_cases q0 : x.f0.size ≤ 200
    · have q0b : decide ((200 : Int) < (x.f0.size : Int)) = false := decide_eq_false (by omega)
      by_cases q1 : x.f1.size ≤ 200
      · have q1b : decide ((200 : Int) < (x.f1.size : Int)) = false := decide_eq_false (by omega)
        have HFX := Aside0.mk (show Fit x from ⟨by omega, by omega⟩)
        have HF2 := Aside0.mk (show ∀ j, j < i + 1 → Fit (rd_T28 l (j : Int)) from fun j hj => by
          by_cases e : j = i
          · subst e; rw [HXX.out]; exact HFX.out
          · exact HF.out j (by omega))
        clear q0 q1
        obtain ⟨r, hE⟩ := HE.out
        have HE := Aside0.mk hE
        have hi9 : Aside0 (i ≤ 1000000) := ⟨by have := HIL.out; have := HN.out; omega⟩
        go_upto_region 9 with fail
        clear q0b q1b
        have HQ := Aside0.mk (fun (w' : World) (hb : Below wr.heap.size wr w') => show (w'.cell? (ad.add (i * 3)) = some (.string x.f0) ∧ w'.cell? ⟨(ad.add (i * 3)).block, (ad.add (i * 3)).off + 1, none⟩ = some (.string x.f1) ∧ w'.cell? ⟨(ad.add (i * 3)).block, (ad.add (i * 3)).off + 2, none⟩ = some (.int .i64 x.f2)) from by
          obtain ⟨ad2, h2, q0, q1, q2⟩ := at28 (Kd.C_below HC.out (HB.out.trans (hb.mono HB.out.size))) i HIL.out
          obtain rfl := Option.some.inj h2
          rw [HXX.out] at q0 q1 q2
          exact ⟨q0, q1, q2⟩)
        cases hd : ofM l i x with
        | none =>
          have HD := Aside0.mk hd
          clear hd
          have HM := Aside0.mk (show ofM l (i + 1) = upd (ofM l i) x (some (i : Int)) from by
            show putD (ofM l i) (rd_T28 l (i : Int)) _ = _
            rw [HXX.out]
            unfold putD
            rw [HD.out]
            rfl)
          go_wp2_with (first | (go_at_call 14; refine (HE.out.find_no (by have := hi9.out; omega) x HD.out).mono ?_; rintro e w4 ⟨rfl, hb⟩; have B4 := Aside0.mk hb; have E4 := Aside0.mk (HE.out.below hb); obtain ⟨t0, t1, t2⟩ := HQ.out _ hb; clear hb) | (go_at_call 15; refine (E4.out.put (by have := hi9.out; omega) x (i : Int) HFX.out HD.out).mono ?_; rintro e w5 ⟨v', r', rfl, hb, hE⟩; have B5 := Aside0.mk hb; have E5 := Aside0.mk hE; clear hb hE))
          go_roundg k1
          case measure => omega
          case rel =>
            have h1 := HB.out.trans (B4.out.mono HB.out.size)
            refine ⟨i + 1, by rw [hwi.out], ⟨by have := HI.out; omega⟩, ⟨h1.trans (B5.out.mono h1.size)⟩, ⟨r', ?_⟩, HF2⟩
            rw [HM.out]
            exact E5.out
        | some n =>
          have HD := Aside0.mk hd
          clear hd
          have HM := Aside0.mk (show ofM l (i + 1) = ofM l i from by
            show putD (ofM l i) (rd_T28 l (i : Int)) _ = _
            rw [HXX.out]
            unfold putD
            rw [HD.out]
            rfl)
          go_wp2_with (go_at_call 14; refine (HE.out.find_yes (by have := hi9.out; omega) x n HD.out).mono ?_; rintro e w4 ⟨j, rfl, hb, hj, _, _⟩; have B4 := Aside0.mk hb; have E4 := Aside0.mk (HE.out.below hb); clear hb hj)
          go_roundg k1
          case measure => omega
          case rel =>
            have h1 := HB.out.trans (B4.out.mono HB.out.size)
            refine ⟨i + 1, by rw [hwi.out], ⟨by have := HI.out; omega⟩, ⟨h1⟩, ⟨r, ?_⟩, HF2⟩
            rw [HM.out]
            exact ⟨E4.out.sl, E4.out.rep, by have := E4.out.le; omega⟩
      · have q1b : decide ((200 : Int) < (x.f1.size : Int)) = true := decide_eq_true (by omega)
        clear q0 q1
        go_wp2_with (go_at_call 7; refine (same _).mono ?_; rintro e w5 ⟨rfl, hb⟩; have B5 := Aside0.mk hb; clear hb)
        refine bodyPost_ret (results_tmp rfl _ _ _) rfl ?_
        exact ⟨rfl, HB.out.trans (B5.out.mono HB.out.size)⟩
    · have q0b : decide ((200 : Int) < (x.f0.size : Int)) = true := decide_eq_true (by omega)
      clear q0
      go_wp2_with (go_at_call 7; refine (same _).mono ?_; rintro e w5 ⟨rfl, hb⟩; have B5 := Aside0.mk hb; clear hb)
      refine bodyPost_ret (results_tmp rfl _ _ _) rfl ?_
      exact ⟨rfl, HB.out.trans (B5.out.mono HB.out.size)⟩
set_option maxHeartbeats 4000000 in
set_option maxRecDepth 100000 in
theorem of_out (W : World) (A : Option Addr) (c : Nat) (l : List S28) (hn : ¬ l.length ≤ 100) : Calls Try.prog 4 #[.slice A l.length c] W fun e w' => e = .returned (.bool true) ∧ Below W.heap.size W w' := by
  have c0 : decide ((100 : Int) < (l.length : Int)) = true := decide_eq_true (by omega)
  clear hn
  go_enter Try.func4, Try.ntmps4
  go_wp2_with (go_at_call 7; refine (same _).mono ?_; rintro e w5 ⟨rfl, hb⟩; have B5 := Aside0.mk hb; clear hb)
  refine bodyPost_ret (results_tmp rfl _ _ _) rfl ?_
  exact ⟨rfl, B5.out⟩
/-- The law KeysOf. -/
def tendrillaw07_KeysOf.f (l0 : List S28) : Option Bool := some true
theorem tendrillaw07_KeysOf.calls (A0 : Option Addr) (c0 : Nat) (l0 : List (S28)) (r : Bool) (w : World) (hr0 : Kd.C k28 w A0 l0.length l0) (hc0 : l0.length ≤ c0) (h : tendrillaw07_KeysOf.f l0 = some r) :
    Calls Try.prog 4 #[.slice A0 l0.length c0] w fun e w' => e = .returned (.bool r) ∧ Below w.heap.size w w' := by
  obtain rfl := Option.some.inj h
  by_cases hn : l0.length ≤ 100
  · exact of_in w A0 c0 l0 hr0 hn
  · exact of_out w A0 c0 l0 hn
end Go.Proofs.Ytmndedahkodibaa.G
