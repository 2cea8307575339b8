/- The law's all() walked: a pool has just these items' links. -/
import Derived.Test.YtgamhkhninogeaaH10
namespace Go.Proofs.Ytgamhkhninogeaa.Pure
open Go.RowKit Go.Proofs.Ytgamhkhninogeaa.G Go.Proofs.YtgamhkhninogeaaW.PrintLast
open Go.Proofs.YtgamhkhninogeaaW.PrintWords (LeO rd)
set_option linter.unusedVariables false
theorem level_ev (r : List S65) : ∀ (l : List Int) (x : Int) (m : Nat), Way (Ur r) x (x :: l) → (∀ a ∈ x :: l, 0 ≤ a ∧ a < r.length) → m + l.length ≤ 1000000 → Ev (fun k => tendrilref19_Level.l0 k r x (m : Int)) ((m + l.length : Nat) : Int)
  | [], x, m, ⟨_, h2, h3⟩, hb, hm => by
    have hx := hb x (List.mem_cons_self ..)
    have h3 : (rd_T65 r x).f0 < 0 := h3
    exact (Ev.pure _).step (fun k => by rw [tendrilref19_Level.l0, if_pos hx.1, if_pos hx.2, if_neg (by omega)]; rfl)
  | a :: l, x, m, ⟨_, h2, h3⟩, hb, hm => by
    have hx := hb x (List.mem_cons_self ..)
    obtain ⟨q1, q2, q3⟩ := h3
    have hm2 : m + 1 + l.length ≤ 1000000 := by simp at hm; omega
    have ih := level_ev r l a (m + 1) ⟨rfl, q2, q3⟩ (fun b hb2 => hb b (List.mem_cons_of_mem _ hb2)) hm2
    have e : ((m + 1 + l.length : Nat) : Int) = ((m + (a :: l).length : Nat) : Int) := by simp; omega
    rw [e] at ih
    have q1 : (rd_T65 r x).f0 = a := q1
    refine ih.step (fun k => ?_)
    rw [tendrilref19_Level.l0, if_pos hx.1, if_pos hx.2, q1, if_pos (by omega), w1 (by omega) (by omega)]
    rfl
theorem ints_l0 (l : List Int) (hl : l.length ≤ 1000000) (d : Nat) : ∀ i : Nat, i + d = l.length → Ev (fun k => tendrilplain_Ints.l0 k l l (l.length : Int) (i : Int)) true := by
  induction d with
  | zero => intro i hi; exact (Ev.pure _).step (fun k => by rw [tendrilplain_Ints.l0, if_neg (by omega)])
  | succ d ih =>
    intro i hi
    refine (ih (i + 1) (by omega)).step (fun k => ?_)
    rw [tendrilplain_Ints.l0, if_pos (by omega), if_pos (by omega), if_pos (by omega), if_pos (by omega), if_pos rfl, w1 (by omega) (by omega)]
    rfl
theorem ints_ref (l : List Int) (hl : l.length ≤ 1000000) : ∃ k, tendrilplain_Ints.f k l l = some true := by
  refine ((ints_l0 l hl l.length 0 (by omega)).eq (f := fun k => tendrilplain_Ints.f k l l) (fun k => ?_)).ex
  unfold tendrilplain_Ints.f
  rw [if_pos rfl]
  rfl
end Go.Proofs.Ytgamhkhninogeaa.Pure
namespace Go.Proofs.Ytgamhkhninogeaa.G
open Go.RowKit Go.Proofs.YtgamhkhninogeaaW.PrintWords Go.Proofs.YtgamhkhninogeaaW.PrintLast Go.Proofs.YtgamhkhninogeaaW.PrintMore
open Go.Proofs.Ytgamhkhninogeaa.Pure (LR Ur Kr ChT SibT lastD find_ref rd_get level_ev ints_ref)
set_option linter.unusedVariables false
set_option linter.unusedSimpArgs false

theorem ch_of {F : FF} {c : Nat} : ∀ {l : List Int} {m : Int}, ChT F c m l (-1) → Ch F c m l
  | [], m, h => by have h : m = -1 := h; show m < 0; omega
  | a :: l, m, ⟨h1, h2, h3⟩ => ⟨h1, h2, ch_of h3⟩
theorem sib_of {F : FF} {x : Int} : ∀ {l : List Int} {a : Int}, SibT F x a l (F x 3) → Sib F x a l
  | [], a, h => (show F x 3 = a from (show a = F x 3 from h).symm)
  | b :: l, a, ⟨h1, h2, h3⟩ => ⟨h1, h2, sib_of h3⟩
theorem way_ch {F : FF} {U : Int → Int} : ∀ {l : List Int} {x : Int}, Go.Proofs.Ytgamhkhninogeaa.Pure.Way U x l → (∀ a ∈ l, F a 1 = U a) → Ch F 1 x l
  | [], x, h, _ => h
  | a :: l, x, ⟨h1, h2, h3⟩, hb => ⟨h1, h2, by
      have e := hb a (List.mem_cons_self ..)
      rw [e]
      exact way_ch h3 (fun b hb2 => hb b (List.mem_cons_of_mem _ hb2))⟩
theorem num_of {v : Int} (h : -1 ≤ v) : num v = v := by unfold num; split <;> omega
/-- No link is below -1. -/
theorem lr_ge {r : List S65} {F : FF} (h : LR r F) (i : Int) (hi : inP r.length i) : -1 ≤ F i 1 ∧ -1 ≤ F i 2 ∧ -1 ≤ F i 3 ∧ -1 ≤ F i 4 ∧ -1 ≤ F i 5 := by
  have kge (u : Int) (hu : inP r.length u) (m : Nat) (hm : m < (Kr r u).length) : -1 ≤ rd (Kr r u) (m : Int) := by
    rw [rd_get _ m hm]
    have := (h.st.kid u _ hu.1 hu.2).1 (List.getElem_mem hm)
    omega
  have hup := h.st.up i hi.1 hi.2
  have e := lr_ends h i hi
  have q45 : -1 ≤ F i 4 ∧ -1 ≤ F i 5 := by
    by_cases hu : Ur r i < 0
    · have := h.fr i hi.1 hi.2 hu
      omega
    · have hun : inP r.length (Ur r i) := ⟨by omega, hup.2⟩
      have hm := (h.st.kid (Ur r i) i hun.1 hun.2).2 ⟨hi.1, hi.2, rfl⟩
      obtain ⟨j, hj, hji⟩ := List.getElem_of_mem hm
      have s := lr_sibs h i hi (by omega) j hj (by rw [rd_get _ j hj]; exact hji)
      constructor
      · cases j with
        | zero => have := s.1 rfl; omega
        | succ m => have := s.2.1 m rfl; rw [this]; exact kge _ hun m (by omega)
      · by_cases c : j + 1 < (Kr r (Ur r i)).length
        · rw [s.2.2.2 c]; exact kge _ hun (j + 1) c
        · have := s.2.2.1 c; omega
  refine ⟨by rw [(h.lk i hi.1 hi.2).1]; exact hup.1, ?_, ?_, q45⟩
  · by_cases c : (Kr r i).length = 0
    · have := (e.1 c).1; omega
    · obtain ⟨m, hm⟩ : ∃ m, (Kr r i).length = m + 1 := ⟨(Kr r i).length - 1, by omega⟩
      rw [(e.2 m hm).1]; exact kge i hi 0 (by omega)
  · by_cases c : (Kr r i).length = 0
    · have := (e.1 c).2; omega
    · obtain ⟨m, hm⟩ : ∃ m, (Kr r i).length = m + 1 := ⟨(Kr r i).length - 1, by omega⟩
      rw [(e.2 m hm).2]; exact kge i hi m (by omega)
abbrev A5 (a b c d e : Int) : Value := .agg #[.int .i64 a, .int .i64 b, .int .i64 c, .int .i64 d, .int .i64 e]
theorem eqA27 (d : Nat) (w : World) (x0 x1 x2 x3 x4 y0 y1 y2 y3 y4 : Int) :
    (Op.equalIn (d + 2) 27 (.agg #[.int .i64 x0, .int .i64 x1, .int .i64 x2, .int .i64 x3, .int .i64 x4]) (.agg #[.int .i64 y0, .int .i64 y1, .int .i64 y2, .int .i64 y3, .int .i64 y4])).run Try.prog w = .ok (x0 == y0 && (x1 == y1 && (x2 == y2 && (x3 == y3 && (x4 == y4))))) w := by
  refine eqA_of Try.underlying27 (by kernel_rfl) ?_
  refine eqf_cons (by rfl) (by go_simp; rfl) (by go_simp; rfl) (by go_simp) ?_
  refine eqf_cons (by rfl) (by go_simp; rfl) (by go_simp; rfl) (by go_simp) ?_
  refine eqf_cons (by rfl) (by go_simp; rfl) (by go_simp; rfl) (by go_simp) ?_
  refine eqf_cons (by rfl) (by go_simp; rfl) (by go_simp; rfl) (by go_simp) ?_
  exact eqf_last (by rfl) (by go_simp; rfl) (by go_simp; rfl) (by go_simp)
attribute [local go_sem high] eqA27

set_option maxHeartbeats 4000000 in
set_option maxRecDepth 100000 in
theorem all_walk (W : World) (base p : Nat) (bs : List Nat) (F : FF) (r : List S65) (hP : PW W base p bs F) (hL : LR r F) (hlen : r.length = bs.length) (A : Option Addr) (c : Nat) (hC : Kd.C k65 W A r.length r) (hc : r.length ≤ c) (hn : r.length ≤ 4096) :
    Calls Try.prog 17 #[ptr p, .slice A r.length c] W fun e w' => e = .returned (.bool true) ∧ Below W.heap.size W w' := by
  have HP := Aside0.mk hP
  have HL := Aside0.mk hL
  have HLE := Aside0.mk hlen
  have HC := Aside0.mk hC
  have HCC := Aside0.mk hc
  have HN := Aside0.mk hn
  have f1 : Aside0 (∀ a : Int, 0 ≤ a → a < r.length → F a 1 = Ur r a) := ⟨fun a h0 h1 => (hL.lk a h0 h1).1⟩
  have HWY := Aside0.mk (fun (i : Int) (hi : inP r.length i) => show ∃ l, Go.Proofs.Ytgamhkhninogeaa.Pure.Way (Ur r) i (i :: l) ∧ (∀ a ∈ i :: l, 0 ≤ a ∧ a < r.length) ∧ l.length < r.length from hL.st.way1 i hi.1 hi.2)
  clear hP hL hlen hC hc hn
  go_enter Try.func17, Try.ntmps17
  go_wp2_with fail
  go_loopg [5, 6, 7, 10] r.length (fun kq v5 v6 v7 v10 w => ∃ i : Nat, v10 = .int .i64 (i : Int) ∧ Aside0 (i + kq = r.length) ∧ Aside0 (Below W.heap.size W w))
  case atStart => exact ⟨0, rfl, ⟨by omega⟩, ⟨Below.refl _ _⟩⟩
  case round =>
  obtain ⟨i, rfl, HI, HB⟩ := hrel
  cases gk with
  | zero =>
    have hlt : ¬ i < r.length := by have := HI.out; omega
    have HS := Aside0.mk (show Calls Try.prog 13 #[ptr p] wr fun e w' => e = .returned (.bool true) ∧ w' = wr from by
      refine Sound wr base p bs F (HP.out.below HB.out) (by rw [← HLE.out]; exact HN.out) (fun x hx => ?_) (fun x hx => ?_)
      · rw [← HLE.out] at hx
        obtain ⟨q1, q2, q3⟩ := HL.out.lk x hx.1 hx.2
        exact ⟨Kr r x, ch_of q2, sib_of q3, by rw [← HLE.out]; exact HL.out.kids_le x hx.1 hx.2⟩
      · rw [← HLE.out] at hx
        obtain ⟨l, q1, q2, q3⟩ := HWY.out x hx
        refine ⟨l, ?_, by rw [← HLE.out]; exact q3⟩
        rw [f1.out x hx.1 hx.2]
        exact way_ch q1.2.2 (fun a ha => f1.out a (q2 a (List.mem_cons_of_mem _ ha)).1 (q2 a (List.mem_cons_of_mem _ ha)).2))
    go_wp2_with (go_at_call 13; refine HS.out.mono ?_; rintro e w9 ⟨rfl, hw⟩; rw [hw]; clear hw w9)
    refine bodyPost_ret (results_tmp rfl _ _ _) rfl ?_
    exact ⟨rfl, HB.out⟩
  | succ k1 =>
    have hlt : i < r.length := by have := HI.out; omega
    have HX := Aside0.mk (show inP r.length (i : Int) from ⟨by omega, by omega⟩)
    have HXB := Aside0.mk (show inP bs.length (i : Int) from HLE.out ▸ HX.out)
    have hwi : Aside0 (wrap64 ((i : Int) + 1) = ((i + 1 : Nat) : Int)) := ⟨by have := HN.out; have := HI.out; unfold wrap64; omega⟩
    have HGE := Aside0.mk (lr_ge HL.out i HX.out)
    obtain ⟨l, q1, q2, q3⟩ := HWY.out i HX.out
    have HW := Aside0.mk (And.intro q1 (And.intro q2 q3))
    obtain ⟨v1, hv1⟩ : ∃ v, F i 1 = v := ⟨_, rfl⟩
    obtain ⟨v2, hv2⟩ : ∃ v, F i 2 = v := ⟨_, rfl⟩
    obtain ⟨v3, hv3⟩ : ∃ v, F i 3 = v := ⟨_, rfl⟩
    obtain ⟨v4, hv4⟩ : ∃ v, F i 4 = v := ⟨_, rfl⟩
    obtain ⟨v5, hv5⟩ : ∃ v, F i 5 = v := ⟨_, rfl⟩
    have HLI := Aside0.mk (show Calls Try.prog 8 #[ptr p, .int .i64 (i : Int)] wr fun e w' => e = .returned (.tuple #[.agg #[.int .i64 v1, .int .i64 v2, .int .i64 v3, .int .i64 v4, .int .i64 v5], .bool true]) ∧ Below wr.heap.size wr w' from by
      have q := Links_in wr base p bs F (HP.out.below HB.out) i HXB.out
      rw [num_of HGE.out.1, num_of HGE.out.2.1, num_of HGE.out.2.2.1, num_of HGE.out.2.2.2.1, num_of HGE.out.2.2.2.2, hv1, hv2, hv3, hv4, hv5] at q
      exact q)
    have HFV := Aside0.mk (fun (w : World) (hb : Below W.heap.size W w) => show Calls Try.prog 23 #[.slice A r.length c, .int .i64 (i : Int)] w fun e w' => e = .returned (.agg #[.int .i64 v1, .int .i64 v2, .int .i64 v3, .int .i64 v4, .int .i64 v5]) ∧ Below w.heap.size w w' from by
      have q := Five_walk w A c r F (Kd.C_below HC.out hb) HCC.out HL.out (by have := HN.out; omega) i HX.out
      rw [hv1, hv2, hv3, hv4, hv5] at q
      exact q)
    have HV := Aside0.mk (And.intro hv1 (And.intro hv2 (And.intro hv3 (And.intro hv4 hv5))))
    obtain ⟨ad, A1, c1, rfl, _, t1W, hkl, hKW⟩ := at_T65 HC.out i HX.out.1 HX.out.2
    rw [Int.toNat_natCast] at t1W
    obtain ⟨ks, hks⟩ : ∃ ks, Kr r i = ks := ⟨_, rfl⟩
    rw [show (rd_T65 r (i : Int)).f1 = ks from hks] at t1W hkl hKW
    have HKS := Aside0.mk hks
    have HTK := Aside0.mk (And.intro t1W (And.intro hkl hKW))
    have HKN := Aside0.mk (show ks.length ≤ 1000000 from by have := HL.out.kids_le i HX.out.1 HX.out.2; rw [hks] at this; have := HN.out; omega)
    clear hv1 hv2 hv3 hv4 hv5 t1W hkl hKW q1 q2 q3 hks
    go_upto_region 5 with (go_at_call 8; refine HLI.out.mono ?_; rintro e w1 ⟨rfl, hb⟩; have B1 := Aside0.mk (HB.out.trans (hb.mono HB.out.size)); clear hb)
    obtain ⟨b6, hb6⟩ : ∃ g, w1.heap.size = g := ⟨_, rfl⟩
    obtain ⟨w2, hw2⟩ : ∃ w2, w1.alloc (.cells #[.int .i64 v1, .int .i64 v2, .int .i64 v3, .int .i64 v4, .int .i64 v5] 27) = w2 := ⟨_, rfl⟩
    rw [hw2, hb6]
    have BX := Aside0.mk (show Below W.heap.size W w2 from hw2 ▸ below_alloc B1.out _)
    have X := Aside0.mk (show w2.heap[b6]? = some (.cells #[.int .i64 v1, .int .i64 v2, .int .i64 v3, .int .i64 v4, .int .i64 v5] 27 (0, 0)) from by rw [← hw2, ← hb6]; exact heap_alloc_new w1 _)
    clear hw2 hb6
    have y0 : w2.cell? ⟨b6, 0, none⟩ = some (.int .i64 v1) := (blk_cell X.out 0).trans rfl
    have y1 : w2.cell? ⟨b6, 1, none⟩ = some (.int .i64 v2) := (blk_cell X.out 1).trans rfl
    have y2 : w2.cell? ⟨b6, 2, none⟩ = some (.int .i64 v3) := (blk_cell X.out 2).trans rfl
    have y3 : w2.cell? ⟨b6, 3, none⟩ = some (.int .i64 v4) := (blk_cell X.out 3).trans rfl
    have y4 : w2.cell? ⟨b6, 4, none⟩ = some (.int .i64 v5) := (blk_cell X.out 4).trans rfl
    have y5 := cell_keep HTK.out.1 BX.out
    refine start_ (n := 30) (S := (fun w' => w'.cell? ⟨b6, 0, none⟩ = some (.int .i64 v1) ∧ w'.cell? ⟨b6, 1, none⟩ = some (.int .i64 v2) ∧ w'.cell? ⟨b6, 2, none⟩ = some (.int .i64 v3) ∧ w'.cell? ⟨b6, 3, none⟩ = some (.int .i64 v4) ∧ w'.cell? ⟨b6, 4, none⟩ = some (.int .i64 v5) ∧ w'.cell? ⟨(ad.add (i * 2)).block, (ad.add (i * 2)).off + 1, none⟩ = some (.slice A1 ks.length c1))) (ds := [27]) #[false, false, false, false, false, false, false, false, false, false, false, false, false, false, false, false, false, false, false, false, false, false, false, false, false, false, false, false, false, false] (by kernel_rfl) rfl rfl ?_ ?_
    · exact ⟨y0, y1, y2, y3, y4, y5⟩
    intro hHeld
    clear y0 y1 y2 y3 y4 y5; have X := Aside0.mk (show w2.drew.heap[b6]? = some (.cells #[.int .i64 v1, .int .i64 v2, .int .i64 v3, .int .i64 v4, .int .i64 v5] 27 (0, 0)) from X.out); have BX := Aside0.mk (show Below W.heap.size W w2.drew from BX.out.drew); generalize w2.drew = w3 at X BX hHeld ⊢
    refine pure_ (i := 0) (N := some 19) (v := ?_) (a' := ?_) #[true, false, false, false, false, false, false, false, false, false, false, false, false, false, false, false, false, false, false, false, false, false, false, false, false, false, false, false, false, false] rfl rfl (by kernel_rfl) (fun _ _ _ h => h) (Or.inl ⟨by rfl, ?_⟩) ?_ ?_
    rotate_left
    · intro w'
      go_simp
      with_reducible rfl
    rotate_left
    · simp only [Act.put, List.setIfInBounds_toArray, List.set_cons_zero, List.set_cons_succ, i64_w, i32_w]
      rfl
    refine pure_ (i := 1) (N := some 20) (v := ?_) (a' := ?_) #[true, true, false, false, false, false, false, false, false, false, false, false, false, false, false, false, false, false, false, false, false, false, false, false, false, false, false, false, false, false] rfl rfl (by kernel_rfl) (fun _ _ _ h => h) (Or.inl ⟨by rfl, ?_⟩) ?_ ?_
    rotate_left
    · intro w'
      go_simp
      with_reducible rfl
    rotate_left
    · simp only [Act.put, List.setIfInBounds_toArray, List.set_cons_zero, List.set_cons_succ, i64_w, i32_w]
      rfl
    refine pure_ (i := 2) (N := some 21) (v := ?_) (a' := ?_) #[true, true, true, false, false, false, false, false, false, false, false, false, false, false, false, false, false, false, false, false, false, false, false, false, false, false, false, false, false, false] rfl rfl (by kernel_rfl) (fun _ _ _ h => h) (Or.inl ⟨by rfl, ?_⟩) ?_ ?_
    rotate_left
    · intro w'
      go_simp
      with_reducible rfl
    rotate_left
    · simp only [Act.put, List.setIfInBounds_toArray, List.set_cons_zero, List.set_cons_succ, i64_w, i32_w]
      rfl
    refine pure_ (i := 4) (N := some 23) (v := ?_) (a' := ?_) #[true, true, true, false, true, false, false, false, false, false, false, false, false, false, false, false, false, false, false, false, false, false, false, false, false, false, false, false, false, false] rfl rfl (by kernel_rfl) (fun _ _ _ h => h) (Or.inl ⟨by rfl, ?_⟩) ?_ ?_
    rotate_left
    · intro w'
      go_simp
      with_reducible rfl
    rotate_left
    · simp only [Act.put, List.setIfInBounds_toArray, List.set_cons_zero, List.set_cons_succ, i64_w, i32_w]
      rfl
    refine pure_ (i := 5) (N := some 24) (v := ?_) (a' := ?_) #[true, true, true, false, true, true, false, false, false, false, false, false, false, false, false, false, false, false, false, false, false, false, false, false, false, false, false, false, false, false] rfl rfl (by kernel_rfl) (fun _ _ _ h => h) (Or.inl ⟨by rfl, ?_⟩) ?_ ?_
    rotate_left
    · intro w'
      go_simp
      with_reducible rfl
    rotate_left
    · simp only [Act.put, List.setIfInBounds_toArray, List.set_cons_zero, List.set_cons_succ, i64_w, i32_w]
      rfl
    refine take_ (i := 3) (N := some 22) (v := ?_) (a' := ?_) #[true, true, true, true, true, true, false, false, false, false, false, false, false, false, false, false, false, false, false, false, false, false, false, false, false, false, false, false, false, false] rfl rfl (by kernel_rfl) (fun _ _ _ h => h) (Or.inl ⟨by rfl, ?_⟩) hHeld ?_ ?_
    rotate_left
    · rintro w' ⟨s0, s1, s2, s3, s4, s5⟩
      go_simp
      with_reducible rfl
    rotate_left
    · simp only [Act.put, List.setIfInBounds_toArray, List.set_cons_zero, List.set_cons_succ, i64_w, i32_w]
      rfl
    refine one_ (i := 6) (N := some 25) #[true, true, true, true, true, true, true, false, false, false, false, false, false, false, false, false, false, false, false, false, false, false, false, false, false, false, false, false, false, false] rfl rfl (by kernel_rfl) (by decide) (fun K hK => ?_)
    refine goes_ Try.func23 (by kernel_rfl) rfl #[.slice (some ad) r.length c, .int .i64 (i : Int)] (by rfl) rfl rfl (by (try simp only [List.map_toArray, List.map_cons, List.map_nil]); first | done | rfl) ?_
    refine (HFV.out w3 BX.out).mono ?_
    rintro e w4 ⟨rfl, hb⟩
    refine ⟨_, rfl, ?_⟩
    have X := Aside0.mk (blk_below X.out hb)
    have BX := Aside0.mk (BX.out.trans (hb.mono BX.out.size))
    clear hb
    refine hK.out _ _ ⟨(blk_cell X.out 0).trans rfl, (blk_cell X.out 1).trans rfl, (blk_cell X.out 2).trans rfl, (blk_cell X.out 3).trans rfl, (blk_cell X.out 4).trans rfl, cell_keep HTK.out.1 BX.out⟩ (fun hHeld => ?_)
    clear hK K
    refine norm_ (a' := ?_) ?_ ?_
    rotate_left
    · show Act.put _ (some 25) _ = _
      simp only [Act.put, List.setIfInBounds_toArray, List.set_cons_zero, List.set_cons_succ, i64_w, i32_w]
      rfl
    refine pure_ (i := 7) (N := some 26) (v := ?_) (a' := ?_) #[true, true, true, true, true, true, true, true, false, false, false, false, false, false, false, false, false, false, false, false, false, false, false, false, false, false, false, false, false, false] rfl rfl (by kernel_rfl) (fun _ _ _ h => h) (Or.inl ⟨by rfl, ?_⟩) ?_ ?_
    rotate_left
    · intro w'
      go_simp
      with_reducible rfl
    rotate_left
    · simp only [Act.put, List.setIfInBounds_toArray, List.set_cons_zero, List.set_cons_succ, i64_w, i32_w]
      rfl
    refine pure_ (i := 8) (N := some 27) (v := ?_) (a' := ?_) #[true, true, true, true, true, true, true, true, true, false, false, false, false, false, false, false, false, false, false, false, false, false, false, false, false, false, false, false, false, false] rfl rfl (by kernel_rfl) (fun _ _ _ h => h) (Or.inl ⟨by rfl, ?_⟩) ?_ ?_
    rotate_left
    · intro w'
      go_simp
      with_reducible rfl
    rotate_left
    · simp only [Act.put, List.setIfInBounds_toArray, List.set_cons_zero, List.set_cons_succ, i64_w, i32_w]
      rfl
    refine pure_ (i := 9) (N := some 28) (v := ?_) (a' := ?_) #[true, true, true, true, true, true, true, true, true, true, false, false, false, false, false, false, false, false, false, false, false, false, false, false, false, false, false, false, false, false] rfl rfl (by kernel_rfl) (fun _ _ _ h => h) (Or.inl ⟨by rfl, ?_⟩) ?_ ?_
    rotate_left
    · intro w'
      go_simp
      with_reducible rfl
    rotate_left
    · simp only [Act.put, List.setIfInBounds_toArray, List.set_cons_zero, List.set_cons_succ, i64_w, i32_w]
      rfl
    refine pure_ (i := 10) (N := some 29) (v := ?_) (a' := ?_) #[true, true, true, true, true, true, true, true, true, true, true, false, false, false, false, false, false, false, false, false, false, false, false, false, false, false, false, false, false, false] rfl rfl (by kernel_rfl) (fun _ _ _ h => h) (Or.inl ⟨by rfl, ?_⟩) ?_ ?_
    rotate_left
    · intro w'
      go_simp
      with_reducible rfl
    rotate_left
    · simp only [Act.put, List.setIfInBounds_toArray, List.set_cons_zero, List.set_cons_succ, i64_w, i32_w]
      rfl
    refine pure_ (i := 11) (N := some 30) (v := ?_) (a' := ?_) #[true, true, true, true, true, true, true, true, true, true, true, true, false, false, false, false, false, false, false, false, false, false, false, false, false, false, false, false, false, false] rfl rfl (by kernel_rfl) (fun _ _ _ h => h) (Or.inl ⟨by rfl, ?_⟩) ?_ ?_
    rotate_left
    · intro w'
      go_simp
      with_reducible rfl
    rotate_left
    · simp only [Act.put, List.setIfInBounds_toArray, List.set_cons_zero, List.set_cons_succ, i64_w, i32_w]
      rfl
    refine pure_ (i := 13) (N := some 32) (v := ?_) (a' := ?_) #[true, true, true, true, true, true, true, true, true, true, true, true, false, true, false, false, false, false, false, false, false, false, false, false, false, false, false, false, false, false] rfl rfl (by kernel_rfl) (fun _ _ _ h => h) (Or.inl ⟨by rfl, ?_⟩) ?_ ?_
    rotate_left
    · intro w'
      go_simp
      with_reducible rfl
    rotate_left
    · simp only [Act.put, List.setIfInBounds_toArray, List.set_cons_zero, List.set_cons_succ, i64_w, i32_w]
      rfl
    refine pure_ (i := 14) (N := some 33) (v := ?_) (a' := ?_) #[true, true, true, true, true, true, true, true, true, true, true, true, false, true, true, false, false, false, false, false, false, false, false, false, false, false, false, false, false, false] rfl rfl (by kernel_rfl) (fun _ _ _ h => h) (Or.inl ⟨by rfl, ?_⟩) ?_ ?_
    rotate_left
    · intro w'
      go_simp
      with_reducible rfl
    rotate_left
    · simp only [Act.put, List.setIfInBounds_toArray, List.set_cons_zero, List.set_cons_succ, i64_w, i32_w]
      rfl
    refine pure_ (i := 15) (N := some 34) (v := ?_) (a' := ?_) #[true, true, true, true, true, true, true, true, true, true, true, true, false, true, true, true, false, false, false, false, false, false, false, false, false, false, false, false, false, false] rfl rfl (by kernel_rfl) (fun _ _ _ h => h) (Or.inl ⟨by rfl, ?_⟩) ?_ ?_
    rotate_left
    · intro w'
      go_simp
      with_reducible rfl
    rotate_left
    · simp only [Act.put, List.setIfInBounds_toArray, List.set_cons_zero, List.set_cons_succ, i64_w, i32_w]
      rfl
    refine pure_ (i := 16) (N := some 35) (v := ?_) (a' := ?_) #[true, true, true, true, true, true, true, true, true, true, true, true, false, true, true, true, true, false, false, false, false, false, false, false, false, false, false, false, false, false] rfl rfl (by kernel_rfl) (fun _ _ _ h => h) (Or.inl ⟨by rfl, ?_⟩) ?_ ?_
    rotate_left
    · intro w'
      go_simp
      with_reducible rfl
    rotate_left
    · simp only [Act.put, List.setIfInBounds_toArray, List.set_cons_zero, List.set_cons_succ, i64_w, i32_w]
      rfl
    refine take_ (i := 17) (N := some 36) (v := ?_) (a' := ?_) #[true, true, true, true, true, true, true, true, true, true, true, true, false, true, true, true, true, true, false, false, false, false, false, false, false, false, false, false, false, false] rfl rfl (by kernel_rfl) (fun _ _ _ h => h) (Or.inl ⟨by rfl, ?_⟩) hHeld ?_ ?_
    rotate_left
    · rintro w' ⟨s0, s1, s2, s3, s4, s5⟩
      go_simp
      with_reducible rfl
    rotate_left
    · simp only [Act.put, List.setIfInBounds_toArray, List.set_cons_zero, List.set_cons_succ, i64_w, i32_w]
      rfl
    refine one_ (i := 12) (N := some 31) #[true, true, true, true, true, true, true, true, true, true, true, true, true, true, true, true, true, true, false, false, false, false, false, false, false, false, false, false, false, false] rfl rfl (by kernel_rfl) (by decide) (fun K hK => ?_)
    refine goes_ Try.func11 (by kernel_rfl) rfl #[ptr p, .int .i64 (i : Int)] (by rfl) rfl rfl (by (try simp only [List.map_toArray, List.map_cons, List.map_nil]); first | done | rfl) ?_
    refine (Kids_in w4 base p bs F (HP.out.below BX.out) i HXB.out ks (by rw [← HKS.out]; exact ch_of (HL.out.lk i HX.out.1 HX.out.2).2.1) HKN.out).mono ?_
    rintro e w5 ⟨vk, rfl, hR, hb⟩
    obtain ⟨A2, c2, rfl⟩ := Kd.R_slice hR
    refine ⟨_, rfl, ?_⟩
    have HK2 := Aside0.mk (Kd.R_reads' hR).2
    have X := Aside0.mk (blk_below X.out hb)
    have BX := Aside0.mk (BX.out.trans (hb.mono BX.out.size))
    clear hb hR
    refine hK.out _ _ ⟨(blk_cell X.out 0).trans rfl, (blk_cell X.out 1).trans rfl, (blk_cell X.out 2).trans rfl, (blk_cell X.out 3).trans rfl, (blk_cell X.out 4).trans rfl, cell_keep HTK.out.1 BX.out⟩ (fun hHeld => ?_)
    clear hK K
    refine norm_ (a' := ?_) ?_ ?_
    rotate_left
    · show Act.put _ (some 31) _ = _
      simp only [Act.put, List.setIfInBounds_toArray, List.set_cons_zero, List.set_cons_succ, i64_w, i32_w]
      rfl
    refine one_ (i := 18) (N := some 37) #[true, true, true, true, true, true, true, true, true, true, true, true, true, true, true, true, true, true, true, false, false, false, false, false, false, false, false, false, false, false] rfl rfl (by kernel_rfl) (by decide) (fun K hK => ?_)
    refine goes_ Try.func27 (by kernel_rfl) rfl #[.slice A2 ks.length c2, .slice A1 ks.length c1] (by rfl) rfl rfl (by (try simp only [List.map_toArray, List.map_cons, List.map_nil]); first | done | rfl) ?_
    obtain ⟨ki, hki⟩ := ints_ref ks HKN.out
    refine (tendrilplain_Ints.calls ki A2 c2 ks A1 c1 ks true w5 HK2.out.2 HK2.out.1 (Kd.C_below HTK.out.2.2 BX.out) HTK.out.2.1 hki).mono ?_
    rintro e w6 ⟨rfl, ⟨nd, rfl⟩⟩
    refine ⟨_, rfl, ?_⟩
    have hb := pw_below_drewN (Below.refl w5.heap.size w5) nd
    have X := Aside0.mk (blk_below X.out hb)
    have BX := Aside0.mk (BX.out.trans (hb.mono BX.out.size))
    clear hb hki
    refine hK.out _ _ ⟨(blk_cell X.out 0).trans rfl, (blk_cell X.out 1).trans rfl, (blk_cell X.out 2).trans rfl, (blk_cell X.out 3).trans rfl, (blk_cell X.out 4).trans rfl, cell_keep HTK.out.1 BX.out⟩ (fun hHeld => ?_)
    clear hK K
    refine norm_ (a' := ?_) ?_ ?_
    rotate_left
    · show Act.put _ (some 37) _ = _
      simp only [Act.put, List.setIfInBounds_toArray, List.set_cons_zero, List.set_cons_succ, i64_w, i32_w]
      rfl
    refine pure_ (i := 19) (N := some 38) (v := ?_) (a' := ?_) #[true, true, true, true, true, true, true, true, true, true, true, true, true, true, true, true, true, true, true, true, false, false, false, false, false, false, false, false, false, false] rfl rfl (by kernel_rfl) (fun _ _ _ h => h) (Or.inl ⟨by rfl, ?_⟩) ?_ ?_
    rotate_left
    · intro w'
      go_simp
      with_reducible rfl
    rotate_left
    · simp only [Act.put, List.setIfInBounds_toArray, List.set_cons_zero, List.set_cons_succ, i64_w, i32_w]
      rfl
    refine pure_ (i := 20) (N := some 39) (v := ?_) (a' := ?_) #[true, true, true, true, true, true, true, true, true, true, true, true, true, true, true, true, true, true, true, true, true, false, false, false, false, false, false, false, false, false] rfl rfl (by kernel_rfl) (fun _ _ _ h => h) (Or.inl ⟨by rfl, ?_⟩) ?_ ?_
    rotate_left
    · intro w'
      go_simp
      with_reducible rfl
    rotate_left
    · simp only [Act.put, List.setIfInBounds_toArray, List.set_cons_zero, List.set_cons_succ, i64_w, i32_w]
      rfl
    refine pure_ (i := 21) (N := some 40) (v := ?_) (a' := ?_) #[true, true, true, true, true, true, true, true, true, true, true, true, true, true, true, true, true, true, true, true, true, true, false, false, false, false, false, false, false, false] rfl rfl (by kernel_rfl) (fun _ _ _ h => h) (Or.inl ⟨by rfl, ?_⟩) ?_ ?_
    rotate_left
    · intro w'
      go_simp
      with_reducible rfl
    rotate_left
    · simp only [Act.put, List.setIfInBounds_toArray, List.set_cons_zero, List.set_cons_succ, i64_w, i32_w]
      rfl
    refine pure_ (i := 22) (N := some 41) (v := ?_) (a' := ?_) #[true, true, true, true, true, true, true, true, true, true, true, true, true, true, true, true, true, true, true, true, true, true, true, false, false, false, false, false, false, false] rfl rfl (by kernel_rfl) (fun _ _ _ h => h) (Or.inl ⟨by rfl, ?_⟩) ?_ ?_
    rotate_left
    · intro w'
      go_simp
      with_reducible rfl
    rotate_left
    · simp only [Act.put, List.setIfInBounds_toArray, List.set_cons_zero, List.set_cons_succ, i64_w, i32_w]
      rfl
    refine pure_ (i := 23) (N := some 42) (v := ?_) (a' := ?_) #[true, true, true, true, true, true, true, true, true, true, true, true, true, true, true, true, true, true, true, true, true, true, true, true, false, false, false, false, false, false] rfl rfl (by kernel_rfl) (fun _ _ _ h => h) (Or.inl ⟨by rfl, ?_⟩) ?_ ?_
    rotate_left
    · intro w'
      go_simp
      with_reducible rfl
    rotate_left
    · simp only [Act.put, List.setIfInBounds_toArray, List.set_cons_zero, List.set_cons_succ, i64_w, i32_w]
      rfl
    refine pure_ (i := 25) (N := some 44) (v := ?_) (a' := ?_) #[true, true, true, true, true, true, true, true, true, true, true, true, true, true, true, true, true, true, true, true, true, true, true, true, false, true, false, false, false, false] rfl rfl (by kernel_rfl) (fun _ _ _ h => h) (Or.inl ⟨by rfl, ?_⟩) ?_ ?_
    rotate_left
    · intro w'
      go_simp
      with_reducible rfl
    rotate_left
    · simp only [Act.put, List.setIfInBounds_toArray, List.set_cons_zero, List.set_cons_succ, i64_w, i32_w]
      rfl
    refine pure_ (i := 26) (N := some 45) (v := ?_) (a' := ?_) #[true, true, true, true, true, true, true, true, true, true, true, true, true, true, true, true, true, true, true, true, true, true, true, true, false, true, true, false, false, false] rfl rfl (by kernel_rfl) (fun _ _ _ h => h) (Or.inl ⟨by rfl, ?_⟩) ?_ ?_
    rotate_left
    · intro w'
      go_simp
      with_reducible rfl
    rotate_left
    · simp only [Act.put, List.setIfInBounds_toArray, List.set_cons_zero, List.set_cons_succ, i64_w, i32_w]
      rfl
    refine one_ (i := 24) (N := some 43) #[true, true, true, true, true, true, true, true, true, true, true, true, true, true, true, true, true, true, true, true, true, true, true, true, true, true, true, false, false, false] rfl rfl (by kernel_rfl) (by decide) (fun K hK => ?_)
    refine goes_ Try.func12 (by kernel_rfl) rfl #[ptr p, .int .i64 (i : Int)] (by rfl) rfl rfl (by (try simp only [List.map_toArray, List.map_cons, List.map_nil]); first | done | rfl) ?_
    refine (Level_in _ base p bs F (HP.out.below BX.out) i HXB.out l (by rw [f1.out i HX.out.1 HX.out.2]; exact way_ch HW.out.1.2.2 (fun a ha => f1.out a (HW.out.2.1 a (List.mem_cons_of_mem _ ha)).1 (HW.out.2.1 a (List.mem_cons_of_mem _ ha)).2)) (by have := HW.out.2.2; have := HN.out; omega)).mono ?_
    rintro e w7 ⟨rfl, hw⟩
    refine ⟨_, rfl, ?_⟩
    rw [hw]
    clear hw w7
    refine hK.out _ _ ⟨(blk_cell X.out 0).trans rfl, (blk_cell X.out 1).trans rfl, (blk_cell X.out 2).trans rfl, (blk_cell X.out 3).trans rfl, (blk_cell X.out 4).trans rfl, cell_keep HTK.out.1 BX.out⟩ (fun hHeld => ?_)
    clear hK K
    refine norm_ (a' := ?_) ?_ ?_
    rotate_left
    · show Act.put _ (some 43) _ = _
      simp only [Act.put, List.setIfInBounds_toArray, List.set_cons_zero, List.set_cons_succ, i64_w, i32_w]
      rfl
    refine last_ (i := 27) (N := some 46) #[true, true, true, true, true, true, true, true, true, true, true, true, true, true, true, true, true, true, true, true, true, true, true, true, true, true, true, true, false, false] rfl rfl (by kernel_rfl) (by decide) (fun K hK => ?_)
    refine goes_ Try.func33 (by kernel_rfl) rfl #[.slice (some ad) r.length c, .int .i64 (i : Int)] (by rfl) rfl rfl (by (try simp only [List.map_toArray, List.map_cons, List.map_nil]); first | done | rfl) ?_
    obtain ⟨kl, hkl⟩ := (level_ev r l i 0 HW.out.1 HW.out.2.1 (by have := HW.out.2.2; have := HN.out; omega)).ex
    rw [Nat.zero_add] at hkl
    refine (tendrilref19_Level.calls kl (some ad) c r i l.length _ (Kd.C_below HC.out BX.out) HCC.out hkl).mono ?_
    rintro e w8 ⟨rfl, ⟨nd2, hw8⟩⟩
    refine ⟨_, rfl, ?_⟩
    have BX := Aside0.mk (show Below W.heap.size W w8 from by rw [hw8]; exact pw_below_drewN BX.out nd2)
    clear hkl hw8
    refine hK.out _ _ ?_
    clear hK K
    refine norm_ (a' := ?_) ?_ ?_
    rotate_left
    · show Act.put _ (some 46) _ = _
      simp only [Act.put, List.setIfInBounds_toArray, List.set_cons_zero, List.set_cons_succ, i64_w, i32_w]
      rfl
    refine pure_ (i := 28) (N := some 47) (v := ?_) (a' := ?_) #[true, true, true, true, true, true, true, true, true, true, true, true, true, true, true, true, true, true, true, true, true, true, true, true, true, true, true, true, true, false] rfl rfl (by kernel_rfl) (fun _ _ _ h => h) (Or.inl ⟨by rfl, ?_⟩) ?_ ?_
    rotate_left
    · intro w'
      go_simp
      with_reducible rfl
    rotate_left
    · simp only [Act.put, List.setIfInBounds_toArray, List.set_cons_zero, List.set_cons_succ, i64_w, i32_w]
      rfl
    refine pure_ (i := 29) (N := some 48) (v := ?_) (a' := ?_) #[true, true, true, true, true, true, true, true, true, true, true, true, true, true, true, true, true, true, true, true, true, true, true, true, true, true, true, true, true, true] rfl rfl (by kernel_rfl) (fun _ _ _ h => h) (Or.inl ⟨by rfl, ?_⟩) ?_ ?_
    rotate_left
    · intro w'
      go_simp
      with_reducible rfl
    rotate_left
    · simp only [Act.put, List.setIfInBounds_toArray, List.set_cons_zero, List.set_cons_succ, i64_w, i32_w]
      rfl
    refine done_ (by kernel_rfl) ?_
    go_wp2_with fail
    go_roundg k1
    case measure => omega
    case rel => exact ⟨i + 1, by rw [hwi.out], ⟨by have := HI.out; omega⟩, BX⟩
end Go.Proofs.Ytgamhkhninogeaa.G
