/- The document's Five (tendrilref19.Five): it tells an item's links, walked. -/
import Derived.Test.YtgamhkhninogeaaH9
namespace Go.Proofs.Ytgamhkhninogeaa.G
open Go.RowKit Go.Proofs.YtgamhkhninogeaaW.PrintWords Go.Proofs.YtgamhkhninogeaaW.PrintLast Go.Proofs.YtgamhkhninogeaaW.PrintMore
open Go.Proofs.Ytgamhkhninogeaa.Pure (LR Ur Kr Way ChT SibT lastD find_ref rd_get)
set_option linter.unusedVariables false
set_option linter.unusedSimpArgs false

theorem at_i {w : World} {A : Option Addr} {n : Nat} {xs : List Int} (h : Kd.C (Kd.int .i64) w A n xs) (i : Nat) (h1 : i < n) : ∃ ad, A = some ad ∧ w.cell? (ad.add i) = some (.int .i64 (rd xs (i : Int))) := by
  obtain ⟨ad, c, rfl, hl, hk, hc⟩ := Kd.C_get h 0 (i : Int) (by omega) (by omega)
  refine ⟨ad, rfl, ?_⟩
  have e : c = [.int .i64 (xs.getD ((i : Int)).toNat 0)] := hk
  subst e
  have := hc 0 _ rfl
  rw [Int.toNat_natCast] at this
  have e2 : i * (Kd.int .i64).sz + 0 = i := by show i * 1 + 0 = i; omega
  rw [e2] at this
  exact this
theorem cell_keep {W w : World} {a : Addr} {v : Value} (h : W.cell? a = some v) (hb : Below W.heap.size W w) : w.cell? a = some v := by
  by_cases c : a.block < W.heap.size
  · rw [World.cell?_of_block (w := W) (hb.block a.block c)]; exact h
  · have e : W.heap[a.block]? = none := Array.getElem?_eq_none (by omega)
    unfold World.cell? at h
    rw [e] at h
    simp at h
theorem lastD_rd (l : List Int) (a : Int) (j : Nat) (h : l.length = j + 1) : lastD a l = rd l (j : Int) := by
  rcases Go.Proofs.Ytgamhkhninogeaa.Pure.snoc_or_nil l with e | ⟨l', q, e⟩
  · subst e; simp at h
  · subst e
    have hl : l'.length = j := by simpa using h
    rw [Go.Proofs.Ytgamhkhninogeaa.Pure.lastD_snoc]
    unfold rd
    rw [Int.toNat_natCast, ← hl]
    simp
/-- An item's first and last kid. -/
theorem lr_ends {r : List S65} {F : FF} (h : LR r F) (i : Int) (hi : inP r.length i) : ((Kr r i).length = 0 → F i 2 = -1 ∧ F i 3 = -1) ∧ (∀ m, (Kr r i).length = m + 1 → F i 2 = rd (Kr r i) ((0 : Nat) : Int) ∧ F i 3 = rd (Kr r i) (m : Int)) := by
  obtain ⟨_, hc, hs⟩ := h.lk i hi.1 hi.2
  have hl := SibT.last hs
  constructor
  · intro e
    have e := List.length_eq_zero_iff.1 e
    rw [e] at hc hl
    exact ⟨hc, hl⟩
  · intro m e
    constructor
    · rcases Go.Proofs.Ytgamhkhninogeaa.Pure.ChT.head hc with ⟨q, _⟩ | ⟨l', q⟩
      · rw [q] at e; simp at e
      · rw [q]; rfl
    · rw [hl]; exact lastD_rd _ _ m e
/-- An item's neighbours, by its place among its siblings. -/
theorem lr_sibs {r : List S65} {F : FF} (h : LR r F) (i : Int) (hi : inP r.length i) (hu : 0 ≤ Ur r i) (j : Nat) (hj : j < (Kr r (Ur r i)).length) (hji : rd (Kr r (Ur r i)) (j : Int) = i) :
    (j = 0 → F i 4 = -1) ∧ (∀ m, j = m + 1 → F i 4 = rd (Kr r (Ur r i)) (m : Int)) ∧ (¬ j + 1 < (Kr r (Ur r i)).length → F i 5 = -1) ∧ (j + 1 < (Kr r (Ur r i)).length → F i 5 = rd (Kr r (Ur r i)) ((j + 1 : Nat) : Int)) := by
  have hun := (h.st.up i hi.1 hi.2).2
  obtain ⟨_, hc, hs⟩ := h.lk (Ur r i) hu hun
  obtain ⟨K, hK⟩ : ∃ K, Kr r (Ur r i) = K := ⟨_, rfl⟩
  rw [hK] at hc hs hj hji ⊢
  rw [rd_get K j hj] at hji
  have hsp : K = K.take j ++ i :: K.drop (j + 1) := by rw [← hji, List.getElem_cons_drop, List.take_append_drop]
  rw [hsp] at hc hs
  obtain ⟨t0, cA, cX, _, cB⟩ := Go.Proofs.Ytgamhkhninogeaa.Pure.ChT.app.1 hc
  subst cX
  obtain ⟨p, sA, s1, s4, sB⟩ := Go.Proofs.Ytgamhkhninogeaa.Pure.SibT.app.1 hs
  have hp := SibT.last sA
  refine ⟨fun e => ?_, fun m e => ?_, fun e => ?_, fun e => ?_⟩
  · subst e; rw [s4, hp]; rfl
  · rw [s4, hp]
    have hl : (K.take j).length = m + 1 := by simp; omega
    rw [lastD_rd _ _ m hl, rd_get _ m (by omega), rd_get K m (by omega)]
    simp
  · have : K.drop (j + 1) = [] := List.drop_eq_nil_of_le (by omega)
    rw [this] at cB
    exact cB
  · rw [List.drop_eq_getElem_cons e] at cB
    rw [rd_get K (j + 1) e]
    exact cB.1

set_option maxHeartbeats 4000000 in
set_option maxRecDepth 100000 in
theorem Five_walk (W : World) (A : Option Addr) (c : Nat) (r : List S65) (F : FF) (hC : Kd.C k65 W A r.length r) (hc : r.length ≤ c) (hL : LR r F) (hn : r.length ≤ 1000000) (i : Int) (hi : inP r.length i) :
    Calls Try.prog 23 #[.slice A r.length c, .int .i64 i] W fun e w' => e = .returned (.agg #[.int .i64 (F i 1), .int .i64 (F i 2), .int .i64 (F i 3), .int .i64 (F i 4), .int .i64 (F i 5)]) ∧ Below W.heap.size W w' := by
  have HC := Aside0.mk hC
  have HL := Aside0.mk hL
  have HN := Aside0.mk hn
  have HI := Aside0.mk hi
  have i0 : 0 ≤ i := hi.1
  have i1 : i < (r.length : Int) := hi.2
  obtain ⟨u, hu⟩ : ∃ u, Ur r i = u := ⟨_, rfl⟩
  have HU := Aside0.mk hu
  have hf1 := (hL.lk i hi.1 hi.2).1
  have HF1 := Aside0.mk (show F i 1 = u from hf1.trans hu)
  clear hC hL hn hi hu hc hf1
  go_enter Try.func23, Try.ntmps23
  go_upto_region 1 with fail
  obtain ⟨w1, hw1⟩ : ∃ w1, W.alloc (.cells #[.int .i64 0, .int .i64 0, .int .i64 0, .int .i64 0, .int .i64 0] 27) = w1 := ⟨_, rfl⟩
  rw [hw1]
  have B1 := Aside0.mk (show Below W.heap.size W w1 from hw1 ▸ below_alloc (Below.refl _ W) _)
  have X1 := Aside0.mk (show w1.heap[W.heap.size]? = some (.cells #[.int .i64 0, .int .i64 0, .int .i64 0, .int .i64 0, .int .i64 0] 27 (0, 0)) from hw1 ▸ heap_alloc_new W _)
  clear hw1
  obtain ⟨ad, A1, c1, rfl, t0, t1, _, hK1⟩ := at_T65 (Kd.C_below HC.out B1.out) i HI.out.1 HI.out.2
  rw [show (rd_T65 r i).f0 = u from HU.out] at t0
  have HK1 := Aside0.mk hK1
  clear hK1
  go_upto_region 2 with fail
  obtain ⟨g5, hg5⟩ : ∃ g, w1.heap.size = g := ⟨_, rfl⟩
  obtain ⟨w2, hw2⟩ : ∃ w2, w1.alloc (.cells #[.int .i64 u, .int .i64 (-1), .int .i64 (-1), .int .i64 (-1), .int .i64 (-1)] 27) = w2 := ⟨_, rfl⟩
  rw [hw2, hg5]
  have B2 := Aside0.mk (show Below w1.heap.size w1 w2 from hw2 ▸ below_alloc (Below.refl _ w1) _)
  have X5 := Aside0.mk (show w2.heap[g5]? = some (.cells #[.int .i64 u, .int .i64 (-1), .int .i64 (-1), .int .i64 (-1), .int .i64 (-1)] 27 (0, 0)) from by rw [← hw2, ← hg5]; exact heap_alloc_new w1 _)
  have X4 := Aside0.mk (blk_below X1.out B2.out)
  have HG := Aside0.mk (show W.heap.size ≤ g5 ∧ W.heap.size < g5 from by have := blk_lt X1.out; omega)
  have BW2 := Aside0.mk (B1.out.trans (B2.out.mono B1.out.size))
  clear hw2 hg5 t0 t1 X1 HK1
  obtain ⟨ad', A1, c1, hade, t0, t1W, _, hK1⟩ := at_T65 HC.out i HI.out.1 HI.out.2
  have t1 := cell_keep t1W BW2.out
  obtain rfl := Option.some.inj hade
  obtain ⟨ks, hks⟩ : ∃ ks, Kr r i = ks := ⟨_, rfl⟩
  have hks' : (rd_T65 r i).f1 = ks := hks
  rw [hks'] at t1 hK1
  have HKS := Aside0.mk hks
  have HK1 := Aside0.mk hK1
  have HKN := Aside0.mk (show ks.length ≤ 1000000 from by have := HL.out.kids_le i HI.out.1 HI.out.2; rw [hks] at this; have := HN.out; omega)
  clear hks hks' hK1 t0 t1W
  go_upto_region 3 with fail
  clear t1
  by_cases hz : ks.length = 0
  · have HE0 := Aside0.mk ((lr_ends HL.out i HI.out).1 (by rw [HKS.out]; exact hz))
    have hz' : ks = [] := List.length_eq_zero_iff.1 hz
    subst hz'
    clear hz
    go_upto_region 6 with fail
    have X5 := Aside0.mk (show w2.heap[g5]? = some (.cells #[.int .i64 u, .int .i64 (F i 2), .int .i64 (F i 3), .int .i64 (-1), .int .i64 (-1)] 27 (0, 0)) from by rw [HE0.out.1, HE0.out.2]; exact X5.out)
    have y0 : w2.cell? ⟨g5, 0, none⟩ = some (.int .i64 u) := (blk_cell X5.out 0).trans rfl
    by_cases hu : u < 0
    · have hub : decide (u < 0) = true := decide_eq_true hu
      have HFR := Aside0.mk (HL.out.fr i HI.out.1 HI.out.2 (by have := HU.out; unfold Ur at *; omega))
      clear hu
      go_upto_region 7 with fail
      clear y0 hub
      obtain ⟨e2, he2⟩ : ∃ e, F i 2 = e := ⟨_, rfl⟩
      obtain ⟨e3, he3⟩ : ∃ e, F i 3 = e := ⟨_, rfl⟩
      have X5' := X5.out
      rw [he2, he3] at X5'
      have Hhe2 := Aside0.mk he2
      have Hhe3 := Aside0.mk he3
      clear he2 he3
      have y0 : w2.cell? ⟨g5, 0, none⟩ = some (.int .i64 u) := (blk_cell X5' 0).trans rfl
      have x0 : w2.cell? ⟨W.heap.size, 0, none⟩ = some (.int .i64 0) := (blk_cell X4.out 0).trans rfl
      have z0 := blk_frozen X4.out 0
      have y1 : w2.cell? ⟨g5, 1, none⟩ = some (.int .i64 e2) := (blk_cell X5' 1).trans rfl
      have x1 : w2.cell? ⟨W.heap.size, 1, none⟩ = some (.int .i64 0) := (blk_cell X4.out 1).trans rfl
      have z1 := blk_frozen X4.out 1
      have y2 : w2.cell? ⟨g5, 2, none⟩ = some (.int .i64 e3) := (blk_cell X5' 2).trans rfl
      have x2 : w2.cell? ⟨W.heap.size, 2, none⟩ = some (.int .i64 0) := (blk_cell X4.out 2).trans rfl
      have z2 := blk_frozen X4.out 2
      have y3 : w2.cell? ⟨g5, 3, none⟩ = some (.int .i64 (-1)) := (blk_cell X5' 3).trans rfl
      have x3 : w2.cell? ⟨W.heap.size, 3, none⟩ = some (.int .i64 0) := (blk_cell X4.out 3).trans rfl
      have z3 := blk_frozen X4.out 3
      have y4 : w2.cell? ⟨g5, 4, none⟩ = some (.int .i64 (-1)) := (blk_cell X5' 4).trans rfl
      have x4 : w2.cell? ⟨W.heap.size, 4, none⟩ = some (.int .i64 0) := (blk_cell X4.out 4).trans rfl
      have z4 := blk_frozen X4.out 4
      clear X5'
      go_wp2_with fail
      refine bodyPost_ret (results_cell_row rfl _ _ W.heap.size 27 #[.int .i64 u, .int .i64 e2, .int .i64 e3, .int .i64 (-1), .int .i64 (-1)] (0, 0) _ rfl (blk_put (blk_put (blk_put (blk_put (blk_put X4.out 0 _ rfl) 1 _ rfl) 2 _ rfl) 3 _ rfl) 4 _ rfl) Try.underlying27 rfl (by kernel_rfl)) rfl ?_
      refine ⟨?_, (((((BW2.out.setCell (p := ⟨W.heap.size, 0, none⟩) (Nat.le_refl _) _).setCell (p := ⟨W.heap.size, 1, none⟩) (Nat.le_refl _) _).setCell (p := ⟨W.heap.size, 2, none⟩) (Nat.le_refl _) _).setCell (p := ⟨W.heap.size, 3, none⟩) (Nat.le_refl _) _).setCell (p := ⟨W.heap.size, 4, none⟩) (Nat.le_refl _) _)⟩
      simp only [HF1.out, Hhe2.out, Hhe3.out, HFR.out.1, HFR.out.2]
    · have hub : decide (u < 0) = false := decide_eq_false hu
      have HUR := Aside0.mk (show inP r.length u from ⟨by omega, by have := (HL.out.st.up i HI.out.1 HI.out.2).2; rw [HU.out] at this; exact this⟩)
      have u0 : 0 ≤ u := by omega
      have u1 : u < (r.length : Int) := HUR.out.2
      clear hu
      go_upto_region 8 with fail
      obtain ⟨ad2, A2, c2, hade2, _, s1W, hsl, hK2⟩ := at_T65 HC.out u HUR.out.1 HUR.out.2
      have s1 := cell_keep s1W BW2.out
      obtain rfl := Option.some.inj hade2
      obtain ⟨ss, hss⟩ : ∃ ss, Kr r u = ss := ⟨_, rfl⟩
      have hss' : (rd_T65 r u).f1 = ss := hss
      rw [hss'] at s1 hsl hK2
      have HSS := Aside0.mk hss
      have HK2 := Aside0.mk (And.intro hsl hK2)
      have HSN := Aside0.mk (show ss.length ≤ 1000000 from by have := HL.out.kids_le u HUR.out.1 HUR.out.2; rw [hss] at this; have := HN.out; omega)
      clear hss hss' hsl hK2 s1W
      go_upto_region 9 with fail
      clear s1 y0 hub
      obtain ⟨t, ⟨kf, hkf⟩, ht⟩ := find_ref ss i HSN.out
      have him : i ∈ ss := by rw [← HSS.out]; exact (HL.out.st.kid u i HUR.out.1 HUR.out.2).2 ⟨HI.out.1, HI.out.2, HU.out⟩
      obtain ⟨j, rfl, hj, hji⟩ : ∃ j : Nat, t = (j : Int) ∧ j < ss.length ∧ rd ss (j : Int) = i := by
        rcases ht with ⟨_, q⟩ | q
        · exact absurd him q
        · exact q
      have HJ := Aside0.mk (show j < ss.length ∧ ((j = 0 → F i 4 = -1) ∧ (∀ m, j = m + 1 → F i 4 = rd ss (m : Int)) ∧ (¬ j + 1 < ss.length → F i 5 = -1) ∧ (j + 1 < ss.length → F i 5 = rd ss ((j + 1 : Nat) : Int))) from by
        have q := lr_sibs HL.out i HI.out (by rw [HU.out]; exact HUR.out.1) j (by rw [HU.out, HSS.out]; exact hj) (by rw [HU.out, HSS.out]; exact hji)
        rw [HU.out, HSS.out] at q
        exact ⟨hj, q⟩)
      have HKF := Aside0.mk (hkf kf (Nat.le_refl _))
      clear hkf ht him hji hj
      go_upto_region 10 with (go_at_call 32; refine (tendrilref19_Find.calls kf _ _ ss i j _ (Kd.C_below HK2.out.2 BW2.out) HK2.out.1 HKF.out).mono ?_; rintro e w9 ⟨rfl, ⟨nd, hw⟩⟩; have HW9 := Aside0.mk hw; clear hw)
      have X5 := Aside0.mk (show w9.heap[g5]? = some (.cells #[.int .i64 u, .int .i64 (F i 2), .int .i64 (F i 3), .int .i64 (-1), .int .i64 (-1)] 27 (0, 0)) from by rw [HW9.out]; exact X5.out)
      have X4 := Aside0.mk (show w9.heap[W.heap.size]? = some (.cells #[.int .i64 0, .int .i64 0, .int .i64 0, .int .i64 0, .int .i64 0] 27 (0, 0)) from by rw [HW9.out]; exact X4.out)
      have BW := Aside0.mk (show Below W.heap.size W w9 from by rw [HW9.out]; exact pw_below_drewN BW2.out nd)
      have HK3 := Aside0.mk (show Kd.C (Kd.int .i64) w9 A2 ss.length ss from Kd.C_below HK2.out.2 BW.out)
      clear HW9
      have wj1 : Aside0 (wrap64 ((j : Int) + 1) = (j : Int) + 1) := ⟨by have := HJ.out.1; have := HSN.out; unfold wrap64; omega⟩
      by_cases hj0 : j = 0
      · have HE4 := Aside0.mk (HJ.out.2.1 hj0)
        have d0 : decide ((0 : Int) < (j : Int)) = false := decide_eq_false (by omega)
        have d1 : ¬ 0 < j := by omega
        clear hj0
        go_upto_region 12 with fail
        clear d0 d1
        by_cases hq : j + 1 < ss.length
        · have hqj0 : True := trivial
          have HE5 := Aside0.mk (HJ.out.2.2.2.2 hq)
          obtain ⟨ad5, hA5, c5⟩ := at_i HK3.out (j + 1) hq
          first | subst hA5 | (obtain rfl := Option.some.inj hA5)
          rw [← HE5.out] at c5
          obtain ⟨jj, hjj⟩ : ∃ jj, j + 1 = jj := ⟨_, rfl⟩
          rw [hjj] at c5 hq
          obtain ⟨f5, hf5⟩ : ∃ f, F i 5 = f := ⟨_, rfl⟩
          rw [hf5] at c5
          have HF5 := Aside0.mk hf5
          have y4 : w9.cell? ⟨g5, 4, none⟩ = some (.int .i64 (-1)) := (blk_cell X5.out 4).trans rfl
          have z4 := blk_frozen X5.out 4
          have hqi : decide ((jj : Int) < (ss.length : Int)) = true := decide_eq_true (Int.ofNat_lt.2 hq)
          have wj : wrap64 ((j : Int) + 1) = (jj : Int) := by rw [wj1.out, ← hjj]; rfl
          have HJJ := Aside0.mk hjj
          clear hf5 hjj hqj0
          go_upto_region 14 with fail
          obtain ⟨w12, hw12⟩ : ∃ w12, w9.setCell ⟨g5, 4, none⟩ (.int .i64 f5) = w12 := ⟨_, rfl⟩
          rw [hw12]
          have X512 := Aside0.mk (show w12.heap[g5]? = some (.cells #[.int .i64 u, .int .i64 (F i 2), .int .i64 (F i 3), .int .i64 (-1), .int .i64 f5] 27 (0, 0)) from hw12 ▸ blk_put X5.out 4 _ rfl)
          have X412 := Aside0.mk (show w12.heap[W.heap.size]? = some (.cells #[.int .i64 0, .int .i64 0, .int .i64 0, .int .i64 0, .int .i64 0] 27 (0, 0)) from hw12 ▸ blk_far X4.out (p := ⟨g5, 4, none⟩) (fun e => by have := HG.out.2; have e : W.heap.size = g5 := e; omega) _)
          have BW12 := Aside0.mk (show Below W.heap.size W w12 from hw12 ▸ BW.out.setCell (p := ⟨g5, 4, none⟩) HG.out.1 _)
          clear c5 y4 z4 wj hq hqi hw12
          have X512 := Aside0.mk (show w12.heap[g5]? = some (.cells #[.int .i64 u, .int .i64 (F i 2), .int .i64 (F i 3), .int .i64 (-1), .int .i64 (F i 5)] 27 (0, 0)) from by rw [HF5.out]; exact X512.out)
          obtain ⟨e2, he2⟩ : ∃ e, F i 2 = e := ⟨_, rfl⟩
          obtain ⟨e3, he3⟩ : ∃ e, F i 3 = e := ⟨_, rfl⟩
          obtain ⟨e5, he5⟩ : ∃ e, F i 5 = e := ⟨_, rfl⟩
          have X5' := X512.out
          rw [he2, he3, he5] at X5'
          have Hhe2 := Aside0.mk he2
          have Hhe3 := Aside0.mk he3
          have Hhe5 := Aside0.mk he5
          clear he2 he3 he5
          have y0 : w12.cell? ⟨g5, 0, none⟩ = some (.int .i64 u) := (blk_cell X5' 0).trans rfl
          have x0 : w12.cell? ⟨W.heap.size, 0, none⟩ = some (.int .i64 0) := (blk_cell X412.out 0).trans rfl
          have z0 := blk_frozen X412.out 0
          have y1 : w12.cell? ⟨g5, 1, none⟩ = some (.int .i64 e2) := (blk_cell X5' 1).trans rfl
          have x1 : w12.cell? ⟨W.heap.size, 1, none⟩ = some (.int .i64 0) := (blk_cell X412.out 1).trans rfl
          have z1 := blk_frozen X412.out 1
          have y2 : w12.cell? ⟨g5, 2, none⟩ = some (.int .i64 e3) := (blk_cell X5' 2).trans rfl
          have x2 : w12.cell? ⟨W.heap.size, 2, none⟩ = some (.int .i64 0) := (blk_cell X412.out 2).trans rfl
          have z2 := blk_frozen X412.out 2
          have y3 : w12.cell? ⟨g5, 3, none⟩ = some (.int .i64 (-1)) := (blk_cell X5' 3).trans rfl
          have x3 : w12.cell? ⟨W.heap.size, 3, none⟩ = some (.int .i64 0) := (blk_cell X412.out 3).trans rfl
          have z3 := blk_frozen X412.out 3
          have y4 : w12.cell? ⟨g5, 4, none⟩ = some (.int .i64 e5) := (blk_cell X5' 4).trans rfl
          have x4 : w12.cell? ⟨W.heap.size, 4, none⟩ = some (.int .i64 0) := (blk_cell X412.out 4).trans rfl
          have z4 := blk_frozen X412.out 4
          clear X5'
          go_wp2_with fail
          refine bodyPost_ret (results_cell_row rfl _ _ W.heap.size 27 #[.int .i64 u, .int .i64 e2, .int .i64 e3, .int .i64 (-1), .int .i64 e5] (0, 0) _ rfl (blk_put (blk_put (blk_put (blk_put (blk_put X412.out 0 _ rfl) 1 _ rfl) 2 _ rfl) 3 _ rfl) 4 _ rfl) Try.underlying27 rfl (by kernel_rfl)) rfl ?_
          refine ⟨?_, (((((BW12.out.setCell (p := ⟨W.heap.size, 0, none⟩) (Nat.le_refl _) _).setCell (p := ⟨W.heap.size, 1, none⟩) (Nat.le_refl _) _).setCell (p := ⟨W.heap.size, 2, none⟩) (Nat.le_refl _) _).setCell (p := ⟨W.heap.size, 3, none⟩) (Nat.le_refl _) _).setCell (p := ⟨W.heap.size, 4, none⟩) (Nat.le_refl _) _)⟩
          simp only [HF1.out, Hhe2.out, Hhe3.out, Hhe5.out, HE4.out]
        · have hqb : decide ((j : Int) + 1 < (ss.length : Int)) = false := decide_eq_false (by omega)
          have HE5 := Aside0.mk (HJ.out.2.2.2.1 hq)
          have wj := wj1.out
          have hqj : ¬ (j : Int) + 1 < (ss.length : Int) := by omega
          clear hq
          go_upto_region 14 with fail
          clear hqb wj hqj
          obtain ⟨e2, he2⟩ : ∃ e, F i 2 = e := ⟨_, rfl⟩
          obtain ⟨e3, he3⟩ : ∃ e, F i 3 = e := ⟨_, rfl⟩
          have X5' := X5.out
          rw [he2, he3] at X5'
          have Hhe2 := Aside0.mk he2
          have Hhe3 := Aside0.mk he3
          clear he2 he3
          have y0 : w9.cell? ⟨g5, 0, none⟩ = some (.int .i64 u) := (blk_cell X5' 0).trans rfl
          have x0 : w9.cell? ⟨W.heap.size, 0, none⟩ = some (.int .i64 0) := (blk_cell X4.out 0).trans rfl
          have z0 := blk_frozen X4.out 0
          have y1 : w9.cell? ⟨g5, 1, none⟩ = some (.int .i64 e2) := (blk_cell X5' 1).trans rfl
          have x1 : w9.cell? ⟨W.heap.size, 1, none⟩ = some (.int .i64 0) := (blk_cell X4.out 1).trans rfl
          have z1 := blk_frozen X4.out 1
          have y2 : w9.cell? ⟨g5, 2, none⟩ = some (.int .i64 e3) := (blk_cell X5' 2).trans rfl
          have x2 : w9.cell? ⟨W.heap.size, 2, none⟩ = some (.int .i64 0) := (blk_cell X4.out 2).trans rfl
          have z2 := blk_frozen X4.out 2
          have y3 : w9.cell? ⟨g5, 3, none⟩ = some (.int .i64 (-1)) := (blk_cell X5' 3).trans rfl
          have x3 : w9.cell? ⟨W.heap.size, 3, none⟩ = some (.int .i64 0) := (blk_cell X4.out 3).trans rfl
          have z3 := blk_frozen X4.out 3
          have y4 : w9.cell? ⟨g5, 4, none⟩ = some (.int .i64 (-1)) := (blk_cell X5' 4).trans rfl
          have x4 : w9.cell? ⟨W.heap.size, 4, none⟩ = some (.int .i64 0) := (blk_cell X4.out 4).trans rfl
          have z4 := blk_frozen X4.out 4
          clear X5'
          go_wp2_with fail
          refine bodyPost_ret (results_cell_row rfl _ _ W.heap.size 27 #[.int .i64 u, .int .i64 e2, .int .i64 e3, .int .i64 (-1), .int .i64 (-1)] (0, 0) _ rfl (blk_put (blk_put (blk_put (blk_put (blk_put X4.out 0 _ rfl) 1 _ rfl) 2 _ rfl) 3 _ rfl) 4 _ rfl) Try.underlying27 rfl (by kernel_rfl)) rfl ?_
          refine ⟨?_, (((((BW.out.setCell (p := ⟨W.heap.size, 0, none⟩) (Nat.le_refl _) _).setCell (p := ⟨W.heap.size, 1, none⟩) (Nat.le_refl _) _).setCell (p := ⟨W.heap.size, 2, none⟩) (Nat.le_refl _) _).setCell (p := ⟨W.heap.size, 3, none⟩) (Nat.le_refl _) _).setCell (p := ⟨W.heap.size, 4, none⟩) (Nat.le_refl _) _)⟩
          simp only [HF1.out, Hhe2.out, Hhe3.out, HE4.out, HE5.out]
      · obtain ⟨m, hm⟩ : ∃ m, j = m + 1 := ⟨j - 1, by omega⟩
        have HE4 := Aside0.mk (HJ.out.2.2.1 m hm)
        have d0 : decide ((0 : Int) < (j : Int)) = true := decide_eq_true (by omega)
        have d1 : 0 < j := by omega
        have wjm : wrap64 ((j : Int) - 1) = (m : Int) := by have := HJ.out.1; have := HSN.out; unfold wrap64; omega
        have hml : (m : Int) < (ss.length : Int) := by have := HJ.out.1; omega
        obtain ⟨ad4, hA4, c4⟩ := at_i HK3.out m (by have := HJ.out.1; omega)
        have HA4 := Aside0.mk hA4
        subst hA4
        rw [← HE4.out] at c4
        obtain ⟨f4, hf4⟩ : ∃ f, F i 4 = f := ⟨_, rfl⟩
        rw [hf4] at c4
        have HF4 := Aside0.mk hf4
        have y3 : w9.cell? ⟨g5, 3, none⟩ = some (.int .i64 (-1)) := (blk_cell X5.out 3).trans rfl
        have z3 := blk_frozen X5.out 3
        clear hf4 hj0 hm
        go_upto_region 12 with fail
        obtain ⟨w11, hw11⟩ : ∃ w11, w9.setCell ⟨g5, 3, none⟩ (.int .i64 f4) = w11 := ⟨_, rfl⟩
        rw [hw11]
        have X511 := Aside0.mk (show w11.heap[g5]? = some (.cells #[.int .i64 u, .int .i64 (F i 2), .int .i64 (F i 3), .int .i64 f4, .int .i64 (-1)] 27 (0, 0)) from hw11 ▸ blk_put X5.out 3 _ rfl)
        have X411 := Aside0.mk (show w11.heap[W.heap.size]? = some (.cells #[.int .i64 0, .int .i64 0, .int .i64 0, .int .i64 0, .int .i64 0] 27 (0, 0)) from hw11 ▸ blk_far X4.out (p := ⟨g5, 3, none⟩) (fun e => by have := HG.out.2; have e : W.heap.size = g5 := e; omega) _)
        have BW11 := Aside0.mk (show Below W.heap.size W w11 from hw11 ▸ BW.out.setCell (p := ⟨g5, 3, none⟩) HG.out.1 _)
        have HK11 := Aside0.mk (show Kd.C (Kd.int .i64) w11 (some ad4) ss.length ss from Kd.C_below HK2.out.2 BW11.out)
        clear c4 y3 z3 d0 d1 wjm hml hw11
        have X511 := Aside0.mk (show w11.heap[g5]? = some (.cells #[.int .i64 u, .int .i64 (F i 2), .int .i64 (F i 3), .int .i64 (F i 4), .int .i64 (-1)] 27 (0, 0)) from by rw [HF4.out]; exact X511.out)
        by_cases hq : j + 1 < ss.length
        · have hqj0 : True := trivial
          have HE5 := Aside0.mk (HJ.out.2.2.2.2 hq)
          obtain ⟨ad5, hA5, c5⟩ := at_i HK11.out (j + 1) hq
          first | subst hA5 | (obtain rfl := Option.some.inj hA5)
          rw [← HE5.out] at c5
          obtain ⟨jj, hjj⟩ : ∃ jj, j + 1 = jj := ⟨_, rfl⟩
          rw [hjj] at c5 hq
          obtain ⟨f5, hf5⟩ : ∃ f, F i 5 = f := ⟨_, rfl⟩
          rw [hf5] at c5
          have HF5 := Aside0.mk hf5
          have y4 : w11.cell? ⟨g5, 4, none⟩ = some (.int .i64 (-1)) := (blk_cell X511.out 4).trans rfl
          have z4 := blk_frozen X511.out 4
          have hqi : decide ((jj : Int) < (ss.length : Int)) = true := decide_eq_true (Int.ofNat_lt.2 hq)
          have wj : wrap64 ((j : Int) + 1) = (jj : Int) := by rw [wj1.out, ← hjj]; rfl
          have HJJ := Aside0.mk hjj
          clear hf5 hjj hqj0
          go_upto_region 14 with fail
          obtain ⟨w12, hw12⟩ : ∃ w12, w11.setCell ⟨g5, 4, none⟩ (.int .i64 f5) = w12 := ⟨_, rfl⟩
          rw [hw12]
          have X512 := Aside0.mk (show w12.heap[g5]? = some (.cells #[.int .i64 u, .int .i64 (F i 2), .int .i64 (F i 3), .int .i64 (F i 4), .int .i64 f5] 27 (0, 0)) from hw12 ▸ blk_put X511.out 4 _ rfl)
          have X412 := Aside0.mk (show w12.heap[W.heap.size]? = some (.cells #[.int .i64 0, .int .i64 0, .int .i64 0, .int .i64 0, .int .i64 0] 27 (0, 0)) from hw12 ▸ blk_far X411.out (p := ⟨g5, 4, none⟩) (fun e => by have := HG.out.2; have e : W.heap.size = g5 := e; omega) _)
          have BW12 := Aside0.mk (show Below W.heap.size W w12 from hw12 ▸ BW11.out.setCell (p := ⟨g5, 4, none⟩) HG.out.1 _)
          clear c5 y4 z4 wj hq hqi hw12
          have X512 := Aside0.mk (show w12.heap[g5]? = some (.cells #[.int .i64 u, .int .i64 (F i 2), .int .i64 (F i 3), .int .i64 (F i 4), .int .i64 (F i 5)] 27 (0, 0)) from by rw [HF5.out]; exact X512.out)
          obtain ⟨e2, he2⟩ : ∃ e, F i 2 = e := ⟨_, rfl⟩
          obtain ⟨e3, he3⟩ : ∃ e, F i 3 = e := ⟨_, rfl⟩
          obtain ⟨e4, he4⟩ : ∃ e, F i 4 = e := ⟨_, rfl⟩
          obtain ⟨e5, he5⟩ : ∃ e, F i 5 = e := ⟨_, rfl⟩
          have X5' := X512.out
          rw [he2, he3, he4, he5] at X5'
          have Hhe2 := Aside0.mk he2
          have Hhe3 := Aside0.mk he3
          have Hhe4 := Aside0.mk he4
          have Hhe5 := Aside0.mk he5
          clear he2 he3 he4 he5
          have y0 : w12.cell? ⟨g5, 0, none⟩ = some (.int .i64 u) := (blk_cell X5' 0).trans rfl
          have x0 : w12.cell? ⟨W.heap.size, 0, none⟩ = some (.int .i64 0) := (blk_cell X412.out 0).trans rfl
          have z0 := blk_frozen X412.out 0
          have y1 : w12.cell? ⟨g5, 1, none⟩ = some (.int .i64 e2) := (blk_cell X5' 1).trans rfl
          have x1 : w12.cell? ⟨W.heap.size, 1, none⟩ = some (.int .i64 0) := (blk_cell X412.out 1).trans rfl
          have z1 := blk_frozen X412.out 1
          have y2 : w12.cell? ⟨g5, 2, none⟩ = some (.int .i64 e3) := (blk_cell X5' 2).trans rfl
          have x2 : w12.cell? ⟨W.heap.size, 2, none⟩ = some (.int .i64 0) := (blk_cell X412.out 2).trans rfl
          have z2 := blk_frozen X412.out 2
          have y3 : w12.cell? ⟨g5, 3, none⟩ = some (.int .i64 e4) := (blk_cell X5' 3).trans rfl
          have x3 : w12.cell? ⟨W.heap.size, 3, none⟩ = some (.int .i64 0) := (blk_cell X412.out 3).trans rfl
          have z3 := blk_frozen X412.out 3
          have y4 : w12.cell? ⟨g5, 4, none⟩ = some (.int .i64 e5) := (blk_cell X5' 4).trans rfl
          have x4 : w12.cell? ⟨W.heap.size, 4, none⟩ = some (.int .i64 0) := (blk_cell X412.out 4).trans rfl
          have z4 := blk_frozen X412.out 4
          clear X5'
          go_wp2_with fail
          refine bodyPost_ret (results_cell_row rfl _ _ W.heap.size 27 #[.int .i64 u, .int .i64 e2, .int .i64 e3, .int .i64 e4, .int .i64 e5] (0, 0) _ rfl (blk_put (blk_put (blk_put (blk_put (blk_put X412.out 0 _ rfl) 1 _ rfl) 2 _ rfl) 3 _ rfl) 4 _ rfl) Try.underlying27 rfl (by kernel_rfl)) rfl ?_
          refine ⟨?_, (((((BW12.out.setCell (p := ⟨W.heap.size, 0, none⟩) (Nat.le_refl _) _).setCell (p := ⟨W.heap.size, 1, none⟩) (Nat.le_refl _) _).setCell (p := ⟨W.heap.size, 2, none⟩) (Nat.le_refl _) _).setCell (p := ⟨W.heap.size, 3, none⟩) (Nat.le_refl _) _).setCell (p := ⟨W.heap.size, 4, none⟩) (Nat.le_refl _) _)⟩
          simp only [HF1.out, Hhe2.out, Hhe3.out, Hhe4.out, Hhe5.out]
        · have hqb : decide ((j : Int) + 1 < (ss.length : Int)) = false := decide_eq_false (by omega)
          have HE5 := Aside0.mk (HJ.out.2.2.2.1 hq)
          have wj := wj1.out
          have hqj : ¬ (j : Int) + 1 < (ss.length : Int) := by omega
          clear hq
          go_upto_region 14 with fail
          clear hqb wj hqj
          obtain ⟨e2, he2⟩ : ∃ e, F i 2 = e := ⟨_, rfl⟩
          obtain ⟨e3, he3⟩ : ∃ e, F i 3 = e := ⟨_, rfl⟩
          obtain ⟨e4, he4⟩ : ∃ e, F i 4 = e := ⟨_, rfl⟩
          have X5' := X511.out
          rw [he2, he3, he4] at X5'
          have Hhe2 := Aside0.mk he2
          have Hhe3 := Aside0.mk he3
          have Hhe4 := Aside0.mk he4
          clear he2 he3 he4
          have y0 : w11.cell? ⟨g5, 0, none⟩ = some (.int .i64 u) := (blk_cell X5' 0).trans rfl
          have x0 : w11.cell? ⟨W.heap.size, 0, none⟩ = some (.int .i64 0) := (blk_cell X411.out 0).trans rfl
          have z0 := blk_frozen X411.out 0
          have y1 : w11.cell? ⟨g5, 1, none⟩ = some (.int .i64 e2) := (blk_cell X5' 1).trans rfl
          have x1 : w11.cell? ⟨W.heap.size, 1, none⟩ = some (.int .i64 0) := (blk_cell X411.out 1).trans rfl
          have z1 := blk_frozen X411.out 1
          have y2 : w11.cell? ⟨g5, 2, none⟩ = some (.int .i64 e3) := (blk_cell X5' 2).trans rfl
          have x2 : w11.cell? ⟨W.heap.size, 2, none⟩ = some (.int .i64 0) := (blk_cell X411.out 2).trans rfl
          have z2 := blk_frozen X411.out 2
          have y3 : w11.cell? ⟨g5, 3, none⟩ = some (.int .i64 e4) := (blk_cell X5' 3).trans rfl
          have x3 : w11.cell? ⟨W.heap.size, 3, none⟩ = some (.int .i64 0) := (blk_cell X411.out 3).trans rfl
          have z3 := blk_frozen X411.out 3
          have y4 : w11.cell? ⟨g5, 4, none⟩ = some (.int .i64 (-1)) := (blk_cell X5' 4).trans rfl
          have x4 : w11.cell? ⟨W.heap.size, 4, none⟩ = some (.int .i64 0) := (blk_cell X411.out 4).trans rfl
          have z4 := blk_frozen X411.out 4
          clear X5'
          go_wp2_with fail
          refine bodyPost_ret (results_cell_row rfl _ _ W.heap.size 27 #[.int .i64 u, .int .i64 e2, .int .i64 e3, .int .i64 e4, .int .i64 (-1)] (0, 0) _ rfl (blk_put (blk_put (blk_put (blk_put (blk_put X411.out 0 _ rfl) 1 _ rfl) 2 _ rfl) 3 _ rfl) 4 _ rfl) Try.underlying27 rfl (by kernel_rfl)) rfl ?_
          refine ⟨?_, (((((BW11.out.setCell (p := ⟨W.heap.size, 0, none⟩) (Nat.le_refl _) _).setCell (p := ⟨W.heap.size, 1, none⟩) (Nat.le_refl _) _).setCell (p := ⟨W.heap.size, 2, none⟩) (Nat.le_refl _) _).setCell (p := ⟨W.heap.size, 3, none⟩) (Nat.le_refl _) _).setCell (p := ⟨W.heap.size, 4, none⟩) (Nat.le_refl _) _)⟩
          simp only [HF1.out, Hhe2.out, Hhe3.out, Hhe4.out, HE5.out]
  · obtain ⟨m0, hm0⟩ : ∃ m, ks.length = m + 1 := ⟨ks.length - 1, by omega⟩
    have HE0 := Aside0.mk ((lr_ends HL.out i HI.out).2 m0 (by rw [HKS.out]; exact hm0))
    rw [HKS.out] at HE0
    have HM0 := Aside0.mk hm0
    have k0 : decide ((0 : Int) < (ks.length : Int)) = true := decide_eq_true (by omega)
    have k1 : (0 : Int) < (ks.length : Int) := by omega
    have wk : wrap64 ((ks.length : Int) - 1) = (m0 : Int) := by have := HKN.out; unfold wrap64; omega
    have mk : (m0 : Int) < (ks.length : Int) := by omega
    obtain ⟨ad6, hA6, c6⟩ := at_i HK1.out 0 (by omega)
    obtain ⟨ad6', hA6', c7⟩ := at_i HK1.out m0 (by omega)
    rw [hA6] at hA6'
    obtain rfl := Option.some.inj hA6'
    subst hA6
    have HK1W := HK1
    rw [← HE0.out.1] at c6
    rw [← HE0.out.2] at c7
    obtain ⟨f2, hf2⟩ : ∃ f, F i 2 = f := ⟨_, rfl⟩
    obtain ⟨f3, hf3⟩ : ∃ f, F i 3 = f := ⟨_, rfl⟩
    rw [hf2] at c6
    rw [hf3] at c7
    have c6' : w2.cell? ad6 = some (.int .i64 f2) := by have := cell_keep c6 BW2.out; simpa [Addr.add] using this
    have HF2 := Aside0.mk hf2
    have HF3 := Aside0.mk hf3
    have C7 := Aside0.mk c7
    have WK := Aside0.mk wk
    have y1 : w2.cell? ⟨g5, 1, none⟩ = some (.int .i64 (-1)) := (blk_cell X5.out 1).trans rfl
    have z1 := blk_frozen X5.out 1
    clear hf2 hf3 hz hm0 c6 c7 wk mk
    go_upto_region 5 with fail
    obtain ⟨w4, hw4⟩ : ∃ w4, w2.setCell ⟨g5, 1, none⟩ (.int .i64 f2) = w4 := ⟨_, rfl⟩
    rw [hw4]
    have X54 := Aside0.mk (show w4.heap[g5]? = some (.cells #[.int .i64 u, .int .i64 f2, .int .i64 (-1), .int .i64 (-1), .int .i64 (-1)] 27 (0, 0)) from hw4 ▸ blk_put X5.out 1 _ rfl)
    have X44 := Aside0.mk (show w4.heap[W.heap.size]? = some (.cells #[.int .i64 0, .int .i64 0, .int .i64 0, .int .i64 0, .int .i64 0] 27 (0, 0)) from hw4 ▸ blk_far X4.out (p := ⟨g5, 1, none⟩) (fun e => by have := HG.out.2; have e : W.heap.size = g5 := e; omega) _)
    have BW4 := Aside0.mk (show Below W.heap.size W w4 from hw4 ▸ BW2.out.setCell (p := ⟨g5, 1, none⟩) HG.out.1 _)
    clear hw4 c6' y1 z1
    have wk := WK.out
    have c7 := cell_keep C7.out BW4.out
    have mk : (m0 : Int) < (ks.length : Int) := by have := HM0.out; omega
    have y2 : w4.cell? ⟨g5, 2, none⟩ = some (.int .i64 (-1)) := (blk_cell X54.out 2).trans rfl
    have z2 := blk_frozen X54.out 2
    go_upto_region 6 with fail
    obtain ⟨w6, hw6⟩ : ∃ w6, w4.setCell ⟨g5, 2, none⟩ (.int .i64 f3) = w6 := ⟨_, rfl⟩
    rw [hw6]
    have X56 := Aside0.mk (show w6.heap[g5]? = some (.cells #[.int .i64 u, .int .i64 (F i 2), .int .i64 (F i 3), .int .i64 (-1), .int .i64 (-1)] 27 (0, 0)) from by rw [HF2.out, HF3.out]; exact hw6 ▸ blk_put X54.out 2 _ rfl)
    have X46 := Aside0.mk (show w6.heap[W.heap.size]? = some (.cells #[.int .i64 0, .int .i64 0, .int .i64 0, .int .i64 0, .int .i64 0] 27 (0, 0)) from hw6 ▸ blk_far X44.out (p := ⟨g5, 2, none⟩) (fun e => by have := HG.out.2; have e : W.heap.size = g5 := e; omega) _)
    have BW6 := Aside0.mk (show Below W.heap.size W w6 from hw6 ▸ BW4.out.setCell (p := ⟨g5, 2, none⟩) HG.out.1 _)
    clear hw6 wk c7 mk y2 z2 k0 k1
    have y0 : w6.cell? ⟨g5, 0, none⟩ = some (.int .i64 u) := (blk_cell X56.out 0).trans rfl
    by_cases hu : u < 0
    · have hub : decide (u < 0) = true := decide_eq_true hu
      have HFR := Aside0.mk (HL.out.fr i HI.out.1 HI.out.2 (by have := HU.out; unfold Ur at *; omega))
      clear hu
      go_upto_region 7 with fail
      clear y0 hub
      obtain ⟨e2, he2⟩ : ∃ e, F i 2 = e := ⟨_, rfl⟩
      obtain ⟨e3, he3⟩ : ∃ e, F i 3 = e := ⟨_, rfl⟩
      have X5' := X56.out
      rw [he2, he3] at X5'
      have Hhe2 := Aside0.mk he2
      have Hhe3 := Aside0.mk he3
      clear he2 he3
      have y0 : w6.cell? ⟨g5, 0, none⟩ = some (.int .i64 u) := (blk_cell X5' 0).trans rfl
      have x0 : w6.cell? ⟨W.heap.size, 0, none⟩ = some (.int .i64 0) := (blk_cell X46.out 0).trans rfl
      have z0 := blk_frozen X46.out 0
      have y1 : w6.cell? ⟨g5, 1, none⟩ = some (.int .i64 e2) := (blk_cell X5' 1).trans rfl
      have x1 : w6.cell? ⟨W.heap.size, 1, none⟩ = some (.int .i64 0) := (blk_cell X46.out 1).trans rfl
      have z1 := blk_frozen X46.out 1
      have y2 : w6.cell? ⟨g5, 2, none⟩ = some (.int .i64 e3) := (blk_cell X5' 2).trans rfl
      have x2 : w6.cell? ⟨W.heap.size, 2, none⟩ = some (.int .i64 0) := (blk_cell X46.out 2).trans rfl
      have z2 := blk_frozen X46.out 2
      have y3 : w6.cell? ⟨g5, 3, none⟩ = some (.int .i64 (-1)) := (blk_cell X5' 3).trans rfl
      have x3 : w6.cell? ⟨W.heap.size, 3, none⟩ = some (.int .i64 0) := (blk_cell X46.out 3).trans rfl
      have z3 := blk_frozen X46.out 3
      have y4 : w6.cell? ⟨g5, 4, none⟩ = some (.int .i64 (-1)) := (blk_cell X5' 4).trans rfl
      have x4 : w6.cell? ⟨W.heap.size, 4, none⟩ = some (.int .i64 0) := (blk_cell X46.out 4).trans rfl
      have z4 := blk_frozen X46.out 4
      clear X5'
      go_wp2_with fail
      refine bodyPost_ret (results_cell_row rfl _ _ W.heap.size 27 #[.int .i64 u, .int .i64 e2, .int .i64 e3, .int .i64 (-1), .int .i64 (-1)] (0, 0) _ rfl (blk_put (blk_put (blk_put (blk_put (blk_put X46.out 0 _ rfl) 1 _ rfl) 2 _ rfl) 3 _ rfl) 4 _ rfl) Try.underlying27 rfl (by kernel_rfl)) rfl ?_
      refine ⟨?_, (((((BW6.out.setCell (p := ⟨W.heap.size, 0, none⟩) (Nat.le_refl _) _).setCell (p := ⟨W.heap.size, 1, none⟩) (Nat.le_refl _) _).setCell (p := ⟨W.heap.size, 2, none⟩) (Nat.le_refl _) _).setCell (p := ⟨W.heap.size, 3, none⟩) (Nat.le_refl _) _).setCell (p := ⟨W.heap.size, 4, none⟩) (Nat.le_refl _) _)⟩
      simp only [HF1.out, Hhe2.out, Hhe3.out, HFR.out.1, HFR.out.2]
    · have hub : decide (u < 0) = false := decide_eq_false hu
      have HUR := Aside0.mk (show inP r.length u from ⟨by omega, by have := (HL.out.st.up i HI.out.1 HI.out.2).2; rw [HU.out] at this; exact this⟩)
      have u0 : 0 ≤ u := by omega
      have u1 : u < (r.length : Int) := HUR.out.2
      clear hu
      go_upto_region 8 with fail
      obtain ⟨ad2, A2, c2, hade2, _, s1W, hsl, hK2⟩ := at_T65 HC.out u HUR.out.1 HUR.out.2
      have s1 := cell_keep s1W BW6.out
      obtain rfl := Option.some.inj hade2
      obtain ⟨ss, hss⟩ : ∃ ss, Kr r u = ss := ⟨_, rfl⟩
      have hss' : (rd_T65 r u).f1 = ss := hss
      rw [hss'] at s1 hsl hK2
      have HSS := Aside0.mk hss
      have HK2 := Aside0.mk (And.intro hsl hK2)
      have HSN := Aside0.mk (show ss.length ≤ 1000000 from by have := HL.out.kids_le u HUR.out.1 HUR.out.2; rw [hss] at this; have := HN.out; omega)
      clear hss hss' hsl hK2 s1W
      go_upto_region 9 with fail
      clear s1 y0 hub
      obtain ⟨t, ⟨kf, hkf⟩, ht⟩ := find_ref ss i HSN.out
      have him : i ∈ ss := by rw [← HSS.out]; exact (HL.out.st.kid u i HUR.out.1 HUR.out.2).2 ⟨HI.out.1, HI.out.2, HU.out⟩
      obtain ⟨j, rfl, hj, hji⟩ : ∃ j : Nat, t = (j : Int) ∧ j < ss.length ∧ rd ss (j : Int) = i := by
        rcases ht with ⟨_, q⟩ | q
        · exact absurd him q
        · exact q
      have HJ := Aside0.mk (show j < ss.length ∧ ((j = 0 → F i 4 = -1) ∧ (∀ m, j = m + 1 → F i 4 = rd ss (m : Int)) ∧ (¬ j + 1 < ss.length → F i 5 = -1) ∧ (j + 1 < ss.length → F i 5 = rd ss ((j + 1 : Nat) : Int))) from by
        have q := lr_sibs HL.out i HI.out (by rw [HU.out]; exact HUR.out.1) j (by rw [HU.out, HSS.out]; exact hj) (by rw [HU.out, HSS.out]; exact hji)
        rw [HU.out, HSS.out] at q
        exact ⟨hj, q⟩)
      have HKF := Aside0.mk (hkf kf (Nat.le_refl _))
      clear hkf ht him hji hj
      go_upto_region 10 with (go_at_call 32; refine (tendrilref19_Find.calls kf _ _ ss i j _ (Kd.C_below HK2.out.2 BW6.out) HK2.out.1 HKF.out).mono ?_; rintro e w9 ⟨rfl, ⟨nd, hw⟩⟩; have HW9 := Aside0.mk hw; clear hw)
      have X5 := Aside0.mk (show w9.heap[g5]? = some (.cells #[.int .i64 u, .int .i64 (F i 2), .int .i64 (F i 3), .int .i64 (-1), .int .i64 (-1)] 27 (0, 0)) from by rw [HW9.out]; exact X56.out)
      have X4 := Aside0.mk (show w9.heap[W.heap.size]? = some (.cells #[.int .i64 0, .int .i64 0, .int .i64 0, .int .i64 0, .int .i64 0] 27 (0, 0)) from by rw [HW9.out]; exact X46.out)
      have BW := Aside0.mk (show Below W.heap.size W w9 from by rw [HW9.out]; exact pw_below_drewN BW6.out nd)
      have HK3 := Aside0.mk (show Kd.C (Kd.int .i64) w9 A2 ss.length ss from Kd.C_below HK2.out.2 BW.out)
      clear HW9
      have wj1 : Aside0 (wrap64 ((j : Int) + 1) = (j : Int) + 1) := ⟨by have := HJ.out.1; have := HSN.out; unfold wrap64; omega⟩
      by_cases hj0 : j = 0
      · have HE4 := Aside0.mk (HJ.out.2.1 hj0)
        have d0 : decide ((0 : Int) < (j : Int)) = false := decide_eq_false (by omega)
        have d1 : ¬ 0 < j := by omega
        clear hj0
        go_upto_region 12 with fail
        clear d0 d1
        by_cases hq : j + 1 < ss.length
        · have hqj0 : True := trivial
          have HE5 := Aside0.mk (HJ.out.2.2.2.2 hq)
          obtain ⟨ad5, hA5, c5⟩ := at_i HK3.out (j + 1) hq
          first | subst hA5 | (obtain rfl := Option.some.inj hA5)
          rw [← HE5.out] at c5
          obtain ⟨jj, hjj⟩ : ∃ jj, j + 1 = jj := ⟨_, rfl⟩
          rw [hjj] at c5 hq
          obtain ⟨f5, hf5⟩ : ∃ f, F i 5 = f := ⟨_, rfl⟩
          rw [hf5] at c5
          have HF5 := Aside0.mk hf5
          have y4 : w9.cell? ⟨g5, 4, none⟩ = some (.int .i64 (-1)) := (blk_cell X5.out 4).trans rfl
          have z4 := blk_frozen X5.out 4
          have hqi : decide ((jj : Int) < (ss.length : Int)) = true := decide_eq_true (Int.ofNat_lt.2 hq)
          have wj : wrap64 ((j : Int) + 1) = (jj : Int) := by rw [wj1.out, ← hjj]; rfl
          have HJJ := Aside0.mk hjj
          clear hf5 hjj hqj0
          go_upto_region 14 with fail
          obtain ⟨w12, hw12⟩ : ∃ w12, w9.setCell ⟨g5, 4, none⟩ (.int .i64 f5) = w12 := ⟨_, rfl⟩
          rw [hw12]
          have X512 := Aside0.mk (show w12.heap[g5]? = some (.cells #[.int .i64 u, .int .i64 (F i 2), .int .i64 (F i 3), .int .i64 (-1), .int .i64 f5] 27 (0, 0)) from hw12 ▸ blk_put X5.out 4 _ rfl)
          have X412 := Aside0.mk (show w12.heap[W.heap.size]? = some (.cells #[.int .i64 0, .int .i64 0, .int .i64 0, .int .i64 0, .int .i64 0] 27 (0, 0)) from hw12 ▸ blk_far X4.out (p := ⟨g5, 4, none⟩) (fun e => by have := HG.out.2; have e : W.heap.size = g5 := e; omega) _)
          have BW12 := Aside0.mk (show Below W.heap.size W w12 from hw12 ▸ BW.out.setCell (p := ⟨g5, 4, none⟩) HG.out.1 _)
          clear c5 y4 z4 wj hq hqi hw12
          have X512 := Aside0.mk (show w12.heap[g5]? = some (.cells #[.int .i64 u, .int .i64 (F i 2), .int .i64 (F i 3), .int .i64 (-1), .int .i64 (F i 5)] 27 (0, 0)) from by rw [HF5.out]; exact X512.out)
          obtain ⟨e2, he2⟩ : ∃ e, F i 2 = e := ⟨_, rfl⟩
          obtain ⟨e3, he3⟩ : ∃ e, F i 3 = e := ⟨_, rfl⟩
          obtain ⟨e5, he5⟩ : ∃ e, F i 5 = e := ⟨_, rfl⟩
          have X5' := X512.out
          rw [he2, he3, he5] at X5'
          have Hhe2 := Aside0.mk he2
          have Hhe3 := Aside0.mk he3
          have Hhe5 := Aside0.mk he5
          clear he2 he3 he5
          have y0 : w12.cell? ⟨g5, 0, none⟩ = some (.int .i64 u) := (blk_cell X5' 0).trans rfl
          have x0 : w12.cell? ⟨W.heap.size, 0, none⟩ = some (.int .i64 0) := (blk_cell X412.out 0).trans rfl
          have z0 := blk_frozen X412.out 0
          have y1 : w12.cell? ⟨g5, 1, none⟩ = some (.int .i64 e2) := (blk_cell X5' 1).trans rfl
          have x1 : w12.cell? ⟨W.heap.size, 1, none⟩ = some (.int .i64 0) := (blk_cell X412.out 1).trans rfl
          have z1 := blk_frozen X412.out 1
          have y2 : w12.cell? ⟨g5, 2, none⟩ = some (.int .i64 e3) := (blk_cell X5' 2).trans rfl
          have x2 : w12.cell? ⟨W.heap.size, 2, none⟩ = some (.int .i64 0) := (blk_cell X412.out 2).trans rfl
          have z2 := blk_frozen X412.out 2
          have y3 : w12.cell? ⟨g5, 3, none⟩ = some (.int .i64 (-1)) := (blk_cell X5' 3).trans rfl
          have x3 : w12.cell? ⟨W.heap.size, 3, none⟩ = some (.int .i64 0) := (blk_cell X412.out 3).trans rfl
          have z3 := blk_frozen X412.out 3
          have y4 : w12.cell? ⟨g5, 4, none⟩ = some (.int .i64 e5) := (blk_cell X5' 4).trans rfl
          have x4 : w12.cell? ⟨W.heap.size, 4, none⟩ = some (.int .i64 0) := (blk_cell X412.out 4).trans rfl
          have z4 := blk_frozen X412.out 4
          clear X5'
          go_wp2_with fail
          refine bodyPost_ret (results_cell_row rfl _ _ W.heap.size 27 #[.int .i64 u, .int .i64 e2, .int .i64 e3, .int .i64 (-1), .int .i64 e5] (0, 0) _ rfl (blk_put (blk_put (blk_put (blk_put (blk_put X412.out 0 _ rfl) 1 _ rfl) 2 _ rfl) 3 _ rfl) 4 _ rfl) Try.underlying27 rfl (by kernel_rfl)) rfl ?_
          refine ⟨?_, (((((BW12.out.setCell (p := ⟨W.heap.size, 0, none⟩) (Nat.le_refl _) _).setCell (p := ⟨W.heap.size, 1, none⟩) (Nat.le_refl _) _).setCell (p := ⟨W.heap.size, 2, none⟩) (Nat.le_refl _) _).setCell (p := ⟨W.heap.size, 3, none⟩) (Nat.le_refl _) _).setCell (p := ⟨W.heap.size, 4, none⟩) (Nat.le_refl _) _)⟩
          simp only [HF1.out, Hhe2.out, Hhe3.out, Hhe5.out, HE4.out]
        · have hqb : decide ((j : Int) + 1 < (ss.length : Int)) = false := decide_eq_false (by omega)
          have HE5 := Aside0.mk (HJ.out.2.2.2.1 hq)
          have wj := wj1.out
          have hqj : ¬ (j : Int) + 1 < (ss.length : Int) := by omega
          clear hq
          go_upto_region 14 with fail
          clear hqb wj hqj
          obtain ⟨e2, he2⟩ : ∃ e, F i 2 = e := ⟨_, rfl⟩
          obtain ⟨e3, he3⟩ : ∃ e, F i 3 = e := ⟨_, rfl⟩
          have X5' := X5.out
          rw [he2, he3] at X5'
          have Hhe2 := Aside0.mk he2
          have Hhe3 := Aside0.mk he3
          clear he2 he3
          have y0 : w9.cell? ⟨g5, 0, none⟩ = some (.int .i64 u) := (blk_cell X5' 0).trans rfl
          have x0 : w9.cell? ⟨W.heap.size, 0, none⟩ = some (.int .i64 0) := (blk_cell X4.out 0).trans rfl
          have z0 := blk_frozen X4.out 0
          have y1 : w9.cell? ⟨g5, 1, none⟩ = some (.int .i64 e2) := (blk_cell X5' 1).trans rfl
          have x1 : w9.cell? ⟨W.heap.size, 1, none⟩ = some (.int .i64 0) := (blk_cell X4.out 1).trans rfl
          have z1 := blk_frozen X4.out 1
          have y2 : w9.cell? ⟨g5, 2, none⟩ = some (.int .i64 e3) := (blk_cell X5' 2).trans rfl
          have x2 : w9.cell? ⟨W.heap.size, 2, none⟩ = some (.int .i64 0) := (blk_cell X4.out 2).trans rfl
          have z2 := blk_frozen X4.out 2
          have y3 : w9.cell? ⟨g5, 3, none⟩ = some (.int .i64 (-1)) := (blk_cell X5' 3).trans rfl
          have x3 : w9.cell? ⟨W.heap.size, 3, none⟩ = some (.int .i64 0) := (blk_cell X4.out 3).trans rfl
          have z3 := blk_frozen X4.out 3
          have y4 : w9.cell? ⟨g5, 4, none⟩ = some (.int .i64 (-1)) := (blk_cell X5' 4).trans rfl
          have x4 : w9.cell? ⟨W.heap.size, 4, none⟩ = some (.int .i64 0) := (blk_cell X4.out 4).trans rfl
          have z4 := blk_frozen X4.out 4
          clear X5'
          go_wp2_with fail
          refine bodyPost_ret (results_cell_row rfl _ _ W.heap.size 27 #[.int .i64 u, .int .i64 e2, .int .i64 e3, .int .i64 (-1), .int .i64 (-1)] (0, 0) _ rfl (blk_put (blk_put (blk_put (blk_put (blk_put X4.out 0 _ rfl) 1 _ rfl) 2 _ rfl) 3 _ rfl) 4 _ rfl) Try.underlying27 rfl (by kernel_rfl)) rfl ?_
          refine ⟨?_, (((((BW.out.setCell (p := ⟨W.heap.size, 0, none⟩) (Nat.le_refl _) _).setCell (p := ⟨W.heap.size, 1, none⟩) (Nat.le_refl _) _).setCell (p := ⟨W.heap.size, 2, none⟩) (Nat.le_refl _) _).setCell (p := ⟨W.heap.size, 3, none⟩) (Nat.le_refl _) _).setCell (p := ⟨W.heap.size, 4, none⟩) (Nat.le_refl _) _)⟩
          simp only [HF1.out, Hhe2.out, Hhe3.out, HE4.out, HE5.out]
      · obtain ⟨m, hm⟩ : ∃ m, j = m + 1 := ⟨j - 1, by omega⟩
        have HE4 := Aside0.mk (HJ.out.2.2.1 m hm)
        have d0 : decide ((0 : Int) < (j : Int)) = true := decide_eq_true (by omega)
        have d1 : 0 < j := by omega
        have wjm : wrap64 ((j : Int) - 1) = (m : Int) := by have := HJ.out.1; have := HSN.out; unfold wrap64; omega
        have hml : (m : Int) < (ss.length : Int) := by have := HJ.out.1; omega
        obtain ⟨ad4, hA4, c4⟩ := at_i HK3.out m (by have := HJ.out.1; omega)
        have HA4 := Aside0.mk hA4
        subst hA4
        rw [← HE4.out] at c4
        obtain ⟨f4, hf4⟩ : ∃ f, F i 4 = f := ⟨_, rfl⟩
        rw [hf4] at c4
        have HF4 := Aside0.mk hf4
        have y3 : w9.cell? ⟨g5, 3, none⟩ = some (.int .i64 (-1)) := (blk_cell X5.out 3).trans rfl
        have z3 := blk_frozen X5.out 3
        clear hf4 hj0 hm
        go_upto_region 12 with fail
        obtain ⟨w11, hw11⟩ : ∃ w11, w9.setCell ⟨g5, 3, none⟩ (.int .i64 f4) = w11 := ⟨_, rfl⟩
        rw [hw11]
        have X511 := Aside0.mk (show w11.heap[g5]? = some (.cells #[.int .i64 u, .int .i64 (F i 2), .int .i64 (F i 3), .int .i64 f4, .int .i64 (-1)] 27 (0, 0)) from hw11 ▸ blk_put X5.out 3 _ rfl)
        have X411 := Aside0.mk (show w11.heap[W.heap.size]? = some (.cells #[.int .i64 0, .int .i64 0, .int .i64 0, .int .i64 0, .int .i64 0] 27 (0, 0)) from hw11 ▸ blk_far X4.out (p := ⟨g5, 3, none⟩) (fun e => by have := HG.out.2; have e : W.heap.size = g5 := e; omega) _)
        have BW11 := Aside0.mk (show Below W.heap.size W w11 from hw11 ▸ BW.out.setCell (p := ⟨g5, 3, none⟩) HG.out.1 _)
        have HK11 := Aside0.mk (show Kd.C (Kd.int .i64) w11 (some ad4) ss.length ss from Kd.C_below HK2.out.2 BW11.out)
        clear c4 y3 z3 d0 d1 wjm hml hw11
        have X511 := Aside0.mk (show w11.heap[g5]? = some (.cells #[.int .i64 u, .int .i64 (F i 2), .int .i64 (F i 3), .int .i64 (F i 4), .int .i64 (-1)] 27 (0, 0)) from by rw [HF4.out]; exact X511.out)
        by_cases hq : j + 1 < ss.length
        · have hqj0 : True := trivial
          have HE5 := Aside0.mk (HJ.out.2.2.2.2 hq)
          obtain ⟨ad5, hA5, c5⟩ := at_i HK11.out (j + 1) hq
          first | subst hA5 | (obtain rfl := Option.some.inj hA5)
          rw [← HE5.out] at c5
          obtain ⟨jj, hjj⟩ : ∃ jj, j + 1 = jj := ⟨_, rfl⟩
          rw [hjj] at c5 hq
          obtain ⟨f5, hf5⟩ : ∃ f, F i 5 = f := ⟨_, rfl⟩
          rw [hf5] at c5
          have HF5 := Aside0.mk hf5
          have y4 : w11.cell? ⟨g5, 4, none⟩ = some (.int .i64 (-1)) := (blk_cell X511.out 4).trans rfl
          have z4 := blk_frozen X511.out 4
          have hqi : decide ((jj : Int) < (ss.length : Int)) = true := decide_eq_true (Int.ofNat_lt.2 hq)
          have wj : wrap64 ((j : Int) + 1) = (jj : Int) := by rw [wj1.out, ← hjj]; rfl
          have HJJ := Aside0.mk hjj
          clear hf5 hjj hqj0
          go_upto_region 14 with fail
          obtain ⟨w12, hw12⟩ : ∃ w12, w11.setCell ⟨g5, 4, none⟩ (.int .i64 f5) = w12 := ⟨_, rfl⟩
          rw [hw12]
          have X512 := Aside0.mk (show w12.heap[g5]? = some (.cells #[.int .i64 u, .int .i64 (F i 2), .int .i64 (F i 3), .int .i64 (F i 4), .int .i64 f5] 27 (0, 0)) from hw12 ▸ blk_put X511.out 4 _ rfl)
          have X412 := Aside0.mk (show w12.heap[W.heap.size]? = some (.cells #[.int .i64 0, .int .i64 0, .int .i64 0, .int .i64 0, .int .i64 0] 27 (0, 0)) from hw12 ▸ blk_far X411.out (p := ⟨g5, 4, none⟩) (fun e => by have := HG.out.2; have e : W.heap.size = g5 := e; omega) _)
          have BW12 := Aside0.mk (show Below W.heap.size W w12 from hw12 ▸ BW11.out.setCell (p := ⟨g5, 4, none⟩) HG.out.1 _)
          clear c5 y4 z4 wj hq hqi hw12
          have X512 := Aside0.mk (show w12.heap[g5]? = some (.cells #[.int .i64 u, .int .i64 (F i 2), .int .i64 (F i 3), .int .i64 (F i 4), .int .i64 (F i 5)] 27 (0, 0)) from by rw [HF5.out]; exact X512.out)
          obtain ⟨e2, he2⟩ : ∃ e, F i 2 = e := ⟨_, rfl⟩
          obtain ⟨e3, he3⟩ : ∃ e, F i 3 = e := ⟨_, rfl⟩
          obtain ⟨e4, he4⟩ : ∃ e, F i 4 = e := ⟨_, rfl⟩
          obtain ⟨e5, he5⟩ : ∃ e, F i 5 = e := ⟨_, rfl⟩
          have X5' := X512.out
          rw [he2, he3, he4, he5] at X5'
          have Hhe2 := Aside0.mk he2
          have Hhe3 := Aside0.mk he3
          have Hhe4 := Aside0.mk he4
          have Hhe5 := Aside0.mk he5
          clear he2 he3 he4 he5
          have y0 : w12.cell? ⟨g5, 0, none⟩ = some (.int .i64 u) := (blk_cell X5' 0).trans rfl
          have x0 : w12.cell? ⟨W.heap.size, 0, none⟩ = some (.int .i64 0) := (blk_cell X412.out 0).trans rfl
          have z0 := blk_frozen X412.out 0
          have y1 : w12.cell? ⟨g5, 1, none⟩ = some (.int .i64 e2) := (blk_cell X5' 1).trans rfl
          have x1 : w12.cell? ⟨W.heap.size, 1, none⟩ = some (.int .i64 0) := (blk_cell X412.out 1).trans rfl
          have z1 := blk_frozen X412.out 1
          have y2 : w12.cell? ⟨g5, 2, none⟩ = some (.int .i64 e3) := (blk_cell X5' 2).trans rfl
          have x2 : w12.cell? ⟨W.heap.size, 2, none⟩ = some (.int .i64 0) := (blk_cell X412.out 2).trans rfl
          have z2 := blk_frozen X412.out 2
          have y3 : w12.cell? ⟨g5, 3, none⟩ = some (.int .i64 e4) := (blk_cell X5' 3).trans rfl
          have x3 : w12.cell? ⟨W.heap.size, 3, none⟩ = some (.int .i64 0) := (blk_cell X412.out 3).trans rfl
          have z3 := blk_frozen X412.out 3
          have y4 : w12.cell? ⟨g5, 4, none⟩ = some (.int .i64 e5) := (blk_cell X5' 4).trans rfl
          have x4 : w12.cell? ⟨W.heap.size, 4, none⟩ = some (.int .i64 0) := (blk_cell X412.out 4).trans rfl
          have z4 := blk_frozen X412.out 4
          clear X5'
          go_wp2_with fail
          refine bodyPost_ret (results_cell_row rfl _ _ W.heap.size 27 #[.int .i64 u, .int .i64 e2, .int .i64 e3, .int .i64 e4, .int .i64 e5] (0, 0) _ rfl (blk_put (blk_put (blk_put (blk_put (blk_put X412.out 0 _ rfl) 1 _ rfl) 2 _ rfl) 3 _ rfl) 4 _ rfl) Try.underlying27 rfl (by kernel_rfl)) rfl ?_
          refine ⟨?_, (((((BW12.out.setCell (p := ⟨W.heap.size, 0, none⟩) (Nat.le_refl _) _).setCell (p := ⟨W.heap.size, 1, none⟩) (Nat.le_refl _) _).setCell (p := ⟨W.heap.size, 2, none⟩) (Nat.le_refl _) _).setCell (p := ⟨W.heap.size, 3, none⟩) (Nat.le_refl _) _).setCell (p := ⟨W.heap.size, 4, none⟩) (Nat.le_refl _) _)⟩
          simp only [HF1.out, Hhe2.out, Hhe3.out, Hhe4.out, Hhe5.out]
        · have hqb : decide ((j : Int) + 1 < (ss.length : Int)) = false := decide_eq_false (by omega)
          have HE5 := Aside0.mk (HJ.out.2.2.2.1 hq)
          have wj := wj1.out
          have hqj : ¬ (j : Int) + 1 < (ss.length : Int) := by omega
          clear hq
          go_upto_region 14 with fail
          clear hqb wj hqj
          obtain ⟨e2, he2⟩ : ∃ e, F i 2 = e := ⟨_, rfl⟩
          obtain ⟨e3, he3⟩ : ∃ e, F i 3 = e := ⟨_, rfl⟩
          obtain ⟨e4, he4⟩ : ∃ e, F i 4 = e := ⟨_, rfl⟩
          have X5' := X511.out
          rw [he2, he3, he4] at X5'
          have Hhe2 := Aside0.mk he2
          have Hhe3 := Aside0.mk he3
          have Hhe4 := Aside0.mk he4
          clear he2 he3 he4
          have y0 : w11.cell? ⟨g5, 0, none⟩ = some (.int .i64 u) := (blk_cell X5' 0).trans rfl
          have x0 : w11.cell? ⟨W.heap.size, 0, none⟩ = some (.int .i64 0) := (blk_cell X411.out 0).trans rfl
          have z0 := blk_frozen X411.out 0
          have y1 : w11.cell? ⟨g5, 1, none⟩ = some (.int .i64 e2) := (blk_cell X5' 1).trans rfl
          have x1 : w11.cell? ⟨W.heap.size, 1, none⟩ = some (.int .i64 0) := (blk_cell X411.out 1).trans rfl
          have z1 := blk_frozen X411.out 1
          have y2 : w11.cell? ⟨g5, 2, none⟩ = some (.int .i64 e3) := (blk_cell X5' 2).trans rfl
          have x2 : w11.cell? ⟨W.heap.size, 2, none⟩ = some (.int .i64 0) := (blk_cell X411.out 2).trans rfl
          have z2 := blk_frozen X411.out 2
          have y3 : w11.cell? ⟨g5, 3, none⟩ = some (.int .i64 e4) := (blk_cell X5' 3).trans rfl
          have x3 : w11.cell? ⟨W.heap.size, 3, none⟩ = some (.int .i64 0) := (blk_cell X411.out 3).trans rfl
          have z3 := blk_frozen X411.out 3
          have y4 : w11.cell? ⟨g5, 4, none⟩ = some (.int .i64 (-1)) := (blk_cell X5' 4).trans rfl
          have x4 : w11.cell? ⟨W.heap.size, 4, none⟩ = some (.int .i64 0) := (blk_cell X411.out 4).trans rfl
          have z4 := blk_frozen X411.out 4
          clear X5'
          go_wp2_with fail
          refine bodyPost_ret (results_cell_row rfl _ _ W.heap.size 27 #[.int .i64 u, .int .i64 e2, .int .i64 e3, .int .i64 e4, .int .i64 (-1)] (0, 0) _ rfl (blk_put (blk_put (blk_put (blk_put (blk_put X411.out 0 _ rfl) 1 _ rfl) 2 _ rfl) 3 _ rfl) 4 _ rfl) Try.underlying27 rfl (by kernel_rfl)) rfl ?_
          refine ⟨?_, (((((BW11.out.setCell (p := ⟨W.heap.size, 0, none⟩) (Nat.le_refl _) _).setCell (p := ⟨W.heap.size, 1, none⟩) (Nat.le_refl _) _).setCell (p := ⟨W.heap.size, 2, none⟩) (Nat.le_refl _) _).setCell (p := ⟨W.heap.size, 3, none⟩) (Nat.le_refl _) _).setCell (p := ⟨W.heap.size, 4, none⟩) (Nat.le_refl _) _)⟩
          simp only [HF1.out, Hhe2.out, Hhe3.out, Hhe4.out, HE5.out]
end Go.Proofs.Ytgamhkhninogeaa.G
