-- Written by gp.py (wip/gen) for this claim: pure functions and contracts, out of the translation; not trusted: Lean checks it.
import Derived.Test.YtcebfldagnjddaaGx0
import Derived.Test.YtcebfldagnjddaaGx7
namespace Go.Proofs.Ytcebfldagnjddaa.G
open Go.RowKit Go.Proofs.YtcebfldagnjddaaW.PrintWords Go.Proofs.YtcebfldagnjddaaW.PrintLast Go.Proofs.YtcebfldagnjddaaW.PrintMore
attribute [local go_sem] max2_int min2_int max_two min_two max_three min_three max_four min_four   -- for this text's walks alone
set_option linter.unusedVariables false
set_option linter.unusedSimpArgs false
open Go.Proofs.YtcebfldagnjddaaW.PrintWords renaming below_alloc → zA, pw_below_drewN → zN, below_drew1 → zD, below_set → zS, blk_drewN → zM, blk_drew → zE, blk_alloc → zF, blk_far → zG, blk_put → zP, blk_cell → zC, blk_frozen → zR
/-! ### tendrilplain_Nodes: function 13 -/
mutual
def tendrilplain_Nodes.j0 : Nat → Bool → ByteArray → ByteArray → ByteArray → List (S69) → List (S25) → ByteArray → ByteArray → ByteArray → List (S69) → List (S25) → Option (Bool)
 | 0, _, _, _, _, _, _, _, _, _, _, _ => none
 | k + 1, x41, x204000, x204001, x204002, x204003, x204004, x205000, x205001, x205002, x205003, x205004 => if x41 = true then (some false) else (tendrilplain_Nodes.l0 k (x204004.length : Int) 0 x204000 x204001 x204002 x204003 x204004 x205000 x205001 x205002 x205003 x205004)
def tendrilplain_Nodes.l0 : Nat → Int → Int → ByteArray → ByteArray → ByteArray → List (S69) → List (S25) → ByteArray → ByteArray → ByteArray → List (S69) → List (S25) → Option (Bool)
 | 0, _, _, _, _, _, _, _, _, _, _, _, _ => none
 | k + 1, x44, x45, x204000, x204001, x204002, x204003, x204004, x205000, x205001, x205002, x205003, x205004 => if x45 < x44 then (if 0 ≤ x45 then (if x45 < (x204004.length : Int) then (if x45 < (x205004.length : Int) then ((tendrilplain_Nodes.f k ((rd_T25 x204004 x45).f0) ((rd_T25 x204004 x45).f1) ((rd_T25 x204004 x45).f2) ((rd_T25 x204004 x45).f3) ((rd_T25 x204004 x45).f4) ((rd_T25 x205004 x45).f0) ((rd_T25 x205004 x45).f1) ((rd_T25 x205004 x45).f2) ((rd_T25 x205004 x45).f3) ((rd_T25 x205004 x45).f4)).bind fun t208 => (if t208 = true then (tendrilplain_Nodes.l0 k x44 (wrap64 (x45 + 1)) x204000 x204001 x204002 x204003 x204004 x205000 x205001 x205002 x205003 x205004) else (some false))) else (none)) else (none)) else (none)) else (some true)
def tendrilplain_Nodes.f : Nat → ByteArray → ByteArray → ByteArray → List (S69) → List (S25) → ByteArray → ByteArray → ByteArray → List (S69) → List (S25) → Option (Bool)
 | 0, _, _, _, _, _, _, _, _, _, _ => none
 | k + 1, a0_0, a0_1, a0_2, l0_3, l0_4, a1_0, a1_1, a1_2, l1_3, l1_4 => if a0_0.toList = a1_0.toList then (if a0_1.toList = a1_1.toList then (if a0_2.toList = a1_2.toList then ((tendrilplain_Attrs.f k l0_3 l1_3).bind fun t205 => (if t205 = true then (tendrilplain_Nodes.j0 k ((l0_4.length : Int) != (l1_4.length : Int)) a0_0 a0_1 a0_2 l0_3 l0_4 a1_0 a1_1 a1_2 l1_3 l1_4) else (tendrilplain_Nodes.j0 k true a0_0 a0_1 a0_2 l0_3 l0_4 a1_0 a1_1 a1_2 l1_3 l1_4))) else (tendrilplain_Nodes.j0 k true a0_0 a0_1 a0_2 l0_3 l0_4 a1_0 a1_1 a1_2 l1_3 l1_4)) else (tendrilplain_Nodes.j0 k true a0_0 a0_1 a0_2 l0_3 l0_4 a1_0 a1_1 a1_2 l1_3 l1_4)) else (tendrilplain_Nodes.j0 k true a0_0 a0_1 a0_2 l0_3 l0_4 a1_0 a1_1 a1_2 l1_3 l1_4)
end
theorem tendrilplain_Nodes.mono_l : ∀ k, (∀ y0 y1 y2 y3 y4 y5 y6 y7 y8 y9, LeO (tendrilplain_Nodes.f k y0 y1 y2 y3 y4 y5 y6 y7 y8 y9) (tendrilplain_Nodes.f (k + 1) y0 y1 y2 y3 y4 y5 y6 y7 y8 y9)) ∧ (∀ y0 y1 y2 y3 y4 y5 y6 y7 y8 y9 y10, LeO (tendrilplain_Nodes.j0 k y0 y1 y2 y3 y4 y5 y6 y7 y8 y9 y10) (tendrilplain_Nodes.j0 (k + 1) y0 y1 y2 y3 y4 y5 y6 y7 y8 y9 y10)) ∧ (∀ y0 y1 y2 y3 y4 y5 y6 y7 y8 y9 y10 y11, LeO (tendrilplain_Nodes.l0 k y0 y1 y2 y3 y4 y5 y6 y7 y8 y9 y10 y11) (tendrilplain_Nodes.l0 (k + 1) y0 y1 y2 y3 y4 y5 y6 y7 y8 y9 y10 y11))
 | 0 => ⟨fun _ _ _ _ _ _ _ _ _ _ r h => by simp [tendrilplain_Nodes.f] at h, fun _ _ _ _ _ _ _ _ _ _ _ r h => by simp [tendrilplain_Nodes.j0] at h, fun _ _ _ _ _ _ _ _ _ _ _ _ r h => by simp [tendrilplain_Nodes.l0] at h⟩
 | k + 1 => by
  obtain ⟨ih0, ih1, ih2⟩ := tendrilplain_Nodes.mono_l k
  refine ⟨?_, ?_, ?_⟩
  ·
   intro y0 y1 y2 y3 y4 y5 y6 y7 y8 y9; unfold tendrilplain_Nodes.f
   repeat' first
   | (with_reducible exact ih0 _ _ _ _ _ _ _ _ _ _)
   | (with_reducible exact ih1 _ _ _ _ _ _ _ _ _ _ _)
   | (with_reducible exact ih2 _ _ _ _ _ _ _ _ _ _ _ _)
   | (with_reducible exact tendrilplain_Attrs.mono _ _ _)
   | (with_reducible exact LeO.refl _)
   | (with_reducible exact LeO.none _)
   | (with_reducible refine LeO.ite ?_ ?_)
   | (with_reducible refine LeO.bind ?_ (fun _ => ?_))
  ·
   intro y0 y1 y2 y3 y4 y5 y6 y7 y8 y9 y10; unfold tendrilplain_Nodes.j0
   repeat' first
   | (with_reducible exact ih0 _ _ _ _ _ _ _ _ _ _)
   | (with_reducible exact ih1 _ _ _ _ _ _ _ _ _ _ _)
   | (with_reducible exact ih2 _ _ _ _ _ _ _ _ _ _ _ _)
   | (with_reducible exact tendrilplain_Attrs.mono _ _ _)
   | (with_reducible exact LeO.refl _)
   | (with_reducible exact LeO.none _)
   | (with_reducible refine LeO.ite ?_ ?_)
   | (with_reducible refine LeO.bind ?_ (fun _ => ?_))
  ·
   intro y0 y1 y2 y3 y4 y5 y6 y7 y8 y9 y10 y11; unfold tendrilplain_Nodes.l0
   repeat' first
   | (with_reducible exact ih0 _ _ _ _ _ _ _ _ _ _)
   | (with_reducible exact ih1 _ _ _ _ _ _ _ _ _ _ _)
   | (with_reducible exact ih2 _ _ _ _ _ _ _ _ _ _ _ _)
   | (with_reducible exact tendrilplain_Attrs.mono _ _ _)
   | (with_reducible exact LeO.refl _)
   | (with_reducible exact LeO.none _)
   | (with_reducible refine LeO.ite ?_ ?_)
   | (with_reducible refine LeO.bind ?_ (fun _ => ?_))
theorem tendrilplain_Nodes.mono : ∀ a0 a1 a2 a3 a4 a5 a6 a7 a8 a9 k, LeO (tendrilplain_Nodes.f k a0 a1 a2 a3 a4 a5 a6 a7 a8 a9) (tendrilplain_Nodes.f (k + 1) a0 a1 a2 a3 a4 a5 a6 a7 a8 a9) := by
 intro a0 a1 a2 a3 a4 a5 a6 a7 a8 a9 k
 obtain ⟨ih0, ih1, ih2⟩ := tendrilplain_Nodes.mono_l k
 exact ih0 a0 a1 a2 a3 a4 a5 a6 a7 a8 a9
def tendrilplain_Nodes.T6 : Bool × List (List Nat × List Nat) := (true, [([], []), ([0], [0]), ([], []), ([1, 2], [1, 2]), ([3], [3]), ([], []), ([5], [5]), ([], []), ([6, 7], [6, 7]), ([8], [8]), ([4, 9], [4, 9]), ([10], [10])])
def tendrilplain_Nodes.B6 : List Nat := [0, 1, 0, 7, 15, 0, 32, 0, 224, 480, 1023, 2047]
theorem tendrilplain_Nodes.tab6 : rtab .any (opsOf Try.f13 6) = tendrilplain_Nodes.T6 := by kernel_rfl
theorem tendrilplain_Nodes.bits6 : waitsOk tendrilplain_Nodes.T6.2 tendrilplain_Nodes.B6 = true := by kernel_rfl
set_option maxHeartbeats 8000000 in
set_option maxRecDepth 100000 in
theorem tendrilplain_Nodes.calls (k : Nat) : ∀ (a0_0 : ByteArray) (a0_1 : ByteArray) (a0_2 : ByteArray) (A0_3 : Option Addr) (c0_3 : Nat) (l0_3 : List (S69)) (A0_4 : Option Addr) (c0_4 : Nat) (l0_4 : List (S25)) (a1_0 : ByteArray) (a1_1 : ByteArray) (a1_2 : ByteArray) (A1_3 : Option Addr) (c1_3 : Nat) (l1_3 : List (S69)) (A1_4 : Option Addr) (c1_4 : Nat) (l1_4 : List (S25)) (r : Bool) (w : World) (hr0_3 : Kd.C k69 w A0_3 l0_3.length l0_3) (hc0_3 : l0_3.length ≤ c0_3) (hr0_4 : Kd.C k25 w A0_4 l0_4.length l0_4) (hc0_4 : l0_4.length ≤ c0_4) (hr1_3 : Kd.C k69 w A1_3 l1_3.length l1_3) (hc1_3 : l1_3.length ≤ c1_3) (hr1_4 : Kd.C k25 w A1_4 l1_4.length l1_4) (hc1_4 : l1_4.length ≤ c1_4) (h : tendrilplain_Nodes.f k a0_0 a0_1 a0_2 l0_3 l0_4 a1_0 a1_1 a1_2 l1_3 l1_4 = some r),
  Calls Try.prog 13 #[.agg #[.string a0_0, .string a0_1, .string a0_2, .slice A0_3 l0_3.length c0_3, .slice A0_4 l0_4.length c0_4], .agg #[.string a1_0, .string a1_1, .string a1_2, .slice A1_3 l1_3.length c1_3, .slice A1_4 l1_4.length c1_4]] w fun e w' => e = .returned (.bool r) ∧ Below w.heap.size w w' := by
 induction k using Nat.strongRecOn with
 | _ k ih =>
 intro a0_0 a0_1 a0_2 A0_3 c0_3 l0_3 A0_4 c0_4 l0_4 a1_0 a1_1 a1_2 A1_3 c1_3 l1_3 A1_4 c1_4 l1_4 r w hr0_3 hc0_3 hr0_4 hc0_4 hr1_3 hc1_3 hr1_4 hc1_4 h
 cases k with
 | zero => exact absurd h (by simp [tendrilplain_Nodes.f])
 | succ k =>
 simp only [tendrilplain_Nodes.f] at h
 have hu25 := Try.underlying25
 have HR0_3 := Aside0.mk hr0_3
 have HC0_3 := Aside0.mk hc0_3
 clear hr0_3 hc0_3
 have HR0_4 := Aside0.mk hr0_4
 have HC0_4 := Aside0.mk hc0_4
 clear hr0_4 hc0_4
 have HR1_3 := Aside0.mk hr1_3
 have HC1_3 := Aside0.mk hc1_3
 clear hr1_3 hc1_3
 have HR1_4 := Aside0.mk hr1_4
 have HC1_4 := Aside0.mk hc1_4
 clear hr1_4 hc1_4
 have HB := Aside0.mk (Below.refl w.heap.size w)
 have H : (if a0_0.toList = a1_0.toList then (if a0_1.toList = a1_1.toList then (if a0_2.toList = a1_2.toList then ((tendrilplain_Attrs.f k l0_3 l1_3).bind fun t205 => (if t205 = true then (tendrilplain_Nodes.j0 k ((l0_4.length : Int) != (l1_4.length : Int)) a0_0 a0_1 a0_2 l0_3 l0_4 a1_0 a1_1 a1_2 l1_3 l1_4) else (tendrilplain_Nodes.j0 k true a0_0 a0_1 a0_2 l0_3 l0_4 a1_0 a1_1 a1_2 l1_3 l1_4))) else (tendrilplain_Nodes.j0 k true a0_0 a0_1 a0_2 l0_3 l0_4 a1_0 a1_1 a1_2 l1_3 l1_4)) else (tendrilplain_Nodes.j0 k true a0_0 a0_1 a0_2 l0_3 l0_4 a1_0 a1_1 a1_2 l1_3 l1_4)) else (tendrilplain_Nodes.j0 k true a0_0 a0_1 a0_2 l0_3 l0_4 a1_0 a1_1 a1_2 l1_3 l1_4)) = some r := h
 clear h
 have HC3 := Aside0.mk H
 clear H
 go_enter Try.func13, Try.ntmps13
 go_upto_region 1 with (first | ((with_reducible refine gate_dst (N := 2) rfl ?_); (try (refine gate_guard (by rfl) ?_; dsimp only)); refine box_event ?hg (N := 2) ?hd (cs := #[.string a0_0, .string a0_1, .string a0_2, .slice A0_3 l0_3.length c0_3, .slice A0_4 l0_4.length c0_4]) (t := 25) ?hr ?_; (case hd => rfl); (case hg => rfl); (case hr => first | (go_simp; done) | (go_simp; rfl)); intro gb203 hg w4 hbox hb; have n0_ := Aside0.mk (below_step (by with_reducible repeat first | exact HB.out | apply zA | apply zN | apply zD) hb); have n1_ := Aside0.mk (hbox); have n2_ := Aside0.mk ((by rw [hg]; exact (below_size (by with_reducible repeat first | exact HB.out | apply zA | apply zN | apply zD)) : w.heap.size ≤ gb203)); have n3_ := n2_; clear HB; have HB := n0_; have BK203 := n1_; have GW203 := n2_; have GE203 := n3_; clear n0_ n1_ n2_ n3_; clear hb hbox hg) | ((with_reducible refine gate_dst (N := 3) rfl ?_); (try (refine gate_guard (by rfl) ?_; dsimp only)); refine box_event ?hg (N := 3) ?hd (cs := #[.string a1_0, .string a1_1, .string a1_2, .slice A1_3 l1_3.length c1_3, .slice A1_4 l1_4.length c1_4]) (t := 25) ?hr ?_; (case hd => rfl); (case hg => rfl); (case hr => first | (go_simp; done) | (go_simp; rfl)); intro gb204 hg w5 hbox hb; have n0_ := Aside0.mk (blk_below (g := gb203) (o := .cells #[.string a0_0, .string a0_1, .string a0_2, .slice A0_3 l0_3.length c0_3, .slice A0_4 l0_4.length c0_4] 25 (0, 0)) (by (with_reducible repeat first | apply zM | apply zE | apply zF); exact BK203.out) hb); have n1_ := Aside0.mk (below_step (by with_reducible repeat first | exact HB.out | apply zA | apply zN | apply zD | refine zS ?_ GE203.out) hb); have n2_ := Aside0.mk (hbox); have n3_ := Aside0.mk ((by rw [hg]; exact (below_size (by with_reducible repeat first | exact HB.out | apply zA | apply zN | apply zD | refine zS ?_ GE203.out)) : w.heap.size ≤ gb204)); have n4_ := n3_; have n5_ := Aside0.mk ((by rw [hg]; exact Nat.ne_of_lt (blk_lt (g := gb203) (o := .cells #[.string a0_0, .string a0_1, .string a0_2, .slice A0_3 l0_3.length c0_3, .slice A0_4 l0_4.length c0_4] 25 (0, 0)) (by (with_reducible repeat first | apply zM | apply zE | apply zF); exact BK203.out)) : gb203 ≠ gb204)); have n6_ := Aside0.mk ((by rw [hg]; exact Nat.ne_of_gt (blk_lt (g := gb203) (o := .cells #[.string a0_0, .string a0_1, .string a0_2, .slice A0_3 l0_3.length c0_3, .slice A0_4 l0_4.length c0_4] 25 (0, 0)) (by (with_reducible repeat first | apply zM | apply zE | apply zF); exact BK203.out)) : gb204 ≠ gb203)); clear BK203; clear HB; have BK203 := n0_; have HB := n1_; have BK204 := n2_; have GW204 := n3_; have GE204 := n4_; have NB203_204 := n5_; have NB204_203 := n6_; clear n0_ n1_ n2_ n3_ n4_ n5_ n6_; clear hb hbox hg))
 (try simp only [Act.put, List.setIfInBounds_toArray, List.set_cons_zero, List.set_cons_succ])
 go_cut [41] (fun v41 wc => ∃ (kq : Nat) (x41_2 : Bool), v41 = .bool x41_2 ∧ Aside0 (tendrilplain_Nodes.j0 kq x41_2 a0_0 a0_1 a0_2 l0_3 l0_4 a1_0 a1_1 a1_2 l1_3 l1_4 = some r) ∧ Aside0 (kq ≤ k) ∧ Aside0 (wc.heap[gb203]? = some (.cells #[.string a0_0, .string a0_1, .string a0_2, (.slice A0_3 l0_3.length c0_3), (.slice A0_4 l0_4.length c0_4)] 25 (0, 0))) ∧ Aside0 (wc.heap[gb204]? = some (.cells #[.string a1_0, .string a1_1, .string a1_2, (.slice A1_3 l1_3.length c1_3), (.slice A1_4 l1_4.length c1_4)] 25 (0, 0))) ∧ Aside0 (Below w.heap.size w wc))
 case first =>
  have H := HC3.out
  clear HC3
  by_cases c6 : a0_0.toList = a1_0.toList
  ·
   rw [if_pos c6] at H
   have c6b0 : (a0_0.toList == a1_0.toList) = true := beq_iff_eq.mpr c6; have c6b1 : (a0_0.toList != a1_0.toList) = false := bne_eq_false_iff_eq.mpr c6; clear c6
   (first | rw [c6b0] | (simp only [i64_w, i32_w]; rw [c6b0]) | skip)
   by_cases c7 : a0_1.toList = a1_1.toList
   ·
    rw [if_pos c7] at H
    have c7b0 : (a0_1.toList == a1_1.toList) = true := beq_iff_eq.mpr c7; have c7b1 : (a0_1.toList != a1_1.toList) = false := bne_eq_false_iff_eq.mpr c7; clear c7
    by_cases c8 : a0_2.toList = a1_2.toList
    ·
     rw [if_pos c8] at H
     have c8b0 : (a0_2.toList == a1_2.toList) = true := beq_iff_eq.mpr c8; have c8b1 : (a0_2.toList != a1_2.toList) = false := bne_eq_false_iff_eq.mpr c8; clear c8; replace H := Option.bind_eq_some_iff.mp H; obtain ⟨t205, A90, H⟩ := H; replace H : (if t205 = true then (tendrilplain_Nodes.j0 k ((l0_4.length : Int) != (l1_4.length : Int)) a0_0 a0_1 a0_2 l0_3 l0_4 a1_0 a1_1 a1_2 l1_3 l1_4) else (tendrilplain_Nodes.j0 k true a0_0 a0_1 a0_2 l0_3 l0_4 a1_0 a1_1 a1_2 l1_3 l1_4)) = some r := H; have A9 := Aside0.mk A90; clear A90
     by_cases c10 : t205 = true
     ·
      subst c10; have H1 : (tendrilplain_Nodes.j0 k ((l0_4.length : Int) != (l1_4.length : Int)) a0_0 a0_1 a0_2 l0_3 l0_4 a1_0 a1_1 a1_2 l1_3 l1_4) = some r := by rw [if_pos rfl] at H; exact H
      clear H; have H := H1; clear H1; have H' := Aside0.mk H; clear H; have hnb11 := NB203_204.out; have hnc11 := NB204_203.out; have hcz12_0 : w5.cell? ⟨gb203, 0, none⟩ = some (.string a0_0) := (zC BK203.out 0).trans rfl; have hcz12_1 : w5.cell? ⟨gb203, 1, none⟩ = some (.string a0_1) := (zC BK203.out 1).trans rfl; have hcz12_2 : w5.cell? ⟨gb203, 2, none⟩ = some (.string a0_2) := (zC BK203.out 2).trans rfl; have hcz12_3 : w5.cell? ⟨gb203, 3, none⟩ = some (.slice A0_3 l0_3.length c0_3) := (zC BK203.out 3).trans rfl; have hcz12_4 : w5.cell? ⟨gb203, 4, none⟩ = some (.slice A0_4 l0_4.length c0_4) := (zC BK203.out 4).trans rfl; have hfz12_0 := zR BK203.out 0; have hfz12_1 := zR BK203.out 1; have hfz12_2 := zR BK203.out 2; have hfz12_3 := zR BK203.out 3; have hfz12_4 := zR BK203.out 4; have hcz13_0 : w5.cell? ⟨gb204, 0, none⟩ = some (.string a1_0) := (zC BK204.out 0).trans rfl; have hcz13_1 : w5.cell? ⟨gb204, 1, none⟩ = some (.string a1_1) := (zC BK204.out 1).trans rfl; have hcz13_2 : w5.cell? ⟨gb204, 2, none⟩ = some (.string a1_2) := (zC BK204.out 2).trans rfl; have hcz13_3 : w5.cell? ⟨gb204, 3, none⟩ = some (.slice A1_3 l1_3.length c1_3) := (zC BK204.out 3).trans rfl; have hcz13_4 : w5.cell? ⟨gb204, 4, none⟩ = some (.slice A1_4 l1_4.length c1_4) := (zC BK204.out 4).trans rfl; have hfz13_0 := zR BK204.out 0; have hfz13_1 := zR BK204.out 1; have hfz13_2 := zR BK204.out 2; have hfz13_3 := zR BK204.out 3; have hfz13_4 := zR BK204.out 4
      go_wp2_with (first | (go_at_call 37; (with_reducible refine (tendrilplain_Attrs.calls k _ _ l0_3 _ _ l1_3 true _ ?side1 ?side2 ?side3 ?side4 A9.out).mono ?_); (case side1 => repeat (first | exact (Kd.C_below HR0_3.out HB.out) | (with_reducible refine Kd.C_alloc ?_ _) | (with_reducible refine Kd.C_drewN ?_ _) | (with_reducible refine Kd.C_drew ?_))); (case side2 => exact HC0_3.out); (case side3 => repeat (first | exact (Kd.C_below HR1_3.out HB.out) | (with_reducible refine Kd.C_alloc ?_ _) | (with_reducible refine Kd.C_drewN ?_ _) | (with_reducible refine Kd.C_drew ?_))); (case side4 => exact HC1_3.out); rintro e w' ⟨rfl, ⟨nd, rfl⟩⟩))
      go_meet
      case rel => exact ⟨_, (((l0_4.length : Int) != (l1_4.length : Int))), (by first | rfl | (simp; done) | (simp [*]; done)), H', ⟨by first | omega | exact Nat.le_refl _⟩, ⟨by (with_reducible repeat first | apply zM | apply zE | apply zF); exact BK203.out⟩, ⟨by (with_reducible repeat first | apply zM | apply zE | apply zF); exact BK204.out⟩, ⟨by with_reducible repeat first | exact HB.out | apply zA | apply zN | apply zD | refine zS ?_ GE203.out | refine zS ?_ GE204.out⟩⟩
     ·
      replace c10 := Bool.eq_false_iff.mpr c10; subst c10; have H1 : (tendrilplain_Nodes.j0 k true a0_0 a0_1 a0_2 l0_3 l0_4 a1_0 a1_1 a1_2 l1_3 l1_4) = some r := by rw [if_neg (show ¬ (false = true) by decide)] at H; exact H
      clear H; have H := H1; clear H1; have H' := Aside0.mk H; clear H; have hnb14 := NB203_204.out; have hnc14 := NB204_203.out; have hcz15_0 : w5.cell? ⟨gb203, 0, none⟩ = some (.string a0_0) := (zC BK203.out 0).trans rfl; have hcz15_1 : w5.cell? ⟨gb203, 1, none⟩ = some (.string a0_1) := (zC BK203.out 1).trans rfl; have hcz15_2 : w5.cell? ⟨gb203, 2, none⟩ = some (.string a0_2) := (zC BK203.out 2).trans rfl; have hcz15_3 : w5.cell? ⟨gb203, 3, none⟩ = some (.slice A0_3 l0_3.length c0_3) := (zC BK203.out 3).trans rfl; have hcz15_4 : w5.cell? ⟨gb203, 4, none⟩ = some (.slice A0_4 l0_4.length c0_4) := (zC BK203.out 4).trans rfl; have hfz15_0 := zR BK203.out 0; have hfz15_1 := zR BK203.out 1; have hfz15_2 := zR BK203.out 2; have hfz15_3 := zR BK203.out 3; have hfz15_4 := zR BK203.out 4; have hcz16_0 : w5.cell? ⟨gb204, 0, none⟩ = some (.string a1_0) := (zC BK204.out 0).trans rfl; have hcz16_1 : w5.cell? ⟨gb204, 1, none⟩ = some (.string a1_1) := (zC BK204.out 1).trans rfl; have hcz16_2 : w5.cell? ⟨gb204, 2, none⟩ = some (.string a1_2) := (zC BK204.out 2).trans rfl; have hcz16_3 : w5.cell? ⟨gb204, 3, none⟩ = some (.slice A1_3 l1_3.length c1_3) := (zC BK204.out 3).trans rfl; have hcz16_4 : w5.cell? ⟨gb204, 4, none⟩ = some (.slice A1_4 l1_4.length c1_4) := (zC BK204.out 4).trans rfl; have hfz16_0 := zR BK204.out 0; have hfz16_1 := zR BK204.out 1; have hfz16_2 := zR BK204.out 2; have hfz16_3 := zR BK204.out 3; have hfz16_4 := zR BK204.out 4
      go_wp2_with (first | (go_at_call 37; (with_reducible refine (tendrilplain_Attrs.calls k _ _ l0_3 _ _ l1_3 false _ ?side1 ?side2 ?side3 ?side4 A9.out).mono ?_); (case side1 => repeat (first | exact (Kd.C_below HR0_3.out HB.out) | (with_reducible refine Kd.C_alloc ?_ _) | (with_reducible refine Kd.C_drewN ?_ _) | (with_reducible refine Kd.C_drew ?_))); (case side2 => exact HC0_3.out); (case side3 => repeat (first | exact (Kd.C_below HR1_3.out HB.out) | (with_reducible refine Kd.C_alloc ?_ _) | (with_reducible refine Kd.C_drewN ?_ _) | (with_reducible refine Kd.C_drew ?_))); (case side4 => exact HC1_3.out); rintro e w' ⟨rfl, ⟨nd, rfl⟩⟩))
      go_meet
      case rel => exact ⟨_, (true), (by first | rfl | (simp; done) | (simp [*]; done)), H', ⟨by first | omega | exact Nat.le_refl _⟩, ⟨by (with_reducible repeat first | apply zM | apply zE | apply zF); exact BK203.out⟩, ⟨by (with_reducible repeat first | apply zM | apply zE | apply zF); exact BK204.out⟩, ⟨by with_reducible repeat first | exact HB.out | apply zA | apply zN | apply zD | refine zS ?_ GE203.out | refine zS ?_ GE204.out⟩⟩
    ·
     rw [if_neg c8] at H
     have c8b0 : (a0_2.toList == a1_2.toList) = false := beq_eq_false_iff_ne.mpr c8; have c8b1 : (a0_2.toList != a1_2.toList) = true := bne_iff_ne.mpr c8; have H' := Aside0.mk H; clear H; have hnb17 := NB203_204.out; have hnc17 := NB204_203.out; have hcz18_0 : w5.cell? ⟨gb203, 0, none⟩ = some (.string a0_0) := (zC BK203.out 0).trans rfl; have hcz18_1 : w5.cell? ⟨gb203, 1, none⟩ = some (.string a0_1) := (zC BK203.out 1).trans rfl; have hcz18_2 : w5.cell? ⟨gb203, 2, none⟩ = some (.string a0_2) := (zC BK203.out 2).trans rfl; have hcz18_3 : w5.cell? ⟨gb203, 3, none⟩ = some (.slice A0_3 l0_3.length c0_3) := (zC BK203.out 3).trans rfl; have hcz18_4 : w5.cell? ⟨gb203, 4, none⟩ = some (.slice A0_4 l0_4.length c0_4) := (zC BK203.out 4).trans rfl; have hfz18_0 := zR BK203.out 0; have hfz18_1 := zR BK203.out 1; have hfz18_2 := zR BK203.out 2; have hfz18_3 := zR BK203.out 3; have hfz18_4 := zR BK203.out 4; have hcz19_0 : w5.cell? ⟨gb204, 0, none⟩ = some (.string a1_0) := (zC BK204.out 0).trans rfl; have hcz19_1 : w5.cell? ⟨gb204, 1, none⟩ = some (.string a1_1) := (zC BK204.out 1).trans rfl; have hcz19_2 : w5.cell? ⟨gb204, 2, none⟩ = some (.string a1_2) := (zC BK204.out 2).trans rfl; have hcz19_3 : w5.cell? ⟨gb204, 3, none⟩ = some (.slice A1_3 l1_3.length c1_3) := (zC BK204.out 3).trans rfl; have hcz19_4 : w5.cell? ⟨gb204, 4, none⟩ = some (.slice A1_4 l1_4.length c1_4) := (zC BK204.out 4).trans rfl; have hfz19_0 := zR BK204.out 0; have hfz19_1 := zR BK204.out 1; have hfz19_2 := zR BK204.out 2; have hfz19_3 := zR BK204.out 3; have hfz19_4 := zR BK204.out 4
     go_wp2
     go_meet
     case rel => exact ⟨_, (true), (by first | rfl | (simp; done) | (simp [*]; done)), H', ⟨by first | omega | exact Nat.le_refl _⟩, ⟨by (with_reducible repeat first | apply zM | apply zE | apply zF); exact BK203.out⟩, ⟨by (with_reducible repeat first | apply zM | apply zE | apply zF); exact BK204.out⟩, ⟨by with_reducible repeat first | exact HB.out | apply zA | apply zN | apply zD | refine zS ?_ GE203.out | refine zS ?_ GE204.out⟩⟩
   ·
    rw [if_neg c7] at H
    have c7b0 : (a0_1.toList == a1_1.toList) = false := beq_eq_false_iff_ne.mpr c7; have c7b1 : (a0_1.toList != a1_1.toList) = true := bne_iff_ne.mpr c7; have H' := Aside0.mk H; clear H; have hnb20 := NB203_204.out; have hnc20 := NB204_203.out; have hcz21_0 : w5.cell? ⟨gb203, 0, none⟩ = some (.string a0_0) := (zC BK203.out 0).trans rfl; have hcz21_1 : w5.cell? ⟨gb203, 1, none⟩ = some (.string a0_1) := (zC BK203.out 1).trans rfl; have hcz21_2 : w5.cell? ⟨gb203, 2, none⟩ = some (.string a0_2) := (zC BK203.out 2).trans rfl; have hcz21_3 : w5.cell? ⟨gb203, 3, none⟩ = some (.slice A0_3 l0_3.length c0_3) := (zC BK203.out 3).trans rfl; have hcz21_4 : w5.cell? ⟨gb203, 4, none⟩ = some (.slice A0_4 l0_4.length c0_4) := (zC BK203.out 4).trans rfl; have hfz21_0 := zR BK203.out 0; have hfz21_1 := zR BK203.out 1; have hfz21_2 := zR BK203.out 2; have hfz21_3 := zR BK203.out 3; have hfz21_4 := zR BK203.out 4; have hcz22_0 : w5.cell? ⟨gb204, 0, none⟩ = some (.string a1_0) := (zC BK204.out 0).trans rfl; have hcz22_1 : w5.cell? ⟨gb204, 1, none⟩ = some (.string a1_1) := (zC BK204.out 1).trans rfl; have hcz22_2 : w5.cell? ⟨gb204, 2, none⟩ = some (.string a1_2) := (zC BK204.out 2).trans rfl; have hcz22_3 : w5.cell? ⟨gb204, 3, none⟩ = some (.slice A1_3 l1_3.length c1_3) := (zC BK204.out 3).trans rfl; have hcz22_4 : w5.cell? ⟨gb204, 4, none⟩ = some (.slice A1_4 l1_4.length c1_4) := (zC BK204.out 4).trans rfl; have hfz22_0 := zR BK204.out 0; have hfz22_1 := zR BK204.out 1; have hfz22_2 := zR BK204.out 2; have hfz22_3 := zR BK204.out 3; have hfz22_4 := zR BK204.out 4
    go_wp2
    go_meet
    case rel => exact ⟨_, (true), (by first | rfl | (simp; done) | (simp [*]; done)), H', ⟨by first | omega | exact Nat.le_refl _⟩, ⟨by (with_reducible repeat first | apply zM | apply zE | apply zF); exact BK203.out⟩, ⟨by (with_reducible repeat first | apply zM | apply zE | apply zF); exact BK204.out⟩, ⟨by with_reducible repeat first | exact HB.out | apply zA | apply zN | apply zD | refine zS ?_ GE203.out | refine zS ?_ GE204.out⟩⟩
  ·
   rw [if_neg c6] at H
   have c6b0 : (a0_0.toList == a1_0.toList) = false := beq_eq_false_iff_ne.mpr c6; have c6b1 : (a0_0.toList != a1_0.toList) = true := bne_iff_ne.mpr c6
   (first | rw [c6b0] | (simp only [i64_w, i32_w]; rw [c6b0]) | skip)
   have H' := Aside0.mk H; clear H; have hnb23 := NB203_204.out; have hnc23 := NB204_203.out; have hcz24_0 : w5.cell? ⟨gb203, 0, none⟩ = some (.string a0_0) := (zC BK203.out 0).trans rfl; have hcz24_1 : w5.cell? ⟨gb203, 1, none⟩ = some (.string a0_1) := (zC BK203.out 1).trans rfl; have hcz24_2 : w5.cell? ⟨gb203, 2, none⟩ = some (.string a0_2) := (zC BK203.out 2).trans rfl; have hcz24_3 : w5.cell? ⟨gb203, 3, none⟩ = some (.slice A0_3 l0_3.length c0_3) := (zC BK203.out 3).trans rfl; have hcz24_4 : w5.cell? ⟨gb203, 4, none⟩ = some (.slice A0_4 l0_4.length c0_4) := (zC BK203.out 4).trans rfl; have hfz24_0 := zR BK203.out 0; have hfz24_1 := zR BK203.out 1; have hfz24_2 := zR BK203.out 2; have hfz24_3 := zR BK203.out 3; have hfz24_4 := zR BK203.out 4; have hcz25_0 : w5.cell? ⟨gb204, 0, none⟩ = some (.string a1_0) := (zC BK204.out 0).trans rfl; have hcz25_1 : w5.cell? ⟨gb204, 1, none⟩ = some (.string a1_1) := (zC BK204.out 1).trans rfl; have hcz25_2 : w5.cell? ⟨gb204, 2, none⟩ = some (.string a1_2) := (zC BK204.out 2).trans rfl; have hcz25_3 : w5.cell? ⟨gb204, 3, none⟩ = some (.slice A1_3 l1_3.length c1_3) := (zC BK204.out 3).trans rfl; have hcz25_4 : w5.cell? ⟨gb204, 4, none⟩ = some (.slice A1_4 l1_4.length c1_4) := (zC BK204.out 4).trans rfl; have hfz25_0 := zR BK204.out 0; have hfz25_1 := zR BK204.out 1; have hfz25_2 := zR BK204.out 2; have hfz25_3 := zR BK204.out 3; have hfz25_4 := zR BK204.out 4
   go_wp2
   go_meet
   case rel => exact ⟨_, (true), (by first | rfl | (simp; done) | (simp [*]; done)), H', ⟨by first | omega | exact Nat.le_refl _⟩, ⟨by (with_reducible repeat first | apply zM | apply zE | apply zF); exact BK203.out⟩, ⟨by (with_reducible repeat first | apply zM | apply zE | apply zF); exact BK204.out⟩, ⟨by with_reducible repeat first | exact HB.out | apply zA | apply zN | apply zD | refine zS ?_ GE203.out | refine zS ?_ GE204.out⟩⟩
 case rest =>
  clear HC3
  try clear c1
  try clear c2
  try clear p2
  try clear c6
  try clear c6b0
  try clear c6b1
  try clear c7
  try clear c7b0
  try clear c7b1
  try clear c8
  try clear c8b0
  try clear c8b1
  try clear c10
  try clear c11
  try clear c13
  try clear c14
  try clear c17
  try clear c20
  try clear c23
  obtain ⟨kq, x41_2, rfl, HA, HJ2, BK203, BK204, HB⟩ := hcut
  cases kq with
  | zero => exact absurd HA.out (by simp [tendrilplain_Nodes.j0])
  | succ kj2 =>
   have H := HA.out; clear HA
   simp only [tendrilplain_Nodes.j0] at H
   by_cases c26 : x41_2 = true
   ·
    subst c26; have H1 : (some false) = some r := by rw [if_pos rfl] at H; exact H
    clear H; have H := H1; clear H1; obtain rfl := Option.some.inj H
    go_wp2
    go_ret
    exact ⟨by first | rfl | (simp [errW_none, errW_some] <;> rfl) | (simp [*, errW_none, errW_some] <;> rfl), by with_reducible repeat first | exact HB.out | apply zA | apply zN | apply zD | refine zS ?_ GE203.out | refine zS ?_ GE204.out⟩
   ·
    replace c26 := Bool.eq_false_iff.mpr c26; subst c26; have H1 : (tendrilplain_Nodes.l0 kj2 (l0_4.length : Int) 0 a0_0 a0_1 a0_2 l0_3 l0_4 a1_0 a1_1 a1_2 l1_3 l1_4) = some r := by rw [if_neg (show ¬ (false = true) by decide)] at H; exact H
    clear H; have H := H1; clear H1; have H' := Aside0.mk H; clear H; have hnb27 := NB203_204.out; have hnc27 := NB204_203.out; have hcz28_0 : wc.cell? ⟨gb203, 0, none⟩ = some (.string a0_0) := (zC BK203.out 0).trans rfl; have hcz28_1 : wc.cell? ⟨gb203, 1, none⟩ = some (.string a0_1) := (zC BK203.out 1).trans rfl; have hcz28_2 : wc.cell? ⟨gb203, 2, none⟩ = some (.string a0_2) := (zC BK203.out 2).trans rfl; have hcz28_3 : wc.cell? ⟨gb203, 3, none⟩ = some (.slice A0_3 l0_3.length c0_3) := (zC BK203.out 3).trans rfl; have hcz28_4 : wc.cell? ⟨gb203, 4, none⟩ = some (.slice A0_4 l0_4.length c0_4) := (zC BK203.out 4).trans rfl; have hfz28_0 := zR BK203.out 0; have hfz28_1 := zR BK203.out 1; have hfz28_2 := zR BK203.out 2; have hfz28_3 := zR BK203.out 3; have hfz28_4 := zR BK203.out 4
    go_wp2
    go_loopg [45] kj2 (fun kq v45 w' => ∃ (x45_2 : Int), v45 = .int .i64 x45_2 ∧ Aside0 (tendrilplain_Nodes.l0 kq (l0_4.length : Int) x45_2 a0_0 a0_1 a0_2 l0_3 l0_4 a1_0 a1_1 a1_2 l1_3 l1_4 = some r) ∧ Aside0 (kq ≤ kj2) ∧ Aside0 (w'.heap[gb203]? = some (.cells #[.string a0_0, .string a0_1, .string a0_2, (.slice A0_3 l0_3.length c0_3), (.slice A0_4 l0_4.length c0_4)] 25 (0, 0))) ∧ Aside0 (w'.heap[gb204]? = some (.cells #[.string a1_0, .string a1_1, .string a1_2, (.slice A1_3 l1_3.length c1_3), (.slice A1_4 l1_4.length c1_4)] 25 (0, 0))) ∧ Aside0 (Below w.heap.size w w'))
    case atStart => exact ⟨(0), (by first | rfl | (simp; done) | (simp [*]; done)), H', ⟨Nat.le_refl _⟩, ⟨by (with_reducible repeat first | apply zM | apply zE | apply zF); exact BK203.out⟩, ⟨by (with_reducible repeat first | apply zM | apply zE | apply zF); exact BK204.out⟩, ⟨by with_reducible repeat first | exact HB.out | apply zA | apply zN | apply zD | refine zS ?_ GE203.out | refine zS ?_ GE204.out⟩⟩
    case round =>
     clear H'
     try clear c1
     try clear c2
     try clear p2
     try clear c6
     try clear c6b0
     try clear c6b1
     try clear c7
     try clear c7b0
     try clear c7b1
     try clear c8
     try clear c8b0
     try clear c8b1
     try clear c10
     try clear c11
     try clear c13
     try clear c14
     try clear c17
     try clear c20
     try clear c23
     try clear c26
     try clear c27
     try clear p2
     (try clear BK203); (try clear BK204)
     obtain ⟨x45_2, rfl, HA, HK2, BK203, BK204, HB⟩ := hrel; cases gk with
     | zero => exact absurd HA.out (by simp [tendrilplain_Nodes.l0])
     | succ k2 =>
      have H := HA.out; clear HA
      simp only [tendrilplain_Nodes.l0] at H
      by_cases c29 : x45_2 < (l0_4.length : Int)
      ·
       rw [if_pos c29] at H
       have c29b0 : decide (x45_2 < (l0_4.length : Int)) = true := decide_eq_true c29; clear c29
       by_cases c30 : 0 ≤ x45_2
       ·
        rw [if_pos c30] at H
        have c30b0 : decide (0 ≤ x45_2) = true := decide_eq_true c30; clear c30
        by_cases c31 : x45_2 < (l0_4.length : Int)
        ·
         rw [if_pos c31] at H
         have c31b0 : decide (x45_2 < (l0_4.length : Int)) = true := decide_eq_true c31; clear c31
         by_cases c32 : x45_2 < (l1_4.length : Int)
         ·
          rw [if_pos c32] at H
          have c32b0 : decide (x45_2 < (l1_4.length : Int)) = true := decide_eq_true c32; clear c32; replace H := Option.bind_eq_some_iff.mp H; obtain ⟨t208, A330, H⟩ := H; replace H : (if t208 = true then (tendrilplain_Nodes.l0 k2 (l0_4.length : Int) (wrap64 (x45_2 + 1)) a0_0 a0_1 a0_2 l0_3 l0_4 a1_0 a1_1 a1_2 l1_3 l1_4) else (some false)) = some r := H; have A33 := Aside0.mk A330; clear A330
          by_cases c34 : t208 = true
          ·
           subst c34; have H1 : (tendrilplain_Nodes.l0 k2 (l0_4.length : Int) (wrap64 (x45_2 + 1)) a0_0 a0_1 a0_2 l0_3 l0_4 a1_0 a1_1 a1_2 l1_3 l1_4) = some r := by rw [if_pos rfl] at H; exact H
           clear H; have H := H1; clear H1; have H' := Aside0.mk H; clear H
           try go_wp2
           have n0_ := Aside0.mk (zE BK203.out); have n1_ := Aside0.mk (zE BK204.out); have n2_ := Aside0.mk (zD HB.out); clear BK203; clear BK204; clear HB; have BK203 := n0_; have BK204 := n1_; have HB := n2_; clear n0_ n1_ n2_; have p206 : 0 ≤ (x45_2 : Int) := of_decide_eq_true (by assumption); have q206 : x45_2 < (l0_4.length : Int) := of_decide_eq_true (by assumption); obtain ⟨ad206, A206_3, c206_3, A206_4, c206_4, e206, hx206_0, hx206_1, hx206_2, hx206_3, hx206_4, hl206_3, hi206_3, hl206_4, hi206_4⟩ := at_T25 HR0_4.out x45_2 p206 q206; have hw206_4 := hx206_4; have hw206_3 := hx206_3; have hw206_2 := hx206_2; have hw206_1 := hx206_1; have hw206_0 := hx206_0; cases e206; replace hx206_0 := zB HB hx206_0; replace hx206_1 := zB HB hx206_1; replace hx206_2 := zB HB hx206_2; replace hx206_3 := zB HB hx206_3; replace hx206_4 := zB HB hx206_4; have HR206_3 := Aside0.mk hi206_3; have HC206_3 := Aside0.mk hl206_3; clear hi206_3 hl206_3; have HR206_4 := Aside0.mk hi206_4; have HC206_4 := Aside0.mk hl206_4; clear hi206_4 hl206_4; replace p206 := eq_true p206; replace q206 := eq_true q206; have p207 : 0 ≤ (x45_2 : Int) := of_decide_eq_true (by assumption); have q207 : x45_2 < (l1_4.length : Int) := of_decide_eq_true (by assumption); obtain ⟨ad207, A207_3, c207_3, A207_4, c207_4, e207, hx207_0, hx207_1, hx207_2, hx207_3, hx207_4, hl207_3, hi207_3, hl207_4, hi207_4⟩ := at_T25 HR1_4.out x45_2 p207 q207; have hw207_4 := hx207_4; have hw207_3 := hx207_3; have hw207_2 := hx207_2; have hw207_1 := hx207_1; have hw207_0 := hx207_0; cases e207; replace hx207_0 := zB HB hx207_0; replace hx207_1 := zB HB hx207_1; replace hx207_2 := zB HB hx207_2; replace hx207_3 := zB HB hx207_3; replace hx207_4 := zB HB hx207_4; have HR207_3 := Aside0.mk hi207_3; have HC207_3 := Aside0.mk hl207_3; clear hi207_3 hl207_3; have HR207_4 := Aside0.mk hi207_4; have HC207_4 := Aside0.mk hl207_4; clear hi207_4 hl207_4; replace p207 := eq_true p207; replace q207 := eq_true q207
           refine start_ (n := 12) (S := fun w' => w'.cell? ⟨gb203, 0, none⟩ = some (.string a0_0) ∧ w'.cell? ⟨gb203, 1, none⟩ = some (.string a0_1) ∧ w'.cell? ⟨gb203, 2, none⟩ = some (.string a0_2) ∧ w'.cell? ⟨gb203, 3, none⟩ = some (.slice A0_3 l0_3.length c0_3) ∧ w'.cell? ⟨gb203, 4, none⟩ = some (.slice (some ad206) l0_4.length c0_4) ∧ w'.cell? ⟨gb204, 0, none⟩ = some (.string a1_0) ∧ w'.cell? ⟨gb204, 1, none⟩ = some (.string a1_1) ∧ w'.cell? ⟨gb204, 2, none⟩ = some (.string a1_2) ∧ w'.cell? ⟨gb204, 3, none⟩ = some (.slice A1_3 l1_3.length c1_3) ∧ w'.cell? ⟨gb204, 4, none⟩ = some (.slice (some ad207) l1_4.length c1_4) ∧ w'.cell? (ad206.add ((x45_2).toNat * 5)) = some (.string ((rd_T25 l0_4 x45_2).f0)) ∧ w'.cell? ⟨(ad206.add ((x45_2).toNat * 5)).block, (ad206.add ((x45_2).toNat * 5)).off + 1, none⟩ = some (.string ((rd_T25 l0_4 x45_2).f1)) ∧ w'.cell? ⟨(ad206.add ((x45_2).toNat * 5)).block, (ad206.add ((x45_2).toNat * 5)).off + 2, none⟩ = some (.string ((rd_T25 l0_4 x45_2).f2)) ∧ w'.cell? ⟨(ad206.add ((x45_2).toNat * 5)).block, (ad206.add ((x45_2).toNat * 5)).off + 3, none⟩ = some (.slice A206_3 ((rd_T25 l0_4 x45_2).f3).length c206_3) ∧ w'.cell? ⟨(ad206.add ((x45_2).toNat * 5)).block, (ad206.add ((x45_2).toNat * 5)).off + 4, none⟩ = some (.slice A206_4 ((rd_T25 l0_4 x45_2).f4).length c206_4) ∧ w'.cell? (ad207.add ((x45_2).toNat * 5)) = some (.string ((rd_T25 l1_4 x45_2).f0)) ∧ w'.cell? ⟨(ad207.add ((x45_2).toNat * 5)).block, (ad207.add ((x45_2).toNat * 5)).off + 1, none⟩ = some (.string ((rd_T25 l1_4 x45_2).f1)) ∧ w'.cell? ⟨(ad207.add ((x45_2).toNat * 5)).block, (ad207.add ((x45_2).toNat * 5)).off + 2, none⟩ = some (.string ((rd_T25 l1_4 x45_2).f2)) ∧ w'.cell? ⟨(ad207.add ((x45_2).toNat * 5)).block, (ad207.add ((x45_2).toNat * 5)).off + 3, none⟩ = some (.slice A207_3 ((rd_T25 l1_4 x45_2).f3).length c207_3) ∧ w'.cell? ⟨(ad207.add ((x45_2).toNat * 5)).block, (ad207.add ((x45_2).toNat * 5)).off + 4, none⟩ = some (.slice A207_4 ((rd_T25 l1_4 x45_2).f4).length c207_4)) (ds := []) #[false, false, false, false, false, false, false, false, false, false, false, false] (by kernel_rfl) rfl rfl ⟨(zC BK203.out 0).trans rfl, (zC BK203.out 1).trans rfl, (zC BK203.out 2).trans rfl, (zC BK203.out 3).trans rfl, (zC BK203.out 4).trans rfl, (zC BK204.out 0).trans rfl, (zC BK204.out 1).trans rfl, (zC BK204.out 2).trans rfl, (zC BK204.out 3).trans rfl, (zC BK204.out 4).trans rfl, (zB HB hw206_0), (zB HB hw206_1), (zB HB hw206_2), (zB HB hw206_3), (zB HB hw206_4), (zB HB hw207_0), (zB HB hw207_1), (zB HB hw207_2), (zB HB hw207_3), (zB HB hw207_4)⟩ (fun hHeld => ?_); refine with_tabW tendrilplain_Nodes.tab6 tendrilplain_Nodes.bits6 (fun HT_ HW_ => ?_)
           generalize wr.drew = w35 at BK203 BK204 HB HR206_3 HR206_4 HR207_3 HR207_4 hx206_0 hx206_1 hx206_2 hx206_3 hx206_4 hx207_0 hx207_1 hx207_2 hx207_3 hx207_4 hHeld ⊢
           refine pure_ (i := 0) (N := some 48) (v := ?_) (a' := ?_) #[true, false, false, false, false, false, false, false, false, false, false, false] rfl rfl (any_of HT_.out (by kernel_rfl)) (fun _ _ _ h => h) (Or.inl ⟨by rfl, ?_⟩) ?_ ?_
           rotate_left
           ·
            intro w'
            go_simp
            with_reducible rfl
           rotate_left
           ·
            simp only [Act.put, List.setIfInBounds_toArray, List.set_cons_zero, List.set_cons_succ, i64_w, i32_w]
            rfl
           refine pure_ (i := 2) (N := some 50) (v := ?_) (a' := ?_) #[true, false, true, false, false, false, false, false, false, false, false, false] rfl rfl (any_of HT_.out (by kernel_rfl)) (fun _ _ _ h => h) (Or.inl ⟨by rfl, ?_⟩) ?_ ?_
           rotate_left
           ·
            intro w'
            go_simp
            with_reducible rfl
           rotate_left
           ·
            simp only [Act.put, List.setIfInBounds_toArray, List.set_cons_zero, List.set_cons_succ, i64_w, i32_w]
            rfl
           refine pure_ (i := 5) (N := some 53) (v := ?_) (a' := ?_) #[true, false, true, false, false, true, false, false, false, false, false, false] rfl rfl (any_of HT_.out (by kernel_rfl)) (fun _ _ _ h => h) (Or.inl ⟨by rfl, ?_⟩) ?_ ?_
           rotate_left
           ·
            intro w'
            go_simp
            with_reducible rfl
           rotate_left
           ·
            simp only [Act.put, List.setIfInBounds_toArray, List.set_cons_zero, List.set_cons_succ, i64_w, i32_w]
            rfl
           refine pure_ (i := 7) (N := some 55) (v := ?_) (a' := ?_) #[true, false, true, false, false, true, false, true, false, false, false, false] rfl rfl (any_of HT_.out (by kernel_rfl)) (fun _ _ _ h => h) (Or.inl ⟨by rfl, ?_⟩) ?_ ?_
           rotate_left
           ·
            intro w'
            go_simp
            with_reducible rfl
           rotate_left
           ·
            simp only [Act.put, List.setIfInBounds_toArray, List.set_cons_zero, List.set_cons_succ, i64_w, i32_w]
            rfl
           refine take_ (i := 1) (N := some 49) (v := ?_) (a' := ?_) #[true, true, true, false, false, true, false, true, false, false, false, false] rfl rfl (take_ofW HT_.out HW_.out (by kernel_rfl)) (fun _ _ _ h => h) (Or.inl ⟨by rfl, ?_⟩) hHeld ?_ ?_
           rotate_left
           ·
            rintro w' ⟨s0, s1, s2, s3, s4, s5, s6, s7, s8, s9, s10, s11, s12, s13, s14, s15, s16, s17, s18, s19⟩
            go_simp
            with_reducible rfl
           rotate_left
           ·
            simp only [Act.put, List.setIfInBounds_toArray, List.set_cons_zero, List.set_cons_succ, i64_w, i32_w]
            rfl
           refine pure_ (i := 3) (N := some 51) (v := ?_) (a' := ?_) #[true, true, true, true, false, true, false, true, false, false, false, false] rfl rfl (any_of HT_.out (by kernel_rfl)) (fun _ _ _ h => h) (Or.inl ⟨by rfl, ?_⟩) ?_ ?_
           rotate_left
           ·
            intro w'
            go_simp
            with_reducible rfl
           rotate_left
           ·
            simp only [Act.put, List.setIfInBounds_toArray, List.set_cons_zero, List.set_cons_succ, i64_w, i32_w]
            rfl
           refine take_ (i := 4) (N := some 52) (v := ?_) (a' := ?_) #[true, true, true, true, true, true, false, true, false, false, false, false] rfl rfl (take_ofW HT_.out HW_.out (by kernel_rfl)) (fun _ _ _ h => h) (Or.inl ⟨by rfl, ?_⟩) hHeld ?_ ?_
           rotate_left
           ·
            rintro w' ⟨s0, s1, s2, s3, s4, s5, s6, s7, s8, s9, s10, s11, s12, s13, s14, s15, s16, s17, s18, s19⟩
            go_simp
            with_reducible rfl
           rotate_left
           ·
            simp only [Act.put, List.setIfInBounds_toArray, List.set_cons_zero, List.set_cons_succ, i64_w, i32_w]
            rfl
           refine take_ (i := 6) (N := some 54) (v := ?_) (a' := ?_) #[true, true, true, true, true, true, true, true, false, false, false, false] rfl rfl (take_ofW HT_.out HW_.out (by kernel_rfl)) (fun _ _ _ h => h) (Or.inl ⟨by rfl, ?_⟩) hHeld ?_ ?_
           rotate_left
           ·
            rintro w' ⟨s0, s1, s2, s3, s4, s5, s6, s7, s8, s9, s10, s11, s12, s13, s14, s15, s16, s17, s18, s19⟩
            go_simp
            with_reducible rfl
           rotate_left
           ·
            simp only [Act.put, List.setIfInBounds_toArray, List.set_cons_zero, List.set_cons_succ, i64_w, i32_w]
            rfl
           refine pure_ (i := 8) (N := some 56) (v := ?_) (a' := ?_) #[true, true, true, true, true, true, true, true, true, false, false, false] rfl rfl (any_of HT_.out (by kernel_rfl)) (fun _ _ _ h => h) (Or.inl ⟨by rfl, ?_⟩) ?_ ?_
           rotate_left
           ·
            intro w'
            go_simp
            with_reducible rfl
           rotate_left
           ·
            simp only [Act.put, List.setIfInBounds_toArray, List.set_cons_zero, List.set_cons_succ, i64_w, i32_w]
            rfl
           refine take_ (i := 9) (N := some 57) (v := ?_) (a' := ?_) #[true, true, true, true, true, true, true, true, true, true, false, false] rfl rfl (take_ofW HT_.out HW_.out (by kernel_rfl)) (fun _ _ _ h => h) (Or.inl ⟨by rfl, ?_⟩) hHeld ?_ ?_
           rotate_left
           ·
            rintro w' ⟨s0, s1, s2, s3, s4, s5, s6, s7, s8, s9, s10, s11, s12, s13, s14, s15, s16, s17, s18, s19⟩
            go_simp
            with_reducible rfl
           rotate_left
           ·
            simp only [Act.put, List.setIfInBounds_toArray, List.set_cons_zero, List.set_cons_succ, i64_w, i32_w]
            rfl
           refine one_ (i := 10) (N := some 58) #[true, true, true, true, true, true, true, true, true, true, true, false] rfl rfl (one_of HT_.out (by kernel_rfl)) (by decide) (fun K hK => ?_)
           refine goes_ Try.func13 (by kernel_rfl) rfl #[.agg #[.string ((rd_T25 l0_4 x45_2).f0), .string ((rd_T25 l0_4 x45_2).f1), .string ((rd_T25 l0_4 x45_2).f2), .slice A206_3 ((rd_T25 l0_4 x45_2).f3).length c206_3, .slice A206_4 ((rd_T25 l0_4 x45_2).f4).length c206_4], .agg #[.string ((rd_T25 l1_4 x45_2).f0), .string ((rd_T25 l1_4 x45_2).f1), .string ((rd_T25 l1_4 x45_2).f2), .slice A207_3 ((rd_T25 l1_4 x45_2).f3).length c207_3, .slice A207_4 ((rd_T25 l1_4 x45_2).f4).length c207_4]] (by rfl) rfl rfl (by (try simp only [List.map_toArray, List.map_cons, List.map_nil]); first | done | rfl | (simp only [List.length_drop, List.length_take]; rfl)) ?_
           with_reducible refine (ih k2 (by have := HJ2.out; have := HK2.out; omega) ((rd_T25 l0_4 x45_2).f0) ((rd_T25 l0_4 x45_2).f1) ((rd_T25 l0_4 x45_2).f2) _ _ ((rd_T25 l0_4 x45_2).f3) _ _ ((rd_T25 l0_4 x45_2).f4) ((rd_T25 l1_4 x45_2).f0) ((rd_T25 l1_4 x45_2).f1) ((rd_T25 l1_4 x45_2).f2) _ _ ((rd_T25 l1_4 x45_2).f3) _ _ ((rd_T25 l1_4 x45_2).f4) true _ ?side1 ?side2 ?side3 ?side4 ?side5 ?side6 ?side7 ?side8 A33.out).mono ?_
           (case side1 => repeat (first | exact (Kd.C_below HR206_3.out HB.out) | (with_reducible refine Kd.C_alloc ?_ _) | (with_reducible refine Kd.C_drewN ?_ _) | (with_reducible refine Kd.C_drew ?_)))
           (case side2 => exact HC206_3.out)
           (case side3 => repeat (first | exact (Kd.C_below HR206_4.out HB.out) | (with_reducible refine Kd.C_alloc ?_ _) | (with_reducible refine Kd.C_drewN ?_ _) | (with_reducible refine Kd.C_drew ?_)))
           (case side4 => exact HC206_4.out)
           (case side5 => repeat (first | exact (Kd.C_below HR207_3.out HB.out) | (with_reducible refine Kd.C_alloc ?_ _) | (with_reducible refine Kd.C_drewN ?_ _) | (with_reducible refine Kd.C_drew ?_)))
           (case side6 => exact HC207_3.out)
           (case side7 => repeat (first | exact (Kd.C_below HR207_4.out HB.out) | (with_reducible refine Kd.C_alloc ?_ _) | (with_reducible refine Kd.C_drewN ?_ _) | (with_reducible refine Kd.C_drew ?_)))
           (case side8 => exact HC207_4.out)
           rintro e w36 ⟨rfl, hb⟩
           refine ⟨_, rfl, ?_⟩
           have n0_ := Aside0.mk (blk_below (g := gb203) (o := .cells #[.string a0_0, .string a0_1, .string a0_2, .slice A0_3 l0_3.length c0_3, .slice (some ad206) l0_4.length c0_4] 25 (0, 0)) (by (with_reducible repeat first | apply zM | apply zE | apply zF); exact BK203.out) hb); have n1_ := Aside0.mk (blk_below (g := gb204) (o := .cells #[.string a1_0, .string a1_1, .string a1_2, .slice A1_3 l1_3.length c1_3, .slice (some ad207) l1_4.length c1_4] 25 (0, 0)) (by (with_reducible repeat first | apply zM | apply zE | apply zF); exact BK204.out) hb); have n2_ := Aside0.mk (below_step (by with_reducible repeat first | exact HB.out | apply zA | apply zN | apply zD | refine zS ?_ GE203.out | refine zS ?_ GE204.out) hb); clear BK203; clear BK204; clear HB; have BK203 := n0_; have BK204 := n1_; have HB := n2_; clear n0_ n1_ n2_
           (try clear hb)
           (try clear hb2)
           (try clear hk)
           (try clear hi)
           refine hK.out _ _ ⟨(zC BK203.out 0).trans rfl, (zC BK203.out 1).trans rfl, (zC BK203.out 2).trans rfl, (zC BK203.out 3).trans rfl, (zC BK203.out 4).trans rfl, (zC BK204.out 0).trans rfl, (zC BK204.out 1).trans rfl, (zC BK204.out 2).trans rfl, (zC BK204.out 3).trans rfl, (zC BK204.out 4).trans rfl, (zB HB hw206_0), (zB HB hw206_1), (zB HB hw206_2), (zB HB hw206_3), (zB HB hw206_4), (zB HB hw207_0), (zB HB hw207_1), (zB HB hw207_2), (zB HB hw207_3), (zB HB hw207_4)⟩ (fun hHeld => ?_)
           clear hK K; refine norm_ (a' := ?_) ?_ ?_
           rotate_left
           ·
            show Act.put _ (some 58) _ = _
            simp only [Act.put, List.setIfInBounds_toArray, List.set_cons_zero, List.set_cons_succ, i64_w, i32_w]
            rfl
           refine pure_ (i := 11) (N := some 59) (v := ?_) (a' := ?_) #[true, true, true, true, true, true, true, true, true, true, true, true] rfl rfl (any_of HT_.out (by kernel_rfl)) (fun _ _ _ h => h) (Or.inl ⟨by rfl, ?_⟩) ?_ ?_
           rotate_left
           ·
            intro w'
            go_simp
            with_reducible rfl
           rotate_left
           ·
            simp only [Act.put, List.setIfInBounds_toArray, List.set_cons_zero, List.set_cons_succ, i64_w, i32_w]
            rfl
           refine done_ (done_of HT_.out (by kernel_rfl)) ?_
           try go_wp2
           go_roundg k2
           case measure => have := HJ2.out; have := HK2.out; omega
           case rel => exact ⟨(wrap64 (x45_2 + 1)), (by first | rfl | (simp; done) | (simp [*]; done)), H', ⟨by have := HJ2.out; have := HK2.out; omega⟩, ⟨by (with_reducible repeat first | apply zM | apply zE | apply zF); exact BK203.out⟩, ⟨by (with_reducible repeat first | apply zM | apply zE | apply zF); exact BK204.out⟩, ⟨by with_reducible repeat first | exact HB.out | apply zA | apply zN | apply zD | refine zS ?_ GE203.out | refine zS ?_ GE204.out⟩⟩
          ·
           replace c34 := Bool.eq_false_iff.mpr c34; subst c34; have H1 : (some false) = some r := by rw [if_neg (show ¬ (false = true) by decide)] at H; exact H
           clear H; have H := H1; clear H1; obtain rfl := Option.some.inj H
           try go_wp2
           have n0_ := Aside0.mk (zE BK203.out); have n1_ := Aside0.mk (zE BK204.out); have n2_ := Aside0.mk (zD HB.out); clear BK203; clear BK204; clear HB; have BK203 := n0_; have BK204 := n1_; have HB := n2_; clear n0_ n1_ n2_; have p206 : 0 ≤ (x45_2 : Int) := of_decide_eq_true (by assumption); have q206 : x45_2 < (l0_4.length : Int) := of_decide_eq_true (by assumption); obtain ⟨ad206, A206_3, c206_3, A206_4, c206_4, e206, hx206_0, hx206_1, hx206_2, hx206_3, hx206_4, hl206_3, hi206_3, hl206_4, hi206_4⟩ := at_T25 HR0_4.out x45_2 p206 q206; have hw206_4 := hx206_4; have hw206_3 := hx206_3; have hw206_2 := hx206_2; have hw206_1 := hx206_1; have hw206_0 := hx206_0; cases e206; replace hx206_0 := zB HB hx206_0; replace hx206_1 := zB HB hx206_1; replace hx206_2 := zB HB hx206_2; replace hx206_3 := zB HB hx206_3; replace hx206_4 := zB HB hx206_4; have HR206_3 := Aside0.mk hi206_3; have HC206_3 := Aside0.mk hl206_3; clear hi206_3 hl206_3; have HR206_4 := Aside0.mk hi206_4; have HC206_4 := Aside0.mk hl206_4; clear hi206_4 hl206_4; replace p206 := eq_true p206; replace q206 := eq_true q206; have p207 : 0 ≤ (x45_2 : Int) := of_decide_eq_true (by assumption); have q207 : x45_2 < (l1_4.length : Int) := of_decide_eq_true (by assumption); obtain ⟨ad207, A207_3, c207_3, A207_4, c207_4, e207, hx207_0, hx207_1, hx207_2, hx207_3, hx207_4, hl207_3, hi207_3, hl207_4, hi207_4⟩ := at_T25 HR1_4.out x45_2 p207 q207; have hw207_4 := hx207_4; have hw207_3 := hx207_3; have hw207_2 := hx207_2; have hw207_1 := hx207_1; have hw207_0 := hx207_0; cases e207; replace hx207_0 := zB HB hx207_0; replace hx207_1 := zB HB hx207_1; replace hx207_2 := zB HB hx207_2; replace hx207_3 := zB HB hx207_3; replace hx207_4 := zB HB hx207_4; have HR207_3 := Aside0.mk hi207_3; have HC207_3 := Aside0.mk hl207_3; clear hi207_3 hl207_3; have HR207_4 := Aside0.mk hi207_4; have HC207_4 := Aside0.mk hl207_4; clear hi207_4 hl207_4; replace p207 := eq_true p207; replace q207 := eq_true q207
           refine start_ (n := 12) (S := fun w' => w'.cell? ⟨gb203, 0, none⟩ = some (.string a0_0) ∧ w'.cell? ⟨gb203, 1, none⟩ = some (.string a0_1) ∧ w'.cell? ⟨gb203, 2, none⟩ = some (.string a0_2) ∧ w'.cell? ⟨gb203, 3, none⟩ = some (.slice A0_3 l0_3.length c0_3) ∧ w'.cell? ⟨gb203, 4, none⟩ = some (.slice (some ad206) l0_4.length c0_4) ∧ w'.cell? ⟨gb204, 0, none⟩ = some (.string a1_0) ∧ w'.cell? ⟨gb204, 1, none⟩ = some (.string a1_1) ∧ w'.cell? ⟨gb204, 2, none⟩ = some (.string a1_2) ∧ w'.cell? ⟨gb204, 3, none⟩ = some (.slice A1_3 l1_3.length c1_3) ∧ w'.cell? ⟨gb204, 4, none⟩ = some (.slice (some ad207) l1_4.length c1_4) ∧ w'.cell? (ad206.add ((x45_2).toNat * 5)) = some (.string ((rd_T25 l0_4 x45_2).f0)) ∧ w'.cell? ⟨(ad206.add ((x45_2).toNat * 5)).block, (ad206.add ((x45_2).toNat * 5)).off + 1, none⟩ = some (.string ((rd_T25 l0_4 x45_2).f1)) ∧ w'.cell? ⟨(ad206.add ((x45_2).toNat * 5)).block, (ad206.add ((x45_2).toNat * 5)).off + 2, none⟩ = some (.string ((rd_T25 l0_4 x45_2).f2)) ∧ w'.cell? ⟨(ad206.add ((x45_2).toNat * 5)).block, (ad206.add ((x45_2).toNat * 5)).off + 3, none⟩ = some (.slice A206_3 ((rd_T25 l0_4 x45_2).f3).length c206_3) ∧ w'.cell? ⟨(ad206.add ((x45_2).toNat * 5)).block, (ad206.add ((x45_2).toNat * 5)).off + 4, none⟩ = some (.slice A206_4 ((rd_T25 l0_4 x45_2).f4).length c206_4) ∧ w'.cell? (ad207.add ((x45_2).toNat * 5)) = some (.string ((rd_T25 l1_4 x45_2).f0)) ∧ w'.cell? ⟨(ad207.add ((x45_2).toNat * 5)).block, (ad207.add ((x45_2).toNat * 5)).off + 1, none⟩ = some (.string ((rd_T25 l1_4 x45_2).f1)) ∧ w'.cell? ⟨(ad207.add ((x45_2).toNat * 5)).block, (ad207.add ((x45_2).toNat * 5)).off + 2, none⟩ = some (.string ((rd_T25 l1_4 x45_2).f2)) ∧ w'.cell? ⟨(ad207.add ((x45_2).toNat * 5)).block, (ad207.add ((x45_2).toNat * 5)).off + 3, none⟩ = some (.slice A207_3 ((rd_T25 l1_4 x45_2).f3).length c207_3) ∧ w'.cell? ⟨(ad207.add ((x45_2).toNat * 5)).block, (ad207.add ((x45_2).toNat * 5)).off + 4, none⟩ = some (.slice A207_4 ((rd_T25 l1_4 x45_2).f4).length c207_4)) (ds := []) #[false, false, false, false, false, false, false, false, false, false, false, false] (by kernel_rfl) rfl rfl ⟨(zC BK203.out 0).trans rfl, (zC BK203.out 1).trans rfl, (zC BK203.out 2).trans rfl, (zC BK203.out 3).trans rfl, (zC BK203.out 4).trans rfl, (zC BK204.out 0).trans rfl, (zC BK204.out 1).trans rfl, (zC BK204.out 2).trans rfl, (zC BK204.out 3).trans rfl, (zC BK204.out 4).trans rfl, (zB HB hw206_0), (zB HB hw206_1), (zB HB hw206_2), (zB HB hw206_3), (zB HB hw206_4), (zB HB hw207_0), (zB HB hw207_1), (zB HB hw207_2), (zB HB hw207_3), (zB HB hw207_4)⟩ (fun hHeld => ?_); refine with_tabW tendrilplain_Nodes.tab6 tendrilplain_Nodes.bits6 (fun HT_ HW_ => ?_)
           generalize wr.drew = w37 at BK203 BK204 HB HR206_3 HR206_4 HR207_3 HR207_4 hx206_0 hx206_1 hx206_2 hx206_3 hx206_4 hx207_0 hx207_1 hx207_2 hx207_3 hx207_4 hHeld ⊢
           refine pure_ (i := 0) (N := some 48) (v := ?_) (a' := ?_) #[true, false, false, false, false, false, false, false, false, false, false, false] rfl rfl (any_of HT_.out (by kernel_rfl)) (fun _ _ _ h => h) (Or.inl ⟨by rfl, ?_⟩) ?_ ?_
           rotate_left
           ·
            intro w'
            go_simp
            with_reducible rfl
           rotate_left
           ·
            simp only [Act.put, List.setIfInBounds_toArray, List.set_cons_zero, List.set_cons_succ, i64_w, i32_w]
            rfl
           refine pure_ (i := 2) (N := some 50) (v := ?_) (a' := ?_) #[true, false, true, false, false, false, false, false, false, false, false, false] rfl rfl (any_of HT_.out (by kernel_rfl)) (fun _ _ _ h => h) (Or.inl ⟨by rfl, ?_⟩) ?_ ?_
           rotate_left
           ·
            intro w'
            go_simp
            with_reducible rfl
           rotate_left
           ·
            simp only [Act.put, List.setIfInBounds_toArray, List.set_cons_zero, List.set_cons_succ, i64_w, i32_w]
            rfl
           refine pure_ (i := 5) (N := some 53) (v := ?_) (a' := ?_) #[true, false, true, false, false, true, false, false, false, false, false, false] rfl rfl (any_of HT_.out (by kernel_rfl)) (fun _ _ _ h => h) (Or.inl ⟨by rfl, ?_⟩) ?_ ?_
           rotate_left
           ·
            intro w'
            go_simp
            with_reducible rfl
           rotate_left
           ·
            simp only [Act.put, List.setIfInBounds_toArray, List.set_cons_zero, List.set_cons_succ, i64_w, i32_w]
            rfl
           refine pure_ (i := 7) (N := some 55) (v := ?_) (a' := ?_) #[true, false, true, false, false, true, false, true, false, false, false, false] rfl rfl (any_of HT_.out (by kernel_rfl)) (fun _ _ _ h => h) (Or.inl ⟨by rfl, ?_⟩) ?_ ?_
           rotate_left
           ·
            intro w'
            go_simp
            with_reducible rfl
           rotate_left
           ·
            simp only [Act.put, List.setIfInBounds_toArray, List.set_cons_zero, List.set_cons_succ, i64_w, i32_w]
            rfl
           refine take_ (i := 1) (N := some 49) (v := ?_) (a' := ?_) #[true, true, true, false, false, true, false, true, false, false, false, false] rfl rfl (take_ofW HT_.out HW_.out (by kernel_rfl)) (fun _ _ _ h => h) (Or.inl ⟨by rfl, ?_⟩) hHeld ?_ ?_
           rotate_left
           ·
            rintro w' ⟨s0, s1, s2, s3, s4, s5, s6, s7, s8, s9, s10, s11, s12, s13, s14, s15, s16, s17, s18, s19⟩
            go_simp
            with_reducible rfl
           rotate_left
           ·
            simp only [Act.put, List.setIfInBounds_toArray, List.set_cons_zero, List.set_cons_succ, i64_w, i32_w]
            rfl
           refine pure_ (i := 3) (N := some 51) (v := ?_) (a' := ?_) #[true, true, true, true, false, true, false, true, false, false, false, false] rfl rfl (any_of HT_.out (by kernel_rfl)) (fun _ _ _ h => h) (Or.inl ⟨by rfl, ?_⟩) ?_ ?_
           rotate_left
           ·
            intro w'
            go_simp
            with_reducible rfl
           rotate_left
           ·
            simp only [Act.put, List.setIfInBounds_toArray, List.set_cons_zero, List.set_cons_succ, i64_w, i32_w]
            rfl
           refine take_ (i := 4) (N := some 52) (v := ?_) (a' := ?_) #[true, true, true, true, true, true, false, true, false, false, false, false] rfl rfl (take_ofW HT_.out HW_.out (by kernel_rfl)) (fun _ _ _ h => h) (Or.inl ⟨by rfl, ?_⟩) hHeld ?_ ?_
           rotate_left
           ·
            rintro w' ⟨s0, s1, s2, s3, s4, s5, s6, s7, s8, s9, s10, s11, s12, s13, s14, s15, s16, s17, s18, s19⟩
            go_simp
            with_reducible rfl
           rotate_left
           ·
            simp only [Act.put, List.setIfInBounds_toArray, List.set_cons_zero, List.set_cons_succ, i64_w, i32_w]
            rfl
           refine take_ (i := 6) (N := some 54) (v := ?_) (a' := ?_) #[true, true, true, true, true, true, true, true, false, false, false, false] rfl rfl (take_ofW HT_.out HW_.out (by kernel_rfl)) (fun _ _ _ h => h) (Or.inl ⟨by rfl, ?_⟩) hHeld ?_ ?_
           rotate_left
           ·
            rintro w' ⟨s0, s1, s2, s3, s4, s5, s6, s7, s8, s9, s10, s11, s12, s13, s14, s15, s16, s17, s18, s19⟩
            go_simp
            with_reducible rfl
           rotate_left
           ·
            simp only [Act.put, List.setIfInBounds_toArray, List.set_cons_zero, List.set_cons_succ, i64_w, i32_w]
            rfl
           refine pure_ (i := 8) (N := some 56) (v := ?_) (a' := ?_) #[true, true, true, true, true, true, true, true, true, false, false, false] rfl rfl (any_of HT_.out (by kernel_rfl)) (fun _ _ _ h => h) (Or.inl ⟨by rfl, ?_⟩) ?_ ?_
           rotate_left
           ·
            intro w'
            go_simp
            with_reducible rfl
           rotate_left
           ·
            simp only [Act.put, List.setIfInBounds_toArray, List.set_cons_zero, List.set_cons_succ, i64_w, i32_w]
            rfl
           refine take_ (i := 9) (N := some 57) (v := ?_) (a' := ?_) #[true, true, true, true, true, true, true, true, true, true, false, false] rfl rfl (take_ofW HT_.out HW_.out (by kernel_rfl)) (fun _ _ _ h => h) (Or.inl ⟨by rfl, ?_⟩) hHeld ?_ ?_
           rotate_left
           ·
            rintro w' ⟨s0, s1, s2, s3, s4, s5, s6, s7, s8, s9, s10, s11, s12, s13, s14, s15, s16, s17, s18, s19⟩
            go_simp
            with_reducible rfl
           rotate_left
           ·
            simp only [Act.put, List.setIfInBounds_toArray, List.set_cons_zero, List.set_cons_succ, i64_w, i32_w]
            rfl
           refine one_ (i := 10) (N := some 58) #[true, true, true, true, true, true, true, true, true, true, true, false] rfl rfl (one_of HT_.out (by kernel_rfl)) (by decide) (fun K hK => ?_)
           refine goes_ Try.func13 (by kernel_rfl) rfl #[.agg #[.string ((rd_T25 l0_4 x45_2).f0), .string ((rd_T25 l0_4 x45_2).f1), .string ((rd_T25 l0_4 x45_2).f2), .slice A206_3 ((rd_T25 l0_4 x45_2).f3).length c206_3, .slice A206_4 ((rd_T25 l0_4 x45_2).f4).length c206_4], .agg #[.string ((rd_T25 l1_4 x45_2).f0), .string ((rd_T25 l1_4 x45_2).f1), .string ((rd_T25 l1_4 x45_2).f2), .slice A207_3 ((rd_T25 l1_4 x45_2).f3).length c207_3, .slice A207_4 ((rd_T25 l1_4 x45_2).f4).length c207_4]] (by rfl) rfl rfl (by (try simp only [List.map_toArray, List.map_cons, List.map_nil]); first | done | rfl | (simp only [List.length_drop, List.length_take]; rfl)) ?_
           with_reducible refine (ih k2 (by have := HJ2.out; have := HK2.out; omega) ((rd_T25 l0_4 x45_2).f0) ((rd_T25 l0_4 x45_2).f1) ((rd_T25 l0_4 x45_2).f2) _ _ ((rd_T25 l0_4 x45_2).f3) _ _ ((rd_T25 l0_4 x45_2).f4) ((rd_T25 l1_4 x45_2).f0) ((rd_T25 l1_4 x45_2).f1) ((rd_T25 l1_4 x45_2).f2) _ _ ((rd_T25 l1_4 x45_2).f3) _ _ ((rd_T25 l1_4 x45_2).f4) false _ ?side1 ?side2 ?side3 ?side4 ?side5 ?side6 ?side7 ?side8 A33.out).mono ?_
           (case side1 => repeat (first | exact (Kd.C_below HR206_3.out HB.out) | (with_reducible refine Kd.C_alloc ?_ _) | (with_reducible refine Kd.C_drewN ?_ _) | (with_reducible refine Kd.C_drew ?_)))
           (case side2 => exact HC206_3.out)
           (case side3 => repeat (first | exact (Kd.C_below HR206_4.out HB.out) | (with_reducible refine Kd.C_alloc ?_ _) | (with_reducible refine Kd.C_drewN ?_ _) | (with_reducible refine Kd.C_drew ?_)))
           (case side4 => exact HC206_4.out)
           (case side5 => repeat (first | exact (Kd.C_below HR207_3.out HB.out) | (with_reducible refine Kd.C_alloc ?_ _) | (with_reducible refine Kd.C_drewN ?_ _) | (with_reducible refine Kd.C_drew ?_)))
           (case side6 => exact HC207_3.out)
           (case side7 => repeat (first | exact (Kd.C_below HR207_4.out HB.out) | (with_reducible refine Kd.C_alloc ?_ _) | (with_reducible refine Kd.C_drewN ?_ _) | (with_reducible refine Kd.C_drew ?_)))
           (case side8 => exact HC207_4.out)
           rintro e w38 ⟨rfl, hb⟩
           refine ⟨_, rfl, ?_⟩
           have n0_ := Aside0.mk (blk_below (g := gb203) (o := .cells #[.string a0_0, .string a0_1, .string a0_2, .slice A0_3 l0_3.length c0_3, .slice (some ad206) l0_4.length c0_4] 25 (0, 0)) (by (with_reducible repeat first | apply zM | apply zE | apply zF); exact BK203.out) hb); have n1_ := Aside0.mk (blk_below (g := gb204) (o := .cells #[.string a1_0, .string a1_1, .string a1_2, .slice A1_3 l1_3.length c1_3, .slice (some ad207) l1_4.length c1_4] 25 (0, 0)) (by (with_reducible repeat first | apply zM | apply zE | apply zF); exact BK204.out) hb); have n2_ := Aside0.mk (below_step (by with_reducible repeat first | exact HB.out | apply zA | apply zN | apply zD | refine zS ?_ GE203.out | refine zS ?_ GE204.out) hb); clear BK203; clear BK204; clear HB; have BK203 := n0_; have BK204 := n1_; have HB := n2_; clear n0_ n1_ n2_
           (try clear hb)
           (try clear hb2)
           (try clear hk)
           (try clear hi)
           refine hK.out _ _ ⟨(zC BK203.out 0).trans rfl, (zC BK203.out 1).trans rfl, (zC BK203.out 2).trans rfl, (zC BK203.out 3).trans rfl, (zC BK203.out 4).trans rfl, (zC BK204.out 0).trans rfl, (zC BK204.out 1).trans rfl, (zC BK204.out 2).trans rfl, (zC BK204.out 3).trans rfl, (zC BK204.out 4).trans rfl, (zB HB hw206_0), (zB HB hw206_1), (zB HB hw206_2), (zB HB hw206_3), (zB HB hw206_4), (zB HB hw207_0), (zB HB hw207_1), (zB HB hw207_2), (zB HB hw207_3), (zB HB hw207_4)⟩ (fun hHeld => ?_)
           clear hK K; refine norm_ (a' := ?_) ?_ ?_
           rotate_left
           ·
            show Act.put _ (some 58) _ = _
            simp only [Act.put, List.setIfInBounds_toArray, List.set_cons_zero, List.set_cons_succ, i64_w, i32_w]
            rfl
           refine pure_ (i := 11) (N := some 59) (v := ?_) (a' := ?_) #[true, true, true, true, true, true, true, true, true, true, true, true] rfl rfl (any_of HT_.out (by kernel_rfl)) (fun _ _ _ h => h) (Or.inl ⟨by rfl, ?_⟩) ?_ ?_
           rotate_left
           ·
            intro w'
            go_simp
            with_reducible rfl
           rotate_left
           ·
            simp only [Act.put, List.setIfInBounds_toArray, List.set_cons_zero, List.set_cons_succ, i64_w, i32_w]
            rfl
           refine done_ (done_of HT_.out (by kernel_rfl)) ?_
           try go_wp2
           go_ret
           exact ⟨by first | rfl | (simp [errW_none, errW_some] <;> rfl) | (simp [*, errW_none, errW_some] <;> rfl), by with_reducible repeat first | exact HB.out | apply zA | apply zN | apply zD | refine zS ?_ GE203.out | refine zS ?_ GE204.out⟩
         ·
          rw [if_neg c32] at H
          exact absurd H (by simp)
        ·
         rw [if_neg c31] at H
         exact absurd H (by simp)
       ·
        rw [if_neg c30] at H
        exact absurd H (by simp)
      ·
       rw [if_neg c29] at H
       have c29b0 : decide (x45_2 < (l0_4.length : Int)) = false := decide_eq_false c29; clear c29; obtain rfl := Option.some.inj H
       go_wp2
       go_ret
       exact ⟨by first | rfl | (simp [errW_none, errW_some] <;> rfl) | (simp [*, errW_none, errW_some] <;> rfl), by with_reducible repeat first | exact HB.out | apply zA | apply zN | apply zD | refine zS ?_ GE203.out | refine zS ?_ GE204.out⟩
end Go.Proofs.Ytcebfldagnjddaa.G
