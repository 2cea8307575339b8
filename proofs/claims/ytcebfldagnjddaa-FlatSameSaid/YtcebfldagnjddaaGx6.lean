-- Written by gp.py (wip/gen) for this claim: pure functions and contracts, out of the translation; not trusted: Lean checks it.
import Derived.Test.YtcebfldagnjddaaGx0
import Derived.Test.YtcebfldagnjddaaH3
import Derived.Test.YtcebfldagnjddaaGx4
import Derived.Test.YtcebfldagnjddaaGx5
namespace Go.Proofs.Ytcebfldagnjddaa.G
open Go.RowKit Go.Proofs.YtcebfldagnjddaaW.PrintWords Go.Proofs.YtcebfldagnjddaaW.PrintLast Go.Proofs.YtcebfldagnjddaaW.PrintMore
attribute [local go_sem] max2_int min2_int max_two min_two max_three min_three max_four min_four   -- for this text's walks alone
set_option linter.unusedVariables false
set_option linter.unusedSimpArgs false

open Go.Proofs.YtcebfldagnjddaaW.PrintWords renaming below_alloc → zA, pw_below_drewN → zN, below_drew1 → zD, below_set → zS, blk_drewN → zM, blk_drew → zE, blk_alloc → zF, blk_far → zG, blk_put → zP, blk_cell → zC, blk_frozen → zR
/-! ### flat_build: function 36 -/
mutual
def flat_build.l0 : Nat → List (S53) → Int → Int → ByteArray → ByteArray → ByteArray → List (S69) → List (S25) → Option (ByteArray × ByteArray × ByteArray × (List (S69)) × (List (S25)) × Int)
 | 0, _, _, _, _, _, _, _, _ => none
 | k + 1, x0, x1, x8, x167000, x167001, x167002, x167003, x167004 => if x8 < (x0.length : Int) then (if 0 ≤ x8 then (if ((rd_T53 x0 x8).f1) = (wrap64 (x1 + 1)) then ((flat_build.f k x0 x8).bind fun bt169 => (if x167004.length < 1466015503701 then (flat_build.l0 k x0 x1 bt169.2.2.2.2.2 x167000 x167001 x167002 x167003 (x167004 ++ [(⟨bt169.1, bt169.2.1, bt169.2.2.1, bt169.2.2.2.1, bt169.2.2.2.2.1⟩ : S25)])) else (none))) else (some (x167000, x167001, x167002, x167003, x167004, x8))) else (none)) else (some (x167000, x167001, x167002, x167003, x167004, x8))
def flat_build.f : Nat → List (S53) → Int → Option (ByteArray × ByteArray × ByteArray × (List (S69)) × (List (S25)) × Int)
 | 0, _, _ => none
 | k + 1, l0, a1 => if 0 ≤ a1 then (if a1 < (l0.length : Int) then ((api_Attr.f ((rd_T53 l0 a1).f5)).bind fun t163 => (flat_build.l0 k l0 a1 (wrap64 (a1 + 1)) ((rd_T53 l0 a1).f2) ((rd_T53 l0 a1).f3) ((rd_T53 l0 a1).f4) t163 ([] : List (S25)))) else (none)) else (none)
end
theorem flat_build.mono_l : ∀ k, (∀ y0 y1, LeO (flat_build.f k y0 y1) (flat_build.f (k + 1) y0 y1)) ∧ (∀ y0 y1 y2 y3 y4 y5 y6 y7, LeO (flat_build.l0 k y0 y1 y2 y3 y4 y5 y6 y7) (flat_build.l0 (k + 1) y0 y1 y2 y3 y4 y5 y6 y7))
 | 0 => ⟨fun _ _ r h => by simp [flat_build.f] at h, fun _ _ _ _ _ _ _ _ r h => by simp [flat_build.l0] at h⟩
 | k + 1 => by
  obtain ⟨ih0, ih1⟩ := flat_build.mono_l k
  refine ⟨?_, ?_⟩
  ·
   intro y0 y1
   unfold flat_build.f
   repeat' first
   | (with_reducible exact ih0 _ _)
   | (with_reducible exact ih1 _ _ _ _ _ _ _ _)
   | (with_reducible exact LeO.refl _)
   | (with_reducible exact LeO.none _)
   | (with_reducible refine LeO.ite ?_ ?_)
   | (with_reducible refine LeO.bind ?_ (fun _ => ?_))
   | exact ih0 _ _
   | exact ih1 _ _ _ _ _ _ _ _
   | exact LeO.none _
   | refine LeO.ite ?_ ?_
   | refine LeO.bind ?_ (fun _ => ?_)
  ·
   intro y0 y1 y2 y3 y4 y5 y6 y7
   unfold flat_build.l0
   repeat' first
   | (with_reducible exact ih0 _ _)
   | (with_reducible exact ih1 _ _ _ _ _ _ _ _)
   | (with_reducible exact LeO.refl _)
   | (with_reducible exact LeO.none _)
   | (with_reducible refine LeO.ite ?_ ?_)
   | (with_reducible refine LeO.bind ?_ (fun _ => ?_))
   | exact ih0 _ _
   | exact ih1 _ _ _ _ _ _ _ _
   | exact LeO.none _
   | refine LeO.ite ?_ ?_
   | refine LeO.bind ?_ (fun _ => ?_)
theorem flat_build.mono : ∀ a0 a1 k, LeO (flat_build.f k a0 a1) (flat_build.f (k + 1) a0 a1) := by
 intro a0 a1 k
 obtain ⟨ih0, ih1⟩ := flat_build.mono_l k
 exact ih0 a0 a1
def flat_build.T2 : Bool × List (List Nat × List Nat) := (true, [([], []), ([0], [0]), ([], []), ([2], [2]), ([], []), ([4], [4]), ([], []), ([6], [6]), ([7], [7]), ([1, 3, 5, 8], [1, 3, 5, 8]), ([], []), ([10, 9, 8, 0, 1, 2, 3, 4, 5, 6, 7, 8, 9, 10], [9, 10])])
def flat_build.B2 : List Nat := [0, 1, 0, 4, 0, 16, 0, 64, 192, 511, 0, 2047]
theorem flat_build.tab2 : rtab .any (opsOf Try.f36 2) = flat_build.T2 := by kernel_rfl
theorem flat_build.bits2 : waitsOk flat_build.T2.2 flat_build.B2 = true := by kernel_rfl
set_option maxHeartbeats 8000000 in
set_option maxRecDepth 100000 in
theorem flat_build.calls (k : Nat) : ∀ (A0 : Option Addr) (c0 : Nat) (l0 : List (S53)) (a1 : Int) (r1 : ByteArray) (r2 : ByteArray) (r3 : ByteArray) (r4 : List (S69)) (r5 : List (S25)) (r6 : Int) (w : World) (hr0 : Kd.C k53 w A0 l0.length l0) (hc0 : l0.length ≤ c0) (h : flat_build.f k l0 a1 = some (r1, r2, r3, r4, r5, r6)),
  Calls Try.prog 36 #[.slice A0 l0.length c0, .int .i64 a1] w fun e w' => ∃ v3_ v4_ : Value, e = .returned (.tuple #[.agg #[.string r1, .string r2, .string r3, v3_, v4_], .int .i64 r6]) ∧ Kd.R k69 69 w' w.heap.size (fun _ => True) v3_ r4 ∧ Kd.R k25 25 w' w.heap.size (fun k_ => some k_ ≠ (v3_ : Value).ownBlock) v4_ r5 ∧ Below w.heap.size w w' := by
 induction k using Nat.strongRecOn with
 | _ k ih =>
 intro A0 c0 l0 a1 r1 r2 r3 r4 r5 r6 w hr0 hc0 h
 cases k with
 | zero => exact absurd h (by simp [flat_build.f])
 | succ k =>
 simp only [flat_build.f] at h
 have hu25 := Try.underlying25
 have hu53 := Try.underlying53
 have HR0 := Aside0.mk hr0
 have HC0 := Aside0.mk hc0
 clear hr0 hc0
 have HB := Aside0.mk (Below.refl w.heap.size w)
 have H : (if 0 ≤ a1 then (if a1 < (l0.length : Int) then ((api_Attr.f ((rd_T53 l0 a1).f5)).bind fun t163 => (flat_build.l0 k l0 a1 (wrap64 (a1 + 1)) ((rd_T53 l0 a1).f2) ((rd_T53 l0 a1).f3) ((rd_T53 l0 a1).f4) t163 ([] : List (S25)))) else (none)) else (none)) = some (r1, r2, r3, r4, r5, r6) := h
 clear h
 by_cases c3 : 0 ≤ a1
 ·
  rw [if_pos c3] at H
  have c3b0 : decide (0 ≤ a1) = true := decide_eq_true c3
  clear c3
  by_cases c4 : a1 < (l0.length : Int)
  ·
   rw [if_pos c4] at H
   have c4b0 : decide (a1 < (l0.length : Int)) = true := decide_eq_true c4
   clear c4
   replace H := Option.bind_eq_some_iff.mp H
   obtain ⟨t163, A50, H⟩ := H
   replace H : (flat_build.l0 k l0 a1 (wrap64 (a1 + 1)) ((rd_T53 l0 a1).f2) ((rd_T53 l0 a1).f3) ((rd_T53 l0 a1).f4) t163 ([] : List (S25))) = some (r1, r2, r3, r4, r5, r6) := H
   have A5 := Aside0.mk A50
   clear A50
   have H' := Aside0.mk H
   clear H
   go_enter Try.func36, Try.ntmps36
   try go_wp2_with (first | ((with_reducible refine gate_dst (N := 4) rfl ?_); refine box_event ?hg (N := 4) ?hd (cs := #[.string (⟨#[]⟩ : ByteArray), .string (⟨#[]⟩ : ByteArray), .string (⟨#[]⟩ : ByteArray), .slice none 0 0, .slice none 0 0]) (t := 25) ?hr ?_; (case hd => rfl); (case hg => rfl); (case hr => first | (go_simp; done) | (go_simp; rfl)); intro gb160 hg w6 hbox hb; have n0_ := Aside0.mk (below_step (by repeat (first | (with_reducible first | exact HB.out | apply zA | apply zN | apply zD) | exact HB.out)) hb); have n1_ := Aside0.mk (hbox); have n2_ := Aside0.mk ((by rw [hg]; exact (below_size (by repeat (first | (with_reducible first | exact HB.out | apply zA | apply zN | apply zD) | exact HB.out))) : w.heap.size ≤ gb160)); have n3_ := Aside0.mk ((by rw [hg]; exact (below_size (by repeat (first | (with_reducible first | exact HB.out | apply zA | apply zN | apply zD) | exact HB.out))) : w.heap.size ≤ gb160)); clear HB; have HB := n0_; have BK160 := n1_; have GW160 := n2_; have GE160 := n3_; clear n0_ n1_ n2_ n3_; clear hb hbox hg; have p161 : 0 ≤ (a1 : Int) := of_decide_eq_true (by first | (with_reducible assumption) | assumption); have q161 : a1 < (l0.length : Int) := of_decide_eq_true (by first | (with_reducible assumption) | assumption); obtain ⟨ad161, A161_5, c161_5, e161, hx161_0, hx161_1, hx161_2, hx161_3, hx161_4, hx161_5, hl161_5, hi161_5⟩ := at_T53 HR0.out a1 p161 q161; cases e161; replace hx161_0 := (HB.out.cell (World.block_lt_of_cell? w _ hx161_0)).trans hx161_0; replace hx161_1 := (HB.out.cell (World.block_lt_of_cell? w _ hx161_1)).trans hx161_1; replace hx161_2 := (HB.out.cell (World.block_lt_of_cell? w _ hx161_2)).trans hx161_2; replace hx161_3 := (HB.out.cell (World.block_lt_of_cell? w _ hx161_3)).trans hx161_3; replace hx161_4 := (HB.out.cell (World.block_lt_of_cell? w _ hx161_4)).trans hx161_4; replace hx161_5 := (HB.out.cell (World.block_lt_of_cell? w _ hx161_5)).trans hx161_5; have HR161_5 := Aside0.mk hi161_5; have HC161_5 := Aside0.mk hl161_5; clear hi161_5 hl161_5; replace p161 := eq_true p161; replace q161 := eq_true q161) | ((with_reducible refine gate_dst (N := 6) rfl ?_); refine box_event ?hg (N := 6) ?hd (cs := #[.int .i64 0, .int .i64 0, .string (⟨#[]⟩ : ByteArray), .string (⟨#[]⟩ : ByteArray), .string (⟨#[]⟩ : ByteArray), .slice none 0 0]) (t := 53) ?hr ?_; (case hd => rfl); (case hg => rfl); (case hr => first | (go_simp; done) | (go_simp; rfl)); intro gb162 hg w7 hbox hb; have n0_ := Aside0.mk (blk_below (g := gb160) (o := .cells #[.string (⟨#[]⟩ : ByteArray), .string (⟨#[]⟩ : ByteArray), .string (⟨#[]⟩ : ByteArray), .slice none 0 0, .slice none 0 0] 25 (0, 0)) (by (with_reducible repeat first | apply zM | apply zE | apply zF); exact BK160.out) hb); have n1_ := Aside0.mk (below_step (by repeat (first | (with_reducible first | exact HB.out | apply zA | apply zN | apply zD | refine zS ?_ GE160.out) | exact HB.out)) hb); have n2_ := Aside0.mk (hbox); have n3_ := Aside0.mk ((by rw [hg]; exact (below_size (by repeat (first | (with_reducible first | exact HB.out | apply zA | apply zN | apply zD | refine zS ?_ GE160.out) | exact HB.out))) : w.heap.size ≤ gb162)); have n4_ := Aside0.mk ((by rw [hg]; exact (below_size (by repeat (first | (with_reducible first | exact HB.out | apply zA | apply zN | apply zD | refine zS ?_ GE160.out) | exact HB.out))) : w.heap.size ≤ gb162)); have n5_ := Aside0.mk ((by rw [hg]; exact Nat.ne_of_lt (blk_lt (g := gb160) (o := .cells #[.string (⟨#[]⟩ : ByteArray), .string (⟨#[]⟩ : ByteArray), .string (⟨#[]⟩ : ByteArray), .slice none 0 0, .slice none 0 0] 25 (0, 0)) (by (with_reducible repeat first | apply zM | apply zE | apply zF); exact BK160.out)) : gb160 ≠ gb162)); have n6_ := Aside0.mk ((by rw [hg]; exact Nat.ne_of_gt (blk_lt (g := gb160) (o := .cells #[.string (⟨#[]⟩ : ByteArray), .string (⟨#[]⟩ : ByteArray), .string (⟨#[]⟩ : ByteArray), .slice none 0 0, .slice none 0 0] 25 (0, 0)) (by (with_reducible repeat first | apply zM | apply zE | apply zF); exact BK160.out)) : gb162 ≠ gb160)); clear BK160; clear HB; have BK160 := n0_; have HB := n1_; have BK162 := n2_; have GW162 := n3_; have GE162 := n4_; have NB160_162 := n5_; have NB162_160 := n6_; clear n0_ n1_ n2_ n3_ n4_ n5_ n6_; clear hb hbox hg; have hnb8 := NB162_160.out; have hnc8 := NB160_162.out; have hcz9_0 : w7.cell? ⟨gb162, 0, none⟩ = some (.int .i64 0) := (zC BK162.out 0).trans rfl; have hcz9_1 : w7.cell? ⟨gb162, 1, none⟩ = some (.int .i64 0) := (zC BK162.out 1).trans rfl; have hcz9_2 : w7.cell? ⟨gb162, 2, none⟩ = some (.string (⟨#[]⟩ : ByteArray)) := (zC BK162.out 2).trans rfl; have hcz9_3 : w7.cell? ⟨gb162, 3, none⟩ = some (.string (⟨#[]⟩ : ByteArray)) := (zC BK162.out 3).trans rfl; have hcz9_4 : w7.cell? ⟨gb162, 4, none⟩ = some (.string (⟨#[]⟩ : ByteArray)) := (zC BK162.out 4).trans rfl; have hcz9_5 : w7.cell? ⟨gb162, 5, none⟩ = some (.slice none 0 0) := (zC BK162.out 5).trans rfl; have hfz9_0 := zR BK162.out 0; have hfz9_1 := zR BK162.out 1; have hfz9_2 := zR BK162.out 2; have hfz9_3 := zR BK162.out 3; have hfz9_4 := zR BK162.out 4; have hfz9_5 := zR BK162.out 5))
   have n0_ : Aside0 (((((((w7.setCell ⟨gb162, 0, none⟩ (.int .i64 ((rd_T53 l0 a1).f0))).setCell ⟨gb162, 1, none⟩ (.int .i64 ((rd_T53 l0 a1).f1))).setCell ⟨gb162, 2, none⟩ (.string ((rd_T53 l0 a1).f2))).setCell ⟨gb162, 3, none⟩ (.string ((rd_T53 l0 a1).f3))).setCell ⟨gb162, 4, none⟩ (.string ((rd_T53 l0 a1).f4))).setCell ⟨gb162, 5, none⟩ (.slice A161_5 ((rd_T53 l0 a1).f5).length c161_5)).heap[gb160]? = some (.cells #[.string (⟨#[]⟩ : ByteArray), .string (⟨#[]⟩ : ByteArray), .string (⟨#[]⟩ : ByteArray), .slice none 0 0, .slice none 0 0] 25 (0, 0))) := ⟨by (with_reducible repeat first | apply zM | apply zE | apply zF); refine zG ?_ NB160_162.out _; (with_reducible repeat first | apply zM | apply zE | apply zF); refine zG ?_ NB160_162.out _; (with_reducible repeat first | apply zM | apply zE | apply zF); refine zG ?_ NB160_162.out _; (with_reducible repeat first | apply zM | apply zE | apply zF); refine zG ?_ NB160_162.out _; (with_reducible repeat first | apply zM | apply zE | apply zF); refine zG ?_ NB160_162.out _; (with_reducible repeat first | apply zM | apply zE | apply zF); refine zG ?_ NB160_162.out _; (with_reducible repeat first | apply zM | apply zE | apply zF); exact BK160.out⟩
   have n1_ : Aside0 (((((((w7.setCell ⟨gb162, 0, none⟩ (.int .i64 ((rd_T53 l0 a1).f0))).setCell ⟨gb162, 1, none⟩ (.int .i64 ((rd_T53 l0 a1).f1))).setCell ⟨gb162, 2, none⟩ (.string ((rd_T53 l0 a1).f2))).setCell ⟨gb162, 3, none⟩ (.string ((rd_T53 l0 a1).f3))).setCell ⟨gb162, 4, none⟩ (.string ((rd_T53 l0 a1).f4))).setCell ⟨gb162, 5, none⟩ (.slice A161_5 ((rd_T53 l0 a1).f5).length c161_5)).heap[gb162]? = some (.cells #[.int .i64 ((rd_T53 l0 a1).f0), .int .i64 ((rd_T53 l0 a1).f1), .string ((rd_T53 l0 a1).f2), .string ((rd_T53 l0 a1).f3), .string ((rd_T53 l0 a1).f4), .slice A161_5 ((rd_T53 l0 a1).f5).length c161_5] 53 (0, 0))) := ⟨by (with_reducible repeat first | apply zM | apply zE | apply zF); refine zP (cs := #[.int .i64 ((rd_T53 l0 a1).f0), .int .i64 ((rd_T53 l0 a1).f1), .string ((rd_T53 l0 a1).f2), .string ((rd_T53 l0 a1).f3), .string ((rd_T53 l0 a1).f4), .slice none 0 0]) ?_ 5 _ rfl; (with_reducible repeat first | apply zM | apply zE | apply zF); refine zP (cs := #[.int .i64 ((rd_T53 l0 a1).f0), .int .i64 ((rd_T53 l0 a1).f1), .string ((rd_T53 l0 a1).f2), .string ((rd_T53 l0 a1).f3), .string (⟨#[]⟩ : ByteArray), .slice none 0 0]) ?_ 4 _ rfl; (with_reducible repeat first | apply zM | apply zE | apply zF); refine zP (cs := #[.int .i64 ((rd_T53 l0 a1).f0), .int .i64 ((rd_T53 l0 a1).f1), .string ((rd_T53 l0 a1).f2), .string (⟨#[]⟩ : ByteArray), .string (⟨#[]⟩ : ByteArray), .slice none 0 0]) ?_ 3 _ rfl; (with_reducible repeat first | apply zM | apply zE | apply zF); refine zP (cs := #[.int .i64 ((rd_T53 l0 a1).f0), .int .i64 ((rd_T53 l0 a1).f1), .string (⟨#[]⟩ : ByteArray), .string (⟨#[]⟩ : ByteArray), .string (⟨#[]⟩ : ByteArray), .slice none 0 0]) ?_ 2 _ rfl; (with_reducible repeat first | apply zM | apply zE | apply zF); refine zP (cs := #[.int .i64 ((rd_T53 l0 a1).f0), .int .i64 0, .string (⟨#[]⟩ : ByteArray), .string (⟨#[]⟩ : ByteArray), .string (⟨#[]⟩ : ByteArray), .slice none 0 0]) ?_ 1 _ rfl; (with_reducible repeat first | apply zM | apply zE | apply zF); refine zP (cs := #[.int .i64 0, .int .i64 0, .string (⟨#[]⟩ : ByteArray), .string (⟨#[]⟩ : ByteArray), .string (⟨#[]⟩ : ByteArray), .slice none 0 0]) ?_ 0 _ rfl; (with_reducible repeat first | apply zM | apply zE | apply zF); exact BK162.out⟩
   have n2_ : Aside0 (Below w.heap.size w ((((((w7.setCell ⟨gb162, 0, none⟩ (.int .i64 ((rd_T53 l0 a1).f0))).setCell ⟨gb162, 1, none⟩ (.int .i64 ((rd_T53 l0 a1).f1))).setCell ⟨gb162, 2, none⟩ (.string ((rd_T53 l0 a1).f2))).setCell ⟨gb162, 3, none⟩ (.string ((rd_T53 l0 a1).f3))).setCell ⟨gb162, 4, none⟩ (.string ((rd_T53 l0 a1).f4))).setCell ⟨gb162, 5, none⟩ (.slice A161_5 ((rd_T53 l0 a1).f5).length c161_5))) := ⟨by repeat (first | (with_reducible first | exact HB.out | apply zA | apply zN | apply zD | refine zS ?_ GE160.out | refine zS ?_ GE162.out) | exact HB.out)⟩
   (try clear BK160)
   (try clear BK162)
   (try clear HB)
   generalize ((((((w7.setCell ⟨gb162, 0, none⟩ (.int .i64 ((rd_T53 l0 a1).f0))).setCell ⟨gb162, 1, none⟩ (.int .i64 ((rd_T53 l0 a1).f1))).setCell ⟨gb162, 2, none⟩ (.string ((rd_T53 l0 a1).f2))).setCell ⟨gb162, 3, none⟩ (.string ((rd_T53 l0 a1).f3))).setCell ⟨gb162, 4, none⟩ (.string ((rd_T53 l0 a1).f4))).setCell ⟨gb162, 5, none⟩ (.slice A161_5 ((rd_T53 l0 a1).f5).length c161_5)) = w10 at n0_ n1_ n2_ ⊢
   have BK160 := n0_
   have BK162 := n1_
   have HB := n2_
   clear n0_ n1_ n2_
   have n0_ := Aside0.mk (zE BK160.out)
   have n1_ := Aside0.mk (zE BK162.out)
   have n2_ := Aside0.mk (zD HB.out)
   clear BK160
   clear BK162
   clear HB
   have BK160 := n0_
   have BK162 := n1_
   have HB := n2_
   clear n0_ n1_ n2_
   refine start_ (n := 12) (S := fun w' => w'.cell? ⟨gb162, 0, none⟩ = some (.int .i64 ((rd_T53 l0 a1).f0)) ∧ w'.cell? ⟨gb162, 1, none⟩ = some (.int .i64 ((rd_T53 l0 a1).f1)) ∧ w'.cell? ⟨gb162, 2, none⟩ = some (.string ((rd_T53 l0 a1).f2)) ∧ w'.cell? ⟨gb162, 3, none⟩ = some (.string ((rd_T53 l0 a1).f3)) ∧ w'.cell? ⟨gb162, 4, none⟩ = some (.string ((rd_T53 l0 a1).f4)) ∧ w'.cell? ⟨gb162, 5, none⟩ = some (.slice A161_5 ((rd_T53 l0 a1).f5).length c161_5)) (ds := []) #[false, false, false, false, false, false, false, false, false, false, false, false] (by kernel_rfl) rfl rfl ⟨(zC BK162.out 0).trans rfl, (zC BK162.out 1).trans rfl, (zC BK162.out 2).trans rfl, (zC BK162.out 3).trans rfl, (zC BK162.out 4).trans rfl, (zC BK162.out 5).trans rfl⟩ (fun hHeld => ?_); refine with_tabW flat_build.tab2 flat_build.bits2 (fun HT_ HW_ => ?_)
   generalize w10.drew = w11 at BK160 BK162 HB hHeld ⊢
   refine pure_ (i := 0) (N := some 14) (v := ?_) (a' := ?_) #[true, false, false, false, false, false, false, false, false, false, false, false] rfl rfl (any_of HT_.out (by kernel_rfl)) (fun _ _ _ h => h) (Or.inl ⟨by rfl, ?_⟩) ?_ ?_
   rotate_left
   ·
    intro w'
    go_simp
    with_reducible rfl
   rotate_left
   ·
    simp only [Act.put, List.setIfInBounds_toArray, List.set_cons_zero, List.set_cons_succ, i64_w, i32_w]
    rfl
   refine pure_ (i := 2) (N := some 16) (v := ?_) (a' := ?_) #[true, false, true, false, false, false, false, false, false, false, false, false] rfl rfl (any_of HT_.out (by kernel_rfl)) (fun _ _ _ h => h) (Or.inl ⟨by rfl, ?_⟩) ?_ ?_
   rotate_left
   ·
    intro w'
    go_simp
    with_reducible rfl
   rotate_left
   ·
    simp only [Act.put, List.setIfInBounds_toArray, List.set_cons_zero, List.set_cons_succ, i64_w, i32_w]
    rfl
   refine pure_ (i := 4) (N := some 18) (v := ?_) (a' := ?_) #[true, false, true, false, true, false, false, false, false, false, false, false] rfl rfl (any_of HT_.out (by kernel_rfl)) (fun _ _ _ h => h) (Or.inl ⟨by rfl, ?_⟩) ?_ ?_
   rotate_left
   ·
    intro w'
    go_simp
    with_reducible rfl
   rotate_left
   ·
    simp only [Act.put, List.setIfInBounds_toArray, List.set_cons_zero, List.set_cons_succ, i64_w, i32_w]
    rfl
   refine pure_ (i := 6) (N := some 20) (v := ?_) (a' := ?_) #[true, false, true, false, true, false, true, false, false, false, false, false] rfl rfl (any_of HT_.out (by kernel_rfl)) (fun _ _ _ h => h) (Or.inl ⟨by rfl, ?_⟩) ?_ ?_
   rotate_left
   ·
    intro w'
    go_simp
    with_reducible rfl
   rotate_left
   ·
    simp only [Act.put, List.setIfInBounds_toArray, List.set_cons_zero, List.set_cons_succ, i64_w, i32_w]
    rfl
   refine take_ (i := 1) (N := some 15) (v := ?_) (a' := ?_) #[true, true, true, false, true, false, true, false, false, false, false, false] rfl rfl (take_ofW HT_.out HW_.out (by kernel_rfl)) (fun _ _ _ h => h) (Or.inl ⟨by rfl, ?_⟩) hHeld ?_ ?_
   rotate_left
   ·
    rintro w' ⟨s0, s1, s2, s3, s4, s5⟩
    go_simp
    with_reducible rfl
   rotate_left
   ·
    simp only [Act.put, List.setIfInBounds_toArray, List.set_cons_zero, List.set_cons_succ, i64_w, i32_w]
    rfl
   refine take_ (i := 3) (N := some 17) (v := ?_) (a' := ?_) #[true, true, true, true, true, false, true, false, false, false, false, false] rfl rfl (take_ofW HT_.out HW_.out (by kernel_rfl)) (fun _ _ _ h => h) (Or.inl ⟨by rfl, ?_⟩) hHeld ?_ ?_
   rotate_left
   ·
    rintro w' ⟨s0, s1, s2, s3, s4, s5⟩
    go_simp
    with_reducible rfl
   rotate_left
   ·
    simp only [Act.put, List.setIfInBounds_toArray, List.set_cons_zero, List.set_cons_succ, i64_w, i32_w]
    rfl
   refine take_ (i := 5) (N := some 19) (v := ?_) (a' := ?_) #[true, true, true, true, true, true, true, false, false, false, false, false] rfl rfl (take_ofW HT_.out HW_.out (by kernel_rfl)) (fun _ _ _ h => h) (Or.inl ⟨by rfl, ?_⟩) hHeld ?_ ?_
   rotate_left
   ·
    rintro w' ⟨s0, s1, s2, s3, s4, s5⟩
    go_simp
    with_reducible rfl
   rotate_left
   ·
    simp only [Act.put, List.setIfInBounds_toArray, List.set_cons_zero, List.set_cons_succ, i64_w, i32_w]
    rfl
   refine take_ (i := 7) (N := some 21) (v := ?_) (a' := ?_) #[true, true, true, true, true, true, true, true, false, false, false, false] rfl rfl (take_ofW HT_.out HW_.out (by kernel_rfl)) (fun _ _ _ h => h) (Or.inl ⟨by rfl, ?_⟩) hHeld ?_ ?_
   rotate_left
   ·
    rintro w' ⟨s0, s1, s2, s3, s4, s5⟩
    go_simp
    with_reducible rfl
   rotate_left
   ·
    simp only [Act.put, List.setIfInBounds_toArray, List.set_cons_zero, List.set_cons_succ, i64_w, i32_w]
    rfl
   refine join_ (σ := Value × Nat) 1 #[true, true, true, true, true, true, true, true, true, true, true, false] (fun s_ => [(22, s_.1), (7, .pointer (some ⟨s_.2, 0, none⟩)), (23, .agg #[.string ((rd_T53 l0 a1).f2), .string ((rd_T53 l0 a1).f3), .string ((rd_T53 l0 a1).f4), s_.1, .slice none 0 0])]) (fun s_ w' => (w'.cell? ⟨gb162, 0, none⟩ = some (.int .i64 ((rd_T53 l0 a1).f0)) ∧ w'.cell? ⟨gb162, 1, none⟩ = some (.int .i64 ((rd_T53 l0 a1).f1)) ∧ w'.cell? ⟨gb162, 2, none⟩ = some (.string ((rd_T53 l0 a1).f2)) ∧ w'.cell? ⟨gb162, 3, none⟩ = some (.string ((rd_T53 l0 a1).f3)) ∧ w'.cell? ⟨gb162, 4, none⟩ = some (.string ((rd_T53 l0 a1).f4)) ∧ w'.cell? ⟨gb162, 5, none⟩ = some (.slice A161_5 ((rd_T53 l0 a1).f5).length c161_5)) ∧ (Kd.R k69 69 w' w.heap.size (fun _ => True) s_.1 t163) ∧ (w'.heap[gb160]? = some (.cells #[.string (⟨#[]⟩ : ByteArray), .string (⟨#[]⟩ : ByteArray), .string (⟨#[]⟩ : ByteArray), .slice none 0 0, .slice none 0 0] 25 (0, 0))) ∧ (w'.heap[gb162]? = some (.cells #[.int .i64 ((rd_T53 l0 a1).f0), .int .i64 ((rd_T53 l0 a1).f1), .string ((rd_T53 l0 a1).f2), .string ((rd_T53 l0 a1).f3), .string ((rd_T53 l0 a1).f4), .slice A161_5 ((rd_T53 l0 a1).f5).length c161_5] 53 (0, 0))) ∧ (w'.heap[s_.2]? = some (.cells #[.string (⟨#[]⟩ : ByteArray), .string (⟨#[]⟩ : ByteArray), .string (⟨#[]⟩ : ByteArray), .slice none 0 0, .slice none 0 0] 25 (0, 0))) ∧ (w.heap.size ≤ s_.2) ∧ (w.heap.size ≤ s_.2) ∧ (gb160 ≠ s_.2) ∧ (s_.2 ≠ gb160) ∧ (gb162 ≠ s_.2) ∧ (s_.2 ≠ gb162) ∧ (Below w.heap.size w w')) ?_ ?_
   rotate_left
   ·
    intro hCont
    refine two_ (i := 8) (j := 10) (Ni := some 22) (Nj := some 7) #[true, true, true, true, true, true, true, true, true, false, false, false] #[true, true, true, true, true, true, true, true, false, false, true, false] rfl rfl rfl rfl (two_of HT_.out (by kernel_rfl)) (by decide) (by decide) (fun K hK => ?_) (fun K hK => ?_)
    ·
     skip
     refine goes_ Try.func47 (by kernel_rfl) rfl #[.slice A161_5 ((rd_T53 l0 a1).f5).length c161_5] (by rfl) rfl rfl (by (try simp only [List.map_toArray, List.map_cons, List.map_nil]); first | done | rfl | (simp only [List.length_drop, List.length_take]; rfl)) ?_
     with_reducible refine (api_Attr.calls _ _ ((rd_T53 l0 a1).f5) t163 _ ?side1 ?side2 A5.out).mono ?_
     (case side1 => repeat (first | exact (Kd.C_below HR161_5.out HB.out) | (with_reducible refine Kd.C_alloc ?_ _) | (with_reducible refine Kd.C_drewN ?_ _) | (with_reducible refine Kd.C_drew ?_)))
     (case side2 => exact HC161_5.out)
     rintro e w12 ⟨v164, rfl, ho0, hb⟩
     refine ⟨_, rfl, ?_⟩
     have n0_ := Aside0.mk (Kd.R_lower ho0 (below_size (by repeat (first | (with_reducible first | exact HB.out | apply zA | apply zN | apply zD | refine zS ?_ GE160.out | refine zS ?_ GE162.out) | exact HB.out))))
     have n1_ := Aside0.mk (blk_below (g := gb160) (o := .cells #[.string (⟨#[]⟩ : ByteArray), .string (⟨#[]⟩ : ByteArray), .string (⟨#[]⟩ : ByteArray), .slice none 0 0, .slice none 0 0] 25 (0, 0)) (by (with_reducible repeat first | apply zM | apply zE | apply zF); exact BK160.out) hb)
     have n2_ := Aside0.mk (blk_below (g := gb162) (o := .cells #[.int .i64 ((rd_T53 l0 a1).f0), .int .i64 ((rd_T53 l0 a1).f1), .string ((rd_T53 l0 a1).f2), .string ((rd_T53 l0 a1).f3), .string ((rd_T53 l0 a1).f4), .slice A161_5 ((rd_T53 l0 a1).f5).length c161_5] 53 (0, 0)) (by (with_reducible repeat first | apply zM | apply zE | apply zF); exact BK162.out) hb)
     have n3_ := Aside0.mk (below_step (by repeat (first | (with_reducible first | exact HB.out | apply zA | apply zN | apply zD | refine zS ?_ GE160.out | refine zS ?_ GE162.out) | exact HB.out)) hb)
     clear BK160
     clear BK162
     clear HB
     have HO165 := n0_
     have BK160 := n1_
     have BK162 := n2_
     have HB := n3_
     clear n0_ n1_ n2_ n3_
     (try clear hb)
     (try clear hb2)
     (try clear hk)
     (try clear hi)
     (try clear ho0)
     obtain ⟨Ao13, co13, eo13⟩ := Kd.R_slice HO165.out
     (first | subst eo13 | (injection eo13 with f1_ f2_ f3_; have f4_ := f1_.symm; have f5_ := f3_.symm; clear f1_ f2_ f3_; subst f4_; subst f5_))
     refine hK.out _ _ ⟨(zC BK162.out 0).trans rfl, (zC BK162.out 1).trans rfl, (zC BK162.out 2).trans rfl, (zC BK162.out 3).trans rfl, (zC BK162.out 4).trans rfl, (zC BK162.out 5).trans rfl⟩ (fun hHeld => ?_)
     clear hK K
     refine norm_ (a' := ?_) ?_ ?_
     rotate_left
     ·
      show Act.put _ (some 22) _ = _
      simp only [Act.put, List.setIfInBounds_toArray, List.set_cons_zero, List.set_cons_succ, i64_w, i32_w]
      rfl
     refine pure_ (i := 9) (N := some 23) (v := ?_) (a' := ?_) #[true, true, true, true, true, true, true, true, true, true, false, false] rfl rfl (any_of HT_.out (by kernel_rfl)) (fun _ _ _ h => h) (Or.inl ⟨by rfl, ?_⟩) ?_ ?_
     rotate_left
     ·
      intro w'
      go_simp
      with_reducible rfl
     rotate_left
     ·
      simp only [Act.put, List.setIfInBounds_toArray, List.set_cons_zero, List.set_cons_succ, i64_w, i32_w]
      rfl
     refine one_ (i := 10) (N := some 7) #[true, true, true, true, true, true, true, true, true, true, true, false] rfl rfl (one_of HT_.out (by kernel_rfl)) (by decide) (fun K hK => ?_)
     refine box_step ?hg (N := 7) ?hd (cs := #[.string (⟨#[]⟩ : ByteArray), .string (⟨#[]⟩ : ByteArray), .string (⟨#[]⟩ : ByteArray), .slice none 0 0, .slice none 0 0]) (t := 25) ?hr ?_; (case hd => rfl); (case hg => rfl); (case hr => first | (go_simp; done) | (go_simp; rfl))
     intro gb166 hg w14 hbox hb
     have n0_ := Aside0.mk (Kd.R_below (by (with_reducible repeat (first | apply Kd.R_alloc | apply Kd.R_drewN | apply Kd.R_drew)); exact HO165.out) hb)
     have n1_ := Aside0.mk (blk_below (g := gb160) (o := .cells #[.string (⟨#[]⟩ : ByteArray), .string (⟨#[]⟩ : ByteArray), .string (⟨#[]⟩ : ByteArray), .slice none 0 0, .slice none 0 0] 25 (0, 0)) (by (with_reducible repeat first | apply zM | apply zE | apply zF); exact BK160.out) hb)
     have n2_ := Aside0.mk (blk_below (g := gb162) (o := .cells #[.int .i64 ((rd_T53 l0 a1).f0), .int .i64 ((rd_T53 l0 a1).f1), .string ((rd_T53 l0 a1).f2), .string ((rd_T53 l0 a1).f3), .string ((rd_T53 l0 a1).f4), .slice A161_5 ((rd_T53 l0 a1).f5).length c161_5] 53 (0, 0)) (by (with_reducible repeat first | apply zM | apply zE | apply zF); exact BK162.out) hb)
     have n3_ := Aside0.mk (below_step (by repeat (first | (with_reducible first | exact HB.out | apply zA | apply zN | apply zD | refine zS ?_ GE160.out | refine zS ?_ GE162.out) | exact HB.out)) hb)
     have n4_ := Aside0.mk (hbox)
     have n5_ := Aside0.mk ((by rw [hg]; exact (below_size (by repeat (first | (with_reducible first | exact HB.out | apply zA | apply zN | apply zD | refine zS ?_ GE160.out | refine zS ?_ GE162.out) | exact HB.out))) : w.heap.size ≤ gb166))
     have n6_ := Aside0.mk ((by rw [hg]; exact (below_size (by repeat (first | (with_reducible first | exact HB.out | apply zA | apply zN | apply zD | refine zS ?_ GE160.out | refine zS ?_ GE162.out) | exact HB.out))) : w.heap.size ≤ gb166))
     have n7_ := Aside0.mk ((by rw [hg]; exact Nat.ne_of_lt (blk_lt (g := gb160) (o := .cells #[.string (⟨#[]⟩ : ByteArray), .string (⟨#[]⟩ : ByteArray), .string (⟨#[]⟩ : ByteArray), .slice none 0 0, .slice none 0 0] 25 (0, 0)) (by (with_reducible repeat first | apply zM | apply zE | apply zF); exact BK160.out)) : gb160 ≠ gb166))
     have n8_ := Aside0.mk ((by rw [hg]; exact Nat.ne_of_gt (blk_lt (g := gb160) (o := .cells #[.string (⟨#[]⟩ : ByteArray), .string (⟨#[]⟩ : ByteArray), .string (⟨#[]⟩ : ByteArray), .slice none 0 0, .slice none 0 0] 25 (0, 0)) (by (with_reducible repeat first | apply zM | apply zE | apply zF); exact BK160.out)) : gb166 ≠ gb160))
     have n9_ := Aside0.mk ((by rw [hg]; exact Nat.ne_of_lt (blk_lt (g := gb162) (o := .cells #[.int .i64 ((rd_T53 l0 a1).f0), .int .i64 ((rd_T53 l0 a1).f1), .string ((rd_T53 l0 a1).f2), .string ((rd_T53 l0 a1).f3), .string ((rd_T53 l0 a1).f4), .slice A161_5 ((rd_T53 l0 a1).f5).length c161_5] 53 (0, 0)) (by (with_reducible repeat first | apply zM | apply zE | apply zF); exact BK162.out)) : gb162 ≠ gb166))
     have n10_ := Aside0.mk ((by rw [hg]; exact Nat.ne_of_gt (blk_lt (g := gb162) (o := .cells #[.int .i64 ((rd_T53 l0 a1).f0), .int .i64 ((rd_T53 l0 a1).f1), .string ((rd_T53 l0 a1).f2), .string ((rd_T53 l0 a1).f3), .string ((rd_T53 l0 a1).f4), .slice A161_5 ((rd_T53 l0 a1).f5).length c161_5] 53 (0, 0)) (by (with_reducible repeat first | apply zM | apply zE | apply zF); exact BK162.out)) : gb166 ≠ gb162))
     clear HO165
     clear BK160
     clear BK162
     clear HB
     have HO165 := n0_
     have BK160 := n1_
     have BK162 := n2_
     have HB := n3_
     have BK166 := n4_
     have GW166 := n5_
     have GE166 := n6_
     have NB160_166 := n7_
     have NB166_160 := n8_
     have NB162_166 := n9_
     have NB166_162 := n10_
     clear n0_ n1_ n2_ n3_ n4_ n5_ n6_ n7_ n8_ n9_ n10_
     clear hb hbox hg
     refine hK.out _ _ ⟨(zC BK162.out 0).trans rfl, (zC BK162.out 1).trans rfl, (zC BK162.out 2).trans rfl, (zC BK162.out 3).trans rfl, (zC BK162.out 4).trans rfl, (zC BK162.out 5).trans rfl⟩ (fun hHeld => ?_)
     clear hK K
     refine norm_ (a' := ?_) ?_ ?_
     rotate_left
     ·
      show Act.put _ (some 7) _ = _
      simp only [Act.put, List.setIfInBounds_toArray, List.set_cons_zero, List.set_cons_succ, i64_w, i32_w]
      rfl
     exact norm_ (by simp only [putAll, Act.put, List.setIfInBounds_toArray, List.set_cons_zero, List.set_cons_succ]) (hCont (.slice Ao13 t163.length co13, gb166) _ ⟨hHeld, (by (with_reducible repeat (first | apply Kd.R_alloc | apply Kd.R_drewN | apply Kd.R_drew)); exact HO165.out), (by (with_reducible repeat first | apply zM | apply zE | apply zF); exact BK160.out), (by (with_reducible repeat first | apply zM | apply zE | apply zF); exact BK162.out), (by (with_reducible repeat first | apply zM | apply zE | apply zF); exact BK166.out), GW166.out, GE166.out, NB160_166.out, NB166_160.out, NB162_166.out, NB166_162.out, (by repeat (first | (with_reducible first | exact HB.out | apply zA | apply zN | apply zD | refine zS ?_ GE160.out | refine zS ?_ GE162.out | refine zS ?_ GE166.out) | exact HB.out))⟩)
    ·
     skip
     refine box_step ?hg (N := 7) ?hd (cs := #[.string (⟨#[]⟩ : ByteArray), .string (⟨#[]⟩ : ByteArray), .string (⟨#[]⟩ : ByteArray), .slice none 0 0, .slice none 0 0]) (t := 25) ?hr ?_; (case hd => rfl); (case hg => rfl); (case hr => first | (go_simp; done) | (go_simp; rfl))
     intro gb166 hg w12 hbox hb
     have n0_ := Aside0.mk (blk_below (g := gb160) (o := .cells #[.string (⟨#[]⟩ : ByteArray), .string (⟨#[]⟩ : ByteArray), .string (⟨#[]⟩ : ByteArray), .slice none 0 0, .slice none 0 0] 25 (0, 0)) (by (with_reducible repeat first | apply zM | apply zE | apply zF); exact BK160.out) hb)
     have n1_ := Aside0.mk (blk_below (g := gb162) (o := .cells #[.int .i64 ((rd_T53 l0 a1).f0), .int .i64 ((rd_T53 l0 a1).f1), .string ((rd_T53 l0 a1).f2), .string ((rd_T53 l0 a1).f3), .string ((rd_T53 l0 a1).f4), .slice A161_5 ((rd_T53 l0 a1).f5).length c161_5] 53 (0, 0)) (by (with_reducible repeat first | apply zM | apply zE | apply zF); exact BK162.out) hb)
     have n2_ := Aside0.mk (below_step (by repeat (first | (with_reducible first | exact HB.out | apply zA | apply zN | apply zD | refine zS ?_ GE160.out | refine zS ?_ GE162.out) | exact HB.out)) hb)
     have n3_ := Aside0.mk (hbox)
     have n4_ := Aside0.mk ((by rw [hg]; exact (below_size (by repeat (first | (with_reducible first | exact HB.out | apply zA | apply zN | apply zD | refine zS ?_ GE160.out | refine zS ?_ GE162.out) | exact HB.out))) : w.heap.size ≤ gb166))
     have n5_ := Aside0.mk ((by rw [hg]; exact (below_size (by repeat (first | (with_reducible first | exact HB.out | apply zA | apply zN | apply zD | refine zS ?_ GE160.out | refine zS ?_ GE162.out) | exact HB.out))) : w.heap.size ≤ gb166))
     have n6_ := Aside0.mk ((by rw [hg]; exact Nat.ne_of_lt (blk_lt (g := gb160) (o := .cells #[.string (⟨#[]⟩ : ByteArray), .string (⟨#[]⟩ : ByteArray), .string (⟨#[]⟩ : ByteArray), .slice none 0 0, .slice none 0 0] 25 (0, 0)) (by (with_reducible repeat first | apply zM | apply zE | apply zF); exact BK160.out)) : gb160 ≠ gb166))
     have n7_ := Aside0.mk ((by rw [hg]; exact Nat.ne_of_gt (blk_lt (g := gb160) (o := .cells #[.string (⟨#[]⟩ : ByteArray), .string (⟨#[]⟩ : ByteArray), .string (⟨#[]⟩ : ByteArray), .slice none 0 0, .slice none 0 0] 25 (0, 0)) (by (with_reducible repeat first | apply zM | apply zE | apply zF); exact BK160.out)) : gb166 ≠ gb160))
     have n8_ := Aside0.mk ((by rw [hg]; exact Nat.ne_of_lt (blk_lt (g := gb162) (o := .cells #[.int .i64 ((rd_T53 l0 a1).f0), .int .i64 ((rd_T53 l0 a1).f1), .string ((rd_T53 l0 a1).f2), .string ((rd_T53 l0 a1).f3), .string ((rd_T53 l0 a1).f4), .slice A161_5 ((rd_T53 l0 a1).f5).length c161_5] 53 (0, 0)) (by (with_reducible repeat first | apply zM | apply zE | apply zF); exact BK162.out)) : gb162 ≠ gb166))
     have n9_ := Aside0.mk ((by rw [hg]; exact Nat.ne_of_gt (blk_lt (g := gb162) (o := .cells #[.int .i64 ((rd_T53 l0 a1).f0), .int .i64 ((rd_T53 l0 a1).f1), .string ((rd_T53 l0 a1).f2), .string ((rd_T53 l0 a1).f3), .string ((rd_T53 l0 a1).f4), .slice A161_5 ((rd_T53 l0 a1).f5).length c161_5] 53 (0, 0)) (by (with_reducible repeat first | apply zM | apply zE | apply zF); exact BK162.out)) : gb166 ≠ gb162))
     clear BK160
     clear BK162
     clear HB
     have BK160 := n0_
     have BK162 := n1_
     have HB := n2_
     have BK166 := n3_
     have GW166 := n4_
     have GE166 := n5_
     have NB160_166 := n6_
     have NB166_160 := n7_
     have NB162_166 := n8_
     have NB166_162 := n9_
     clear n0_ n1_ n2_ n3_ n4_ n5_ n6_ n7_ n8_ n9_
     clear hb hbox hg
     refine hK.out _ _ ⟨(zC BK162.out 0).trans rfl, (zC BK162.out 1).trans rfl, (zC BK162.out 2).trans rfl, (zC BK162.out 3).trans rfl, (zC BK162.out 4).trans rfl, (zC BK162.out 5).trans rfl⟩ (fun hHeld => ?_)
     clear hK K
     refine norm_ (a' := ?_) ?_ ?_
     rotate_left
     ·
      show Act.put _ (some 7) _ = _
      simp only [Act.put, List.setIfInBounds_toArray, List.set_cons_zero, List.set_cons_succ, i64_w, i32_w]
      rfl
     refine one_ (i := 8) (N := some 22) #[true, true, true, true, true, true, true, true, true, false, true, false] rfl rfl (one_of HT_.out (by kernel_rfl)) (by decide) (fun K hK => ?_)
     refine goes_ Try.func47 (by kernel_rfl) rfl #[.slice A161_5 ((rd_T53 l0 a1).f5).length c161_5] (by rfl) rfl rfl (by (try simp only [List.map_toArray, List.map_cons, List.map_nil]); first | done | rfl | (simp only [List.length_drop, List.length_take]; rfl)) ?_
     with_reducible refine (api_Attr.calls _ _ ((rd_T53 l0 a1).f5) t163 _ ?side1 ?side2 A5.out).mono ?_
     (case side1 => repeat (first | exact (Kd.C_below HR161_5.out HB.out) | (with_reducible refine Kd.C_alloc ?_ _) | (with_reducible refine Kd.C_drewN ?_ _) | (with_reducible refine Kd.C_drew ?_)))
     (case side2 => exact HC161_5.out)
     rintro e w13 ⟨v164, rfl, ho0, hb⟩
     refine ⟨_, rfl, ?_⟩
     have n0_ := Aside0.mk (Kd.R_lower ho0 (below_size (by repeat (first | (with_reducible first | exact HB.out | apply zA | apply zN | apply zD | refine zS ?_ GE160.out | refine zS ?_ GE162.out | refine zS ?_ GE166.out) | exact HB.out))))
     have n1_ := Aside0.mk (blk_below (g := gb160) (o := .cells #[.string (⟨#[]⟩ : ByteArray), .string (⟨#[]⟩ : ByteArray), .string (⟨#[]⟩ : ByteArray), .slice none 0 0, .slice none 0 0] 25 (0, 0)) (by (with_reducible repeat first | apply zM | apply zE | apply zF); exact BK160.out) hb)
     have n2_ := Aside0.mk (blk_below (g := gb162) (o := .cells #[.int .i64 ((rd_T53 l0 a1).f0), .int .i64 ((rd_T53 l0 a1).f1), .string ((rd_T53 l0 a1).f2), .string ((rd_T53 l0 a1).f3), .string ((rd_T53 l0 a1).f4), .slice A161_5 ((rd_T53 l0 a1).f5).length c161_5] 53 (0, 0)) (by (with_reducible repeat first | apply zM | apply zE | apply zF); exact BK162.out) hb)
     have n3_ := Aside0.mk (blk_below (g := gb166) (o := .cells #[.string (⟨#[]⟩ : ByteArray), .string (⟨#[]⟩ : ByteArray), .string (⟨#[]⟩ : ByteArray), .slice none 0 0, .slice none 0 0] 25 (0, 0)) (by (with_reducible repeat first | apply zM | apply zE | apply zF); exact BK166.out) hb)
     have n4_ := Aside0.mk (below_step (by repeat (first | (with_reducible first | exact HB.out | apply zA | apply zN | apply zD | refine zS ?_ GE160.out | refine zS ?_ GE162.out | refine zS ?_ GE166.out) | exact HB.out)) hb)
     clear BK160
     clear BK162
     clear BK166
     clear HB
     have HO165 := n0_
     have BK160 := n1_
     have BK162 := n2_
     have BK166 := n3_
     have HB := n4_
     clear n0_ n1_ n2_ n3_ n4_
     (try clear hb)
     (try clear hb2)
     (try clear hk)
     (try clear hi)
     (try clear ho0)
     obtain ⟨Ao14, co14, eo14⟩ := Kd.R_slice HO165.out
     (first | subst eo14 | (injection eo14 with f1_ f2_ f3_; have f4_ := f1_.symm; have f5_ := f3_.symm; clear f1_ f2_ f3_; subst f4_; subst f5_))
     refine hK.out _ _ ⟨(zC BK162.out 0).trans rfl, (zC BK162.out 1).trans rfl, (zC BK162.out 2).trans rfl, (zC BK162.out 3).trans rfl, (zC BK162.out 4).trans rfl, (zC BK162.out 5).trans rfl⟩ (fun hHeld => ?_)
     clear hK K
     refine norm_ (a' := ?_) ?_ ?_
     rotate_left
     ·
      show Act.put _ (some 22) _ = _
      simp only [Act.put, List.setIfInBounds_toArray, List.set_cons_zero, List.set_cons_succ, i64_w, i32_w]
      rfl
     refine pure_ (i := 9) (N := some 23) (v := ?_) (a' := ?_) #[true, true, true, true, true, true, true, true, true, true, true, false] rfl rfl (any_of HT_.out (by kernel_rfl)) (fun _ _ _ h => h) (Or.inl ⟨by rfl, ?_⟩) ?_ ?_
     rotate_left
     ·
      intro w'
      go_simp
      with_reducible rfl
     rotate_left
     ·
      simp only [Act.put, List.setIfInBounds_toArray, List.set_cons_zero, List.set_cons_succ, i64_w, i32_w]
      rfl
     exact norm_ (by simp only [putAll, Act.put, List.setIfInBounds_toArray, List.set_cons_zero, List.set_cons_succ]) (hCont (.slice Ao14 t163.length co14, gb166) _ ⟨hHeld, (by (with_reducible repeat (first | apply Kd.R_alloc | apply Kd.R_drewN | apply Kd.R_drew)); exact HO165.out), (by (with_reducible repeat first | apply zM | apply zE | apply zF); exact BK160.out), (by (with_reducible repeat first | apply zM | apply zE | apply zF); exact BK162.out), (by (with_reducible repeat first | apply zM | apply zE | apply zF); exact BK166.out), GW166.out, GE166.out, NB160_166.out, NB166_160.out, NB162_166.out, NB166_162.out, (by repeat (first | (with_reducible first | exact HB.out | apply zA | apply zN | apply zD | refine zS ?_ GE160.out | refine zS ?_ GE162.out | refine zS ?_ GE166.out) | exact HB.out))⟩)
   rintro ⟨v164, gb166⟩ w15 ⟨hS_, h0_, h1_, h2_, h3_, h4_, h5_, h6_, h7_, h8_, h9_, h10_⟩
   have n0_ : Aside0 (Kd.R k69 69 w15 w.heap.size (fun _ => True) v164 t163) := ⟨h0_⟩
   have n1_ : Aside0 (w15.heap[gb160]? = some (.cells #[.string (⟨#[]⟩ : ByteArray), .string (⟨#[]⟩ : ByteArray), .string (⟨#[]⟩ : ByteArray), .slice none 0 0, .slice none 0 0] 25 (0, 0))) := ⟨h1_⟩
   have n2_ : Aside0 (w15.heap[gb162]? = some (.cells #[.int .i64 ((rd_T53 l0 a1).f0), .int .i64 ((rd_T53 l0 a1).f1), .string ((rd_T53 l0 a1).f2), .string ((rd_T53 l0 a1).f3), .string ((rd_T53 l0 a1).f4), .slice A161_5 ((rd_T53 l0 a1).f5).length c161_5] 53 (0, 0))) := ⟨h2_⟩
   have n3_ : Aside0 (w15.heap[gb166]? = some (.cells #[.string (⟨#[]⟩ : ByteArray), .string (⟨#[]⟩ : ByteArray), .string (⟨#[]⟩ : ByteArray), .slice none 0 0, .slice none 0 0] 25 (0, 0))) := ⟨h3_⟩
   have n4_ : Aside0 (w.heap.size ≤ gb166) := ⟨h4_⟩
   have n5_ : Aside0 (w.heap.size ≤ gb166) := ⟨h5_⟩
   have n6_ : Aside0 (gb160 ≠ gb166) := ⟨h6_⟩
   have n7_ : Aside0 (gb166 ≠ gb160) := ⟨h7_⟩
   have n8_ : Aside0 (gb162 ≠ gb166) := ⟨h8_⟩
   have n9_ : Aside0 (gb166 ≠ gb162) := ⟨h9_⟩
   have n10_ : Aside0 (Below w.heap.size w w15) := ⟨h10_⟩
   clear BK160
   clear BK162
   clear HB
   clear h0_ h1_ h2_ h3_ h4_ h5_ h6_ h7_ h8_ h9_ h10_
   have HO165 := n0_
   have BK160 := n1_
   have BK162 := n2_
   have BK166 := n3_
   have GW166 := n4_
   have GE166 := n5_
   have NB160_166 := n6_
   have NB166_160 := n7_
   have NB162_166 := n8_
   have NB166_162 := n9_
   have HB := n10_
   clear n0_ n1_ n2_ n3_ n4_ n5_ n6_ n7_ n8_ n9_ n10_
   have hHeld : w15.cell? ⟨gb162, 0, none⟩ = some (.int .i64 ((rd_T53 l0 a1).f0)) ∧ w15.cell? ⟨gb162, 1, none⟩ = some (.int .i64 ((rd_T53 l0 a1).f1)) ∧ w15.cell? ⟨gb162, 2, none⟩ = some (.string ((rd_T53 l0 a1).f2)) ∧ w15.cell? ⟨gb162, 3, none⟩ = some (.string ((rd_T53 l0 a1).f3)) ∧ w15.cell? ⟨gb162, 4, none⟩ = some (.string ((rd_T53 l0 a1).f4)) ∧ w15.cell? ⟨gb162, 5, none⟩ = some (.slice A161_5 ((rd_T53 l0 a1).f5).length c161_5) := hS_
   obtain ⟨Ao16, co16, eo16⟩ := Kd.R_slice HO165.out
   (first | subst eo16 | (injection eo16 with f1_ f2_ f3_; have f4_ := f1_.symm; have f5_ := f3_.symm; clear f1_ f2_ f3_; subst f4_; subst f5_))
   refine norm_ (a' := ?_) ?_ ?_
   rotate_left
   ·
    simp only [putAll, Act.put, List.setIfInBounds_toArray, List.set_cons_zero, List.set_cons_succ]
    rfl
   refine one_ (i := 11) (N := none) #[true, true, true, true, true, true, true, true, true, true, true, true] rfl rfl (one_of HT_.out (by kernel_rfl)) (by decide) (fun K hK => ?_)
   have hs17 : w15.cell? ⟨gb166, 0, none⟩ = some (.string (⟨#[]⟩ : ByteArray)) := (zC BK166.out 0).trans rfl
   have hfs17 := zR BK166.out 0
   have hns17_0 := NB160_166.out
   have hns17_1 := NB162_166.out
   have hms17_0 := NB166_160.out
   have hms17_1 := NB166_162.out
   have hs18 : w15.cell? ⟨gb166, 1, none⟩ = some (.string (⟨#[]⟩ : ByteArray)) := (zC BK166.out 1).trans rfl
   have hfs18 := zR BK166.out 1
   have hns18_0 := NB160_166.out
   have hns18_1 := NB162_166.out
   have hms18_0 := NB166_160.out
   have hms18_1 := NB166_162.out
   have hs19 : w15.cell? ⟨gb166, 2, none⟩ = some (.string (⟨#[]⟩ : ByteArray)) := (zC BK166.out 2).trans rfl
   have hfs19 := zR BK166.out 2
   have hns19_0 := NB160_166.out
   have hns19_1 := NB162_166.out
   have hms19_0 := NB166_160.out
   have hms19_1 := NB166_162.out
   have hs20 : w15.cell? ⟨gb166, 3, none⟩ = some (.slice none 0 0) := (zC BK166.out 3).trans rfl
   have hfs20 := zR BK166.out 3
   have hns20_0 := NB160_166.out
   have hns20_1 := NB162_166.out
   have hms20_0 := NB166_160.out
   have hms20_1 := NB166_162.out
   have hs21 : w15.cell? ⟨gb166, 4, none⟩ = some (.slice none 0 0) := (zC BK166.out 4).trans rfl
   have hfs21 := zR BK166.out 4
   have hns21_0 := NB160_166.out
   have hns21_1 := NB162_166.out
   have hms21_0 := NB166_160.out
   have hms21_1 := NB166_162.out
   refine skip_ (w1 := ?_) (by rfl) rfl ?_ ?_
   rotate_left
   ·
    go_simp
    rfl
   refine hK.out _ _ ⟨((cell_far (p := ⟨gb166, _, none⟩) NB162_166.out _).trans (((cell_far (p := ⟨gb166, _, none⟩) NB162_166.out _).trans (((cell_far (p := ⟨gb166, _, none⟩) NB162_166.out _).trans (((cell_far (p := ⟨gb166, _, none⟩) NB162_166.out _).trans (((cell_far (p := ⟨gb166, _, none⟩) NB162_166.out _).trans (hHeld.1)))))))))), ((cell_far (p := ⟨gb166, _, none⟩) NB162_166.out _).trans (((cell_far (p := ⟨gb166, _, none⟩) NB162_166.out _).trans (((cell_far (p := ⟨gb166, _, none⟩) NB162_166.out _).trans (((cell_far (p := ⟨gb166, _, none⟩) NB162_166.out _).trans (((cell_far (p := ⟨gb166, _, none⟩) NB162_166.out _).trans (hHeld.2.1)))))))))), ((cell_far (p := ⟨gb166, _, none⟩) NB162_166.out _).trans (((cell_far (p := ⟨gb166, _, none⟩) NB162_166.out _).trans (((cell_far (p := ⟨gb166, _, none⟩) NB162_166.out _).trans (((cell_far (p := ⟨gb166, _, none⟩) NB162_166.out _).trans (((cell_far (p := ⟨gb166, _, none⟩) NB162_166.out _).trans (hHeld.2.2.1)))))))))), ((cell_far (p := ⟨gb166, _, none⟩) NB162_166.out _).trans (((cell_far (p := ⟨gb166, _, none⟩) NB162_166.out _).trans (((cell_far (p := ⟨gb166, _, none⟩) NB162_166.out _).trans (((cell_far (p := ⟨gb166, _, none⟩) NB162_166.out _).trans (((cell_far (p := ⟨gb166, _, none⟩) NB162_166.out _).trans (hHeld.2.2.2.1)))))))))), ((cell_far (p := ⟨gb166, _, none⟩) NB162_166.out _).trans (((cell_far (p := ⟨gb166, _, none⟩) NB162_166.out _).trans (((cell_far (p := ⟨gb166, _, none⟩) NB162_166.out _).trans (((cell_far (p := ⟨gb166, _, none⟩) NB162_166.out _).trans (((cell_far (p := ⟨gb166, _, none⟩) NB162_166.out _).trans (hHeld.2.2.2.2.1)))))))))), ((cell_far (p := ⟨gb166, _, none⟩) NB162_166.out _).trans (((cell_far (p := ⟨gb166, _, none⟩) NB162_166.out _).trans (((cell_far (p := ⟨gb166, _, none⟩) NB162_166.out _).trans (((cell_far (p := ⟨gb166, _, none⟩) NB162_166.out _).trans (((cell_far (p := ⟨gb166, _, none⟩) NB162_166.out _).trans (hHeld.2.2.2.2.2))))))))))⟩ (fun hHeld => ?_)
   clear hK K
   refine done_ (done_of HT_.out (by kernel_rfl)) ?_
   try go_wp2
   go_loopg [8] k (fun kq v8 w' => ∃ (x8_1 : Int) (x167004_1 : List (S25)) (u167004 : Value), v8 = .int .i64 x8_1 ∧ Aside0 (flat_build.l0 kq l0 a1 x8_1 ((rd_T53 l0 a1).f2) ((rd_T53 l0 a1).f3) ((rd_T53 l0 a1).f4) t163 x167004_1 = some (r1, r2, r3, r4, r5, r6)) ∧ Aside0 (kq ≤ k) ∧ Aside0 (Kd.R k69 69 w' w.heap.size (fun _ => True) (.slice Ao16 t163.length co16) t163) ∧ Aside0 (Kd.R k25 25 w' w.heap.size (fun k_ => some k_ ≠ ((.slice Ao16 t163.length co16) : Value).ownBlock ∧ k_ ≠ gb160 ∧ k_ ≠ gb166) u167004 x167004_1) ∧ Aside0 (w'.heap[gb160]? = some (.cells #[.string (⟨#[]⟩ : ByteArray), .string (⟨#[]⟩ : ByteArray), .string (⟨#[]⟩ : ByteArray), (.slice none 0 0), (.slice none 0 0)] 25 (0, 0))) ∧ Aside0 (w'.heap[gb162]? = some (.cells #[.int .i64 ((rd_T53 l0 a1).f0), .int .i64 ((rd_T53 l0 a1).f1), .string ((rd_T53 l0 a1).f2), .string ((rd_T53 l0 a1).f3), .string ((rd_T53 l0 a1).f4), (.slice A161_5 ((rd_T53 l0 a1).f5).length c161_5)] 53 (0, 0))) ∧ Aside0 (w'.heap[gb166]? = some (.cells #[.string ((rd_T53 l0 a1).f2), .string ((rd_T53 l0 a1).f3), .string ((rd_T53 l0 a1).f4), (.slice Ao16 t163.length co16), u167004] 25 (0, 0))) ∧ Aside0 (Below w.heap.size w w'))
   case atStart => exact ⟨(wrap64 (a1 + 1)), (([] : List (S25))), (.slice none 0 0), (by first | rfl | (simp; done) | (simp [*]; done)), H', ⟨Nat.le_refl _⟩, ⟨by (with_reducible repeat (first | apply Kd.R_alloc | apply Kd.R_drewN | apply Kd.R_drew)); exact Kd.R_mono (Kd.R_far (p := ⟨gb166, 4, none⟩) (Kd.R_far (p := ⟨gb166, 3, none⟩) (Kd.R_far (p := ⟨gb166, 2, none⟩) (Kd.R_far (p := ⟨gb166, 1, none⟩) (Kd.R_far (p := ⟨gb166, 0, none⟩) (Kd.R_types HO165.out BK166.out (by decide)) (fun _ hk => hk.2) (.string ((rd_T53 l0 a1).f2))) (fun _ hk => hk.2) (.string ((rd_T53 l0 a1).f3))) (fun _ hk => hk.2) (.string ((rd_T53 l0 a1).f4))) (fun _ hk => hk.2) (.slice Ao16 t163.length co16)) (fun _ hk => hk.2) (.slice none 0 0)) (fun _ hk => trivial)⟩, ⟨by first | exact Kd.R_nil _ _ _ _ _ | exact Kd.N_nil _ _ _ _ _ | exact Kd.V_nil _ _ _ _ _ | exact Kd.Q_nil _ _ _ _ _ | exact Kd.S_nil _ _ _ _ _⟩, ⟨by (with_reducible repeat first | apply zM | apply zE | apply zF); refine zG ?_ NB160_166.out _; (with_reducible repeat first | apply zM | apply zE | apply zF); refine zG ?_ NB160_166.out _; (with_reducible repeat first | apply zM | apply zE | apply zF); refine zG ?_ NB160_166.out _; (with_reducible repeat first | apply zM | apply zE | apply zF); refine zG ?_ NB160_166.out _; (with_reducible repeat first | apply zM | apply zE | apply zF); refine zG ?_ NB160_166.out _; (with_reducible repeat first | apply zM | apply zE | apply zF); exact BK160.out⟩, ⟨by (with_reducible repeat first | apply zM | apply zE | apply zF); refine zG ?_ NB162_166.out _; (with_reducible repeat first | apply zM | apply zE | apply zF); refine zG ?_ NB162_166.out _; (with_reducible repeat first | apply zM | apply zE | apply zF); refine zG ?_ NB162_166.out _; (with_reducible repeat first | apply zM | apply zE | apply zF); refine zG ?_ NB162_166.out _; (with_reducible repeat first | apply zM | apply zE | apply zF); refine zG ?_ NB162_166.out _; (with_reducible repeat first | apply zM | apply zE | apply zF); exact BK162.out⟩, ⟨by (with_reducible repeat first | apply zM | apply zE | apply zF); refine zP (cs := #[.string ((rd_T53 l0 a1).f2), .string ((rd_T53 l0 a1).f3), .string ((rd_T53 l0 a1).f4), .slice Ao16 t163.length co16, .slice none 0 0]) ?_ 4 _ rfl; (with_reducible repeat first | apply zM | apply zE | apply zF); refine zP (cs := #[.string ((rd_T53 l0 a1).f2), .string ((rd_T53 l0 a1).f3), .string ((rd_T53 l0 a1).f4), .slice none 0 0, .slice none 0 0]) ?_ 3 _ rfl; (with_reducible repeat first | apply zM | apply zE | apply zF); refine zP (cs := #[.string ((rd_T53 l0 a1).f2), .string ((rd_T53 l0 a1).f3), .string (⟨#[]⟩ : ByteArray), .slice none 0 0, .slice none 0 0]) ?_ 2 _ rfl; (with_reducible repeat first | apply zM | apply zE | apply zF); refine zP (cs := #[.string ((rd_T53 l0 a1).f2), .string (⟨#[]⟩ : ByteArray), .string (⟨#[]⟩ : ByteArray), .slice none 0 0, .slice none 0 0]) ?_ 1 _ rfl; (with_reducible repeat first | apply zM | apply zE | apply zF); refine zP (cs := #[.string (⟨#[]⟩ : ByteArray), .string (⟨#[]⟩ : ByteArray), .string (⟨#[]⟩ : ByteArray), .slice none 0 0, .slice none 0 0]) ?_ 0 _ rfl; (with_reducible repeat first | apply zM | apply zE | apply zF); exact BK166.out⟩, ⟨by repeat (first | (with_reducible first | exact HB.out | apply zA | apply zN | apply zD | refine zS ?_ GE160.out | refine zS ?_ GE162.out | refine zS ?_ GE166.out) | exact HB.out)⟩⟩
   case round =>
    clear H'
    try clear c1
    try clear p1
    try clear q1
    try clear hx1
    try clear p2
    try clear c3
    try clear c3b0
    try clear c4
    try clear c4b0
    try clear p6
    try clear c8
    try clear c16
    try clear p16
    try clear q16
    try clear hx16
    try clear hx161_0
    try clear hx161_1
    try clear hx161_2
    try clear hx161_3
    try clear hx161_4
    try clear hx161_5
    try clear p161
    try clear q161
    (try clear BK160); (try clear BK162); (try clear BK166)
    obtain ⟨x8_1, x167004_1, u167004, rfl, HA, HK1, HO_167003, HO_167004, BK160, BK162, BK166, HB⟩ := hrel
    cases gk with
    | zero => exact absurd HA.out (by simp [flat_build.l0])
    | succ k1 =>
     have H := HA.out
     clear HA
     simp only [flat_build.l0] at H
     by_cases c22 : x8_1 < (l0.length : Int)
     ·
      rw [if_pos c22] at H
      have c22b0 : decide (x8_1 < (l0.length : Int)) = true := decide_eq_true c22
      clear c22
      by_cases c23 : 0 ≤ x8_1
      ·
       rw [if_pos c23] at H
       have c23b0 : decide (0 ≤ x8_1) = true := decide_eq_true c23
       clear c23
       by_cases c24 : ((rd_T53 l0 x8_1).f1) = (wrap64 (a1 + 1))
       ·
        rw [if_pos c24] at H
        have c24b0 : (((rd_T53 l0 x8_1).f1) == (wrap64 (a1 + 1))) = true := beq_iff_eq.mpr c24
        have c24b1 : (((rd_T53 l0 x8_1).f1) != (wrap64 (a1 + 1))) = false := bne_eq_false_iff_eq.mpr c24
        clear c24
        replace H := Option.bind_eq_some_iff.mp H
        obtain ⟨⟨t169, t170, t171, t172, t175, t178⟩, A250, H⟩ := H
        replace H : (if x167004_1.length < 1466015503701 then (flat_build.l0 k1 l0 a1 t178 ((rd_T53 l0 a1).f2) ((rd_T53 l0 a1).f3) ((rd_T53 l0 a1).f4) t163 (x167004_1 ++ [(⟨t169, t170, t171, t172, t175⟩ : S25)])) else (none)) = some (r1, r2, r3, r4, r5, r6) := H
        have A25 := Aside0.mk A250
        clear A250
        by_cases c26 : x167004_1.length < 1466015503701
        ·
         rw [if_pos c26] at H
         have LMc26 := Aside0.mk c26
         clear c26
         obtain ⟨y179, hy179⟩ : ∃ y_ : List (S25), y_ = (x167004_1 ++ [(⟨t169, t170, t171, t172, t175⟩ : S25)]) := ⟨_, rfl⟩
         replace H : (flat_build.l0 k1 l0 a1 t178 ((rd_T53 l0 a1).f2) ((rd_T53 l0 a1).f3) ((rd_T53 l0 a1).f4) t163 y179) = some (r1, r2, r3, r4, r5, r6) := by first | (rw [hy179]; with_reducible exact H) | (have H2_ := (Option.bind_some _ _).symm.trans H; rw [hy179]; with_reducible exact H2_) | (have H2_ := (Option.bind_some _ _).symm.trans H; with_reducible exact H2_) | with_reducible exact H | (rw [hy179]; exact H) | exact H
         have Ny179 := Aside0.mk hy179
         clear hy179
         have H' := Aside0.mk H
         clear H
         have p167 : 0 ≤ (x8_1 : Int) := of_decide_eq_true (by first | (with_reducible assumption) | assumption)
         have q167 : x8_1 < (l0.length : Int) := of_decide_eq_true (by first | (with_reducible assumption) | assumption)
         obtain ⟨ad167, A167_5, c167_5, e167, hx167_0, hx167_1, hx167_2, hx167_3, hx167_4, hx167_5, hl167_5, hi167_5⟩ := at_T53 HR0.out x8_1 p167 q167
         obtain rfl : ad161 = ad167 := (by injection e167)
         replace hx167_0 := (HB.out.cell (World.block_lt_of_cell? w _ hx167_0)).trans hx167_0
         replace hx167_1 := (HB.out.cell (World.block_lt_of_cell? w _ hx167_1)).trans hx167_1
         replace hx167_2 := (HB.out.cell (World.block_lt_of_cell? w _ hx167_2)).trans hx167_2
         replace hx167_3 := (HB.out.cell (World.block_lt_of_cell? w _ hx167_3)).trans hx167_3
         replace hx167_4 := (HB.out.cell (World.block_lt_of_cell? w _ hx167_4)).trans hx167_4
         replace hx167_5 := (HB.out.cell (World.block_lt_of_cell? w _ hx167_5)).trans hx167_5
         have HR167_5 := Aside0.mk hi167_5
         have HC167_5 := Aside0.mk hl167_5
         clear hi167_5 hl167_5
         replace p167 := eq_true p167
         replace q167 := eq_true q167
         go_wp2_with (first | ((with_reducible refine gate_dst (N := 9) rfl ?_); refine box_event ?hg (N := 9) ?hd (cs := #[.string (⟨#[]⟩ : ByteArray), .string (⟨#[]⟩ : ByteArray), .string (⟨#[]⟩ : ByteArray), .slice none 0 0, .slice none 0 0]) (t := 25) ?hr ?_; (case hd => rfl); (case hg => rfl); (case hr => first | (go_simp; done) | (go_simp; rfl)); intro gb168 hg w27 hbox hb; have n0_ := Aside0.mk (Kd.R_below (by (with_reducible repeat (first | apply Kd.R_alloc | apply Kd.R_drewN | apply Kd.R_drew)); exact HO_167003.out) hb); have n1_ := Aside0.mk (Kd.R_below (Kd.R_elderB (by (with_reducible repeat (first | apply Kd.R_alloc | apply Kd.R_drewN | apply Kd.R_drew)); exact HO_167004.out) gb168 (Nat.le_of_eq hg.symm)) hb); have n2_ := Aside0.mk (blk_below (g := gb160) (o := .cells #[.string (⟨#[]⟩ : ByteArray), .string (⟨#[]⟩ : ByteArray), .string (⟨#[]⟩ : ByteArray), .slice none 0 0, .slice none 0 0] 25 (0, 0)) (by (with_reducible repeat first | apply zM | apply zE | apply zF); exact BK160.out) hb); have n3_ := Aside0.mk (blk_below (g := gb162) (o := .cells #[.int .i64 ((rd_T53 l0 a1).f0), .int .i64 ((rd_T53 l0 a1).f1), .string ((rd_T53 l0 a1).f2), .string ((rd_T53 l0 a1).f3), .string ((rd_T53 l0 a1).f4), .slice A161_5 ((rd_T53 l0 a1).f5).length c161_5] 53 (0, 0)) (by (with_reducible repeat first | apply zM | apply zE | apply zF); exact BK162.out) hb); have n4_ := Aside0.mk (blk_below (g := gb166) (o := .cells #[.string ((rd_T53 l0 a1).f2), .string ((rd_T53 l0 a1).f3), .string ((rd_T53 l0 a1).f4), .slice Ao16 t163.length co16, u167004] 25 (0, 0)) (by (with_reducible repeat first | apply zM | apply zE | apply zF); exact BK166.out) hb); have n5_ := Aside0.mk (below_step (by repeat (first | (with_reducible first | exact HB.out | apply zA | apply zN | apply zD | refine zS ?_ GE160.out | refine zS ?_ GE162.out | refine zS ?_ GE166.out) | exact HB.out)) hb); have n6_ := Aside0.mk (hbox); have n7_ := Aside0.mk ((by rw [hg]; exact (below_size (by repeat (first | (with_reducible first | exact HB.out | apply zA | apply zN | apply zD | refine zS ?_ GE160.out | refine zS ?_ GE162.out | refine zS ?_ GE166.out) | exact HB.out))) : w.heap.size ≤ gb168)); have n8_ := Aside0.mk ((by rw [hg]; exact (below_size (by repeat (first | (with_reducible first | exact HB.out | apply zA | apply zN | apply zD | refine zS ?_ GE160.out | refine zS ?_ GE162.out | refine zS ?_ GE166.out) | exact HB.out))) : w.heap.size ≤ gb168)); have n9_ := Aside0.mk ((by rw [hg]; exact Nat.ne_of_lt (blk_lt (g := gb160) (o := .cells #[.string (⟨#[]⟩ : ByteArray), .string (⟨#[]⟩ : ByteArray), .string (⟨#[]⟩ : ByteArray), .slice none 0 0, .slice none 0 0] 25 (0, 0)) (by (with_reducible repeat first | apply zM | apply zE | apply zF); exact BK160.out)) : gb160 ≠ gb168)); have n10_ := Aside0.mk ((by rw [hg]; exact Nat.ne_of_gt (blk_lt (g := gb160) (o := .cells #[.string (⟨#[]⟩ : ByteArray), .string (⟨#[]⟩ : ByteArray), .string (⟨#[]⟩ : ByteArray), .slice none 0 0, .slice none 0 0] 25 (0, 0)) (by (with_reducible repeat first | apply zM | apply zE | apply zF); exact BK160.out)) : gb168 ≠ gb160)); have n11_ := Aside0.mk ((by rw [hg]; exact Nat.ne_of_lt (blk_lt (g := gb162) (o := .cells #[.int .i64 ((rd_T53 l0 a1).f0), .int .i64 ((rd_T53 l0 a1).f1), .string ((rd_T53 l0 a1).f2), .string ((rd_T53 l0 a1).f3), .string ((rd_T53 l0 a1).f4), .slice A161_5 ((rd_T53 l0 a1).f5).length c161_5] 53 (0, 0)) (by (with_reducible repeat first | apply zM | apply zE | apply zF); exact BK162.out)) : gb162 ≠ gb168)); have n12_ := Aside0.mk ((by rw [hg]; exact Nat.ne_of_gt (blk_lt (g := gb162) (o := .cells #[.int .i64 ((rd_T53 l0 a1).f0), .int .i64 ((rd_T53 l0 a1).f1), .string ((rd_T53 l0 a1).f2), .string ((rd_T53 l0 a1).f3), .string ((rd_T53 l0 a1).f4), .slice A161_5 ((rd_T53 l0 a1).f5).length c161_5] 53 (0, 0)) (by (with_reducible repeat first | apply zM | apply zE | apply zF); exact BK162.out)) : gb168 ≠ gb162)); have n13_ := Aside0.mk ((by rw [hg]; exact Nat.ne_of_lt (blk_lt (g := gb166) (o := .cells #[.string ((rd_T53 l0 a1).f2), .string ((rd_T53 l0 a1).f3), .string ((rd_T53 l0 a1).f4), .slice Ao16 t163.length co16, u167004] 25 (0, 0)) (by (with_reducible repeat first | apply zM | apply zE | apply zF); exact BK166.out)) : gb166 ≠ gb168)); have n14_ := Aside0.mk ((by rw [hg]; exact Nat.ne_of_gt (blk_lt (g := gb166) (o := .cells #[.string ((rd_T53 l0 a1).f2), .string ((rd_T53 l0 a1).f3), .string ((rd_T53 l0 a1).f4), .slice Ao16 t163.length co16, u167004] 25 (0, 0)) (by (with_reducible repeat first | apply zM | apply zE | apply zF); exact BK166.out)) : gb168 ≠ gb166)); clear HO_167003; clear HO_167004; clear BK160; clear BK162; clear BK166; clear HB; have HO_167003 := n0_; have HO_167004 := n1_; have BK160 := n2_; have BK162 := n3_; have BK166 := n4_; have HB := n5_; have BK168 := n6_; have GW168 := n7_; have GE168 := n8_; have NB160_168 := n9_; have NB168_160 := n10_; have NB162_168 := n11_; have NB168_162 := n12_; have NB166_168 := n13_; have NB168_166 := n14_; clear n0_ n1_ n2_ n3_ n4_ n5_ n6_ n7_ n8_ n9_ n10_ n11_ n12_ n13_ n14_; clear hb hbox hg) | ((with_reducible refine gate_callee (f := 36) rfl ?_); refine goesL_ (some 43) rfl rfl Try.func36 (by kernel_rfl) rfl #[.slice (some ad161) l0.length c0, .int .i64 x8_1] rfl (by (try simp only [List.map_toArray, List.map_cons, List.map_nil]); first | done | rfl | (simp only [List.length_drop, List.length_take]; rfl)) ?_; (with_reducible refine (ih k1 (by have := HK1.out; omega) _ _ l0 x8_1 t169 t170 t171 t172 t175 t178 _ ?side1 ?side2 A25.out).mono ?_); (case side1 => repeat (first | exact (Kd.C_below HR0.out HB.out) | (with_reducible refine Kd.C_alloc ?_ _) | (with_reducible refine Kd.C_drewN ?_ _) | (with_reducible refine Kd.C_drew ?_))); (case side2 => exact HC0.out); rintro e w28 ⟨v173, v176, rfl, ho0, ho1, hb⟩; refine ⟨_, rfl, ?_⟩; have n0_ := Aside0.mk (Kd.R_elder' (by (with_reducible repeat (first | apply Kd.R_alloc | apply Kd.R_drewN | apply Kd.R_drew)); exact HO_167003.out) (Kd.R_base ho0) hb); have n1_ := Aside0.mk (Kd.R_mono (Kd.R_told (Kd.R_told (Kd.R_old (by (with_reducible repeat (first | apply Kd.R_alloc | apply Kd.R_drewN | apply Kd.R_drew)); exact HO_167004.out) hb) (Kd.R_base ho0)) (Kd.R_base ho1)) (fun _ h_ => h_.1)); have n2_ := Aside0.mk (Kd.R_lower (Kd.R_new' ho0 (Kd.R_lt (by (with_reducible repeat (first | apply Kd.R_alloc | apply Kd.R_drewN | apply Kd.R_drew)); exact HO_167003.out))) (below_size (by repeat (first | (with_reducible first | exact HB.out | apply zA | apply zN | apply zD | refine zS ?_ GE160.out | refine zS ?_ GE162.out | refine zS ?_ GE166.out | refine zS ?_ GE168.out) | exact HB.out)))); have n3_ := Aside0.mk (Kd.R_lower (Kd.R_newB (Kd.R_newB (Kd.R_newB (Kd.R_new' (Kd.R_new' ho1 (Kd.R_lt (by (with_reducible repeat (first | apply Kd.R_alloc | apply Kd.R_drewN | apply Kd.R_drew)); exact HO_167003.out))) (Kd.R_lt (by (with_reducible repeat (first | apply Kd.R_alloc | apply Kd.R_drewN | apply Kd.R_drew)); exact HO_167004.out))) (g := gb160) (o := .cells #[.string (⟨#[]⟩ : ByteArray), .string (⟨#[]⟩ : ByteArray), .string (⟨#[]⟩ : ByteArray), .slice none 0 0, .slice none 0 0] 25 (0, 0)) (by (with_reducible repeat first | apply zM | apply zE | apply zF); exact BK160.out)) (g := gb166) (o := .cells #[.string ((rd_T53 l0 a1).f2), .string ((rd_T53 l0 a1).f3), .string ((rd_T53 l0 a1).f4), .slice Ao16 t163.length co16, u167004] 25 (0, 0)) (by (with_reducible repeat first | apply zM | apply zE | apply zF); exact BK166.out)) (g := gb168) (o := .cells #[.string (⟨#[]⟩ : ByteArray), .string (⟨#[]⟩ : ByteArray), .string (⟨#[]⟩ : ByteArray), .slice none 0 0, .slice none 0 0] 25 (0, 0)) (by (with_reducible repeat first | apply zM | apply zE | apply zF); exact BK168.out)) (below_size (by repeat (first | (with_reducible first | exact HB.out | apply zA | apply zN | apply zD | refine zS ?_ GE160.out | refine zS ?_ GE162.out | refine zS ?_ GE166.out | refine zS ?_ GE168.out) | exact HB.out)))); have n4_ := Aside0.mk (blk_below (g := gb160) (o := .cells #[.string (⟨#[]⟩ : ByteArray), .string (⟨#[]⟩ : ByteArray), .string (⟨#[]⟩ : ByteArray), .slice none 0 0, .slice none 0 0] 25 (0, 0)) (by (with_reducible repeat first | apply zM | apply zE | apply zF); exact BK160.out) hb); have n5_ := Aside0.mk (blk_below (g := gb162) (o := .cells #[.int .i64 ((rd_T53 l0 a1).f0), .int .i64 ((rd_T53 l0 a1).f1), .string ((rd_T53 l0 a1).f2), .string ((rd_T53 l0 a1).f3), .string ((rd_T53 l0 a1).f4), .slice A161_5 ((rd_T53 l0 a1).f5).length c161_5] 53 (0, 0)) (by (with_reducible repeat first | apply zM | apply zE | apply zF); exact BK162.out) hb); have n6_ := Aside0.mk (blk_below (g := gb166) (o := .cells #[.string ((rd_T53 l0 a1).f2), .string ((rd_T53 l0 a1).f3), .string ((rd_T53 l0 a1).f4), .slice Ao16 t163.length co16, u167004] 25 (0, 0)) (by (with_reducible repeat first | apply zM | apply zE | apply zF); exact BK166.out) hb); have n7_ := Aside0.mk (blk_below (g := gb168) (o := .cells #[.string (⟨#[]⟩ : ByteArray), .string (⟨#[]⟩ : ByteArray), .string (⟨#[]⟩ : ByteArray), .slice none 0 0, .slice none 0 0] 25 (0, 0)) (by (with_reducible repeat first | apply zM | apply zE | apply zF); exact BK168.out) hb); have n8_ := Aside0.mk (below_step (by repeat (first | (with_reducible first | exact HB.out | apply zA | apply zN | apply zD | refine zS ?_ GE160.out | refine zS ?_ GE162.out | refine zS ?_ GE166.out | refine zS ?_ GE168.out) | exact HB.out)) hb); clear HO_167003; clear HO_167004; clear BK160; clear BK162; clear BK166; clear BK168; clear HB; have HO_167003 := n0_; have HO_167004 := n1_; have HO174 := n2_; have HO177 := n3_; have BK160 := n4_; have BK162 := n5_; have BK166 := n6_; have BK168 := n7_; have HB := n8_; clear n0_ n1_ n2_ n3_ n4_ n5_ n6_ n7_ n8_; (try clear hb); (try clear hb2); (try clear hk); (try clear hi); (try clear ho0); (try clear ho1); have hnb29 := NB168_160.out; have hnc29 := NB160_168.out; have hnb30 := NB168_162.out; have hnc30 := NB162_168.out; have hnb31 := NB168_166.out; have hnc31 := NB166_168.out; have hcz32_0 : w28.cell? ⟨gb168, 0, none⟩ = some (.string (⟨#[]⟩ : ByteArray)) := (zC BK168.out 0).trans rfl; have hcz32_1 : w28.cell? ⟨gb168, 1, none⟩ = some (.string (⟨#[]⟩ : ByteArray)) := (zC BK168.out 1).trans rfl; have hcz32_2 : w28.cell? ⟨gb168, 2, none⟩ = some (.string (⟨#[]⟩ : ByteArray)) := (zC BK168.out 2).trans rfl; have hcz32_3 : w28.cell? ⟨gb168, 3, none⟩ = some (.slice none 0 0) := (zC BK168.out 3).trans rfl; have hcz32_4 : w28.cell? ⟨gb168, 4, none⟩ = some (.slice none 0 0) := (zC BK168.out 4).trans rfl; have hfz32_0 := zR BK168.out 0; have hfz32_1 := zR BK168.out 1; have hfz32_2 := zR BK168.out 2; have hfz32_3 := zR BK168.out 3; have hfz32_4 := zR BK168.out 4; obtain ⟨Ao33, co33, eo33⟩ := Kd.R_slice HO174.out; subst eo33; obtain ⟨Ao34, co34, eo34⟩ := Kd.R_slice HO177.out; subst eo34) | ((with_reducible refine gate_store (t := 25) (p := 9) rfl ?_); refine store_event (t := 25) (p := 9) (v := ?vo_w35) (w1 := (((((w28.setCell ⟨gb168, 0, none⟩ (.string t169)).setCell ⟨gb168, 1, none⟩ (.string t170)).setCell ⟨gb168, 2, none⟩ (.string t171)).setCell ⟨gb168, 3, none⟩ (.slice Ao33 t172.length co33)).setCell ⟨gb168, 4, none⟩ (.slice Ao34 t175.length co34))) ?hg ?ho ?hn ?hr ?_; (case ho => rfl); (case hg => rfl); (case hn => rfl); (case hr => first | (go_simp; done) | (go_simp; rfl)); intro w35 hw; have n0_ : Aside0 (Kd.R k69 69 w35 w.heap.size (fun k_ => some k_ ≠ (.slice Ao33 t172.length co33 : Value).ownBlock) (.slice Ao16 t163.length co16) t163) := ⟨(by rw [hw]; exact (by (with_reducible repeat (first | apply Kd.R_alloc | apply Kd.R_drewN | apply Kd.R_drew)); exact Kd.R_mono (Kd.R_far (p := ⟨gb168, 4, none⟩) (Kd.R_far (p := ⟨gb168, 3, none⟩) (Kd.R_far (p := ⟨gb168, 2, none⟩) (Kd.R_far (p := ⟨gb168, 1, none⟩) (Kd.R_far (p := ⟨gb168, 0, none⟩) (Kd.R_types HO_167003.out BK168.out (by decide)) (fun _ hk => hk.2) (.string t169)) (fun _ hk => hk.2) (.string t170)) (fun _ hk => hk.2) (.string t171)) (fun _ hk => hk.2) (.slice Ao33 t172.length co33)) (fun _ hk => hk.2) (.slice Ao34 t175.length co34)) (fun _ hk => hk.1.2)))⟩; have n1_ : Aside0 (Kd.R k25 25 w35 w.heap.size (fun k_ => some k_ ≠ (.slice Ao16 t163.length co16 : Value).ownBlock ∧ some k_ ≠ (.slice Ao33 t172.length co33 : Value).ownBlock ∧ some k_ ≠ (.slice Ao34 t175.length co34 : Value).ownBlock ∧ k_ ≠ gb160 ∧ k_ ≠ gb166 ∧ k_ ≠ gb168) u167004 x167004_1) := ⟨(by rw [hw]; exact (by (with_reducible repeat (first | apply Kd.R_alloc | apply Kd.R_drewN | apply Kd.R_drew)); exact Kd.R_mono (Kd.R_far (p := ⟨gb168, 4, none⟩) (Kd.R_far (p := ⟨gb168, 3, none⟩) (Kd.R_far (p := ⟨gb168, 2, none⟩) (Kd.R_far (p := ⟨gb168, 1, none⟩) (Kd.R_far (p := ⟨gb168, 0, none⟩) (Kd.R_mono HO_167004.out (fun k_ hk => (⟨hk, hk.1.1.2⟩ : _ ∧ k_ ≠ gb168))) (fun _ hk => hk.2) (.string t169)) (fun _ hk => hk.2) (.string t170)) (fun _ hk => hk.2) (.string t171)) (fun _ hk => hk.2) (.slice Ao33 t172.length co33)) (fun _ hk => hk.2) (.slice Ao34 t175.length co34)) (fun _ hk => ⟨hk.1.1.1.1.1, ⟨hk.1.1.2, ⟨hk.1.2, ⟨hk.1.1.1.1.2.1, ⟨hk.1.1.1.1.2.2, hk.1.1.1.2⟩⟩⟩⟩⟩)))⟩; have n2_ : Aside0 (Kd.R k69 69 w35 w.heap.size (fun k_ => some k_ ≠ (.slice Ao16 t163.length co16 : Value).ownBlock) (.slice Ao33 t172.length co33) t172) := ⟨(by rw [hw]; exact (by (with_reducible repeat (first | apply Kd.R_alloc | apply Kd.R_drewN | apply Kd.R_drew)); exact Kd.R_mono (Kd.R_far (p := ⟨gb168, 4, none⟩) (Kd.R_far (p := ⟨gb168, 3, none⟩) (Kd.R_far (p := ⟨gb168, 2, none⟩) (Kd.R_far (p := ⟨gb168, 1, none⟩) (Kd.R_far (p := ⟨gb168, 0, none⟩) (Kd.R_types HO174.out BK168.out (by decide)) (fun _ hk => hk.2) (.string t169)) (fun _ hk => hk.2) (.string t170)) (fun _ hk => hk.2) (.string t171)) (fun _ hk => hk.2) (.slice Ao33 t172.length co33)) (fun _ hk => hk.2) (.slice Ao34 t175.length co34)) (fun _ hk => hk.1.2)))⟩; have n3_ : Aside0 (Kd.R k25 25 w35 w.heap.size (fun k_ => some k_ ≠ (.slice Ao16 t163.length co16 : Value).ownBlock ∧ some k_ ≠ (u167004 : Value).ownBlock ∧ some k_ ≠ (.slice Ao33 t172.length co33 : Value).ownBlock ∧ k_ ≠ gb160 ∧ k_ ≠ gb166 ∧ k_ ≠ gb168) (.slice Ao34 t175.length co34) t175) := ⟨(by rw [hw]; exact (by (with_reducible repeat (first | apply Kd.R_alloc | apply Kd.R_drewN | apply Kd.R_drew)); exact Kd.R_mono (Kd.R_far (p := ⟨gb168, 4, none⟩) (Kd.R_far (p := ⟨gb168, 3, none⟩) (Kd.R_far (p := ⟨gb168, 2, none⟩) (Kd.R_far (p := ⟨gb168, 1, none⟩) (Kd.R_far (p := ⟨gb168, 0, none⟩) (Kd.R_mono HO177.out (fun k_ hk => (⟨hk, hk.2⟩ : _ ∧ k_ ≠ gb168))) (fun _ hk => hk.2) (.string t169)) (fun _ hk => hk.2) (.string t170)) (fun _ hk => hk.2) (.string t171)) (fun _ hk => hk.2) (.slice Ao33 t172.length co33)) (fun _ hk => hk.2) (.slice Ao34 t175.length co34)) (fun _ hk => ⟨hk.1.1.1.1.1.2, ⟨hk.1.1.1.1.2, ⟨hk.1.1.1.1.1.1, ⟨hk.1.1.1.2, ⟨hk.1.1.2, hk.1.2⟩⟩⟩⟩⟩)))⟩; have n4_ : Aside0 (w35.heap[gb160]? = some (.cells #[.string (⟨#[]⟩ : ByteArray), .string (⟨#[]⟩ : ByteArray), .string (⟨#[]⟩ : ByteArray), .slice none 0 0, .slice none 0 0] 25 (0, 0))) := ⟨(by rw [hw]; exact (by (with_reducible repeat first | apply zM | apply zE | apply zF); refine zG ?_ NB160_168.out _; (with_reducible repeat first | apply zM | apply zE | apply zF); refine zG ?_ NB160_168.out _; (with_reducible repeat first | apply zM | apply zE | apply zF); refine zG ?_ NB160_168.out _; (with_reducible repeat first | apply zM | apply zE | apply zF); refine zG ?_ NB160_168.out _; (with_reducible repeat first | apply zM | apply zE | apply zF); refine zG ?_ NB160_168.out _; (with_reducible repeat first | apply zM | apply zE | apply zF); exact BK160.out))⟩; have n5_ : Aside0 (w35.heap[gb162]? = some (.cells #[.int .i64 ((rd_T53 l0 a1).f0), .int .i64 ((rd_T53 l0 a1).f1), .string ((rd_T53 l0 a1).f2), .string ((rd_T53 l0 a1).f3), .string ((rd_T53 l0 a1).f4), .slice A161_5 ((rd_T53 l0 a1).f5).length c161_5] 53 (0, 0))) := ⟨(by rw [hw]; exact (by (with_reducible repeat first | apply zM | apply zE | apply zF); refine zG ?_ NB162_168.out _; (with_reducible repeat first | apply zM | apply zE | apply zF); refine zG ?_ NB162_168.out _; (with_reducible repeat first | apply zM | apply zE | apply zF); refine zG ?_ NB162_168.out _; (with_reducible repeat first | apply zM | apply zE | apply zF); refine zG ?_ NB162_168.out _; (with_reducible repeat first | apply zM | apply zE | apply zF); refine zG ?_ NB162_168.out _; (with_reducible repeat first | apply zM | apply zE | apply zF); exact BK162.out))⟩; have n6_ : Aside0 (w35.heap[gb166]? = some (.cells #[.string ((rd_T53 l0 a1).f2), .string ((rd_T53 l0 a1).f3), .string ((rd_T53 l0 a1).f4), .slice Ao16 t163.length co16, u167004] 25 (0, 0))) := ⟨(by rw [hw]; exact (by (with_reducible repeat first | apply zM | apply zE | apply zF); refine zG ?_ NB166_168.out _; (with_reducible repeat first | apply zM | apply zE | apply zF); refine zG ?_ NB166_168.out _; (with_reducible repeat first | apply zM | apply zE | apply zF); refine zG ?_ NB166_168.out _; (with_reducible repeat first | apply zM | apply zE | apply zF); refine zG ?_ NB166_168.out _; (with_reducible repeat first | apply zM | apply zE | apply zF); refine zG ?_ NB166_168.out _; (with_reducible repeat first | apply zM | apply zE | apply zF); exact BK166.out))⟩; have n7_ : Aside0 (w35.heap[gb168]? = some (.cells #[.string t169, .string t170, .string t171, .slice Ao33 t172.length co33, .slice Ao34 t175.length co34] 25 (0, 0))) := ⟨(by rw [hw]; exact (by (with_reducible repeat first | apply zM | apply zE | apply zF); refine zP (cs := #[.string t169, .string t170, .string t171, .slice Ao33 t172.length co33, .slice none 0 0]) ?_ 4 _ rfl; (with_reducible repeat first | apply zM | apply zE | apply zF); refine zP (cs := #[.string t169, .string t170, .string t171, .slice none 0 0, .slice none 0 0]) ?_ 3 _ rfl; (with_reducible repeat first | apply zM | apply zE | apply zF); refine zP (cs := #[.string t169, .string t170, .string (⟨#[]⟩ : ByteArray), .slice none 0 0, .slice none 0 0]) ?_ 2 _ rfl; (with_reducible repeat first | apply zM | apply zE | apply zF); refine zP (cs := #[.string t169, .string (⟨#[]⟩ : ByteArray), .string (⟨#[]⟩ : ByteArray), .slice none 0 0, .slice none 0 0]) ?_ 1 _ rfl; (with_reducible repeat first | apply zM | apply zE | apply zF); refine zP (cs := #[.string (⟨#[]⟩ : ByteArray), .string (⟨#[]⟩ : ByteArray), .string (⟨#[]⟩ : ByteArray), .slice none 0 0, .slice none 0 0]) ?_ 0 _ rfl; (with_reducible repeat first | apply zM | apply zE | apply zF); exact BK168.out))⟩; have n8_ : Aside0 (Below w.heap.size w w35) := ⟨(by rw [hw]; exact (by repeat (first | (with_reducible first | exact HB.out | apply zA | apply zN | apply zD | refine zS ?_ GE160.out | refine zS ?_ GE162.out | refine zS ?_ GE166.out | refine zS ?_ GE168.out) | exact HB.out)))⟩; clear hw; clear HO_167003; clear HO_167004; clear HO174; clear HO177; clear BK160; clear BK162; clear BK166; clear BK168; clear HB; have HO_167003 := n0_; have HO_167004 := n1_; have HO174 := n2_; have HO177 := n3_; have BK160 := n4_; have BK162 := n5_; have BK166 := n6_; have BK168 := n7_; have HB := n8_; clear n0_ n1_ n2_ n3_ n4_ n5_ n6_ n7_ n8_; have hnb36 := NB166_160.out; have hnc36 := NB160_166.out; have hnb37 := NB166_162.out; have hnc37 := NB162_166.out; have hcz38_0 : w35.cell? ⟨gb166, 0, none⟩ = some (.string ((rd_T53 l0 a1).f2)) := (zC BK166.out 0).trans rfl; have hcz38_1 : w35.cell? ⟨gb166, 1, none⟩ = some (.string ((rd_T53 l0 a1).f3)) := (zC BK166.out 1).trans rfl; have hcz38_2 : w35.cell? ⟨gb166, 2, none⟩ = some (.string ((rd_T53 l0 a1).f4)) := (zC BK166.out 2).trans rfl; have hcz38_3 : w35.cell? ⟨gb166, 3, none⟩ = some (.slice Ao16 t163.length co16) := (zC BK166.out 3).trans rfl; have hcz38_4 : w35.cell? ⟨gb166, 4, none⟩ = some (u167004) := (zC BK166.out 4).trans rfl; have hfz38_0 := zR BK166.out 0; have hfz38_1 := zR BK166.out 1; have hfz38_2 := zR BK166.out 2; have hfz38_3 := zR BK166.out 3; have hfz38_4 := zR BK166.out 4; have hcz39_0 : w35.cell? ⟨gb168, 0, none⟩ = some (.string t169) := (zC BK168.out 0).trans rfl; have hcz39_1 : w35.cell? ⟨gb168, 1, none⟩ = some (.string t170) := (zC BK168.out 1).trans rfl; have hcz39_2 : w35.cell? ⟨gb168, 2, none⟩ = some (.string t171) := (zC BK168.out 2).trans rfl; have hcz39_3 : w35.cell? ⟨gb168, 3, none⟩ = some (.slice Ao33 t172.length co33) := (zC BK168.out 3).trans rfl; have hcz39_4 : w35.cell? ⟨gb168, 4, none⟩ = some (.slice Ao34 t175.length co34) := (zC BK168.out 4).trans rfl; have hfz39_0 := zR BK168.out 0; have hfz39_1 := zR BK168.out 1; have hfz39_2 := zR BK168.out 2; have hfz39_3 := zR BK168.out 3; have hfz39_4 := zR BK168.out 4) | ((with_reducible refine gate_builtin (b := .append) (xs := #[.tmp 47, .tmp 49]) rfl ?_); at_builtin; refine Kd.R_append k25 (w0 := w) w.heap.size rfl (.tmp 47) (.tmp 49) 23 25 (.agg #[(.string ⟨#[]⟩), (.string ⟨#[]⟩), (.string ⟨#[]⟩), (.slice none 0 0), (.slice none 0 0)]) 96 rfl Try.underlying23 info25 rfl (by decide) (by omega) u167004 x167004_1 (⟨t169, t170, t171, t172, t175⟩ : S25) [.string t169, .string t170, .string t171, .slice Ao33 t172.length co33, .slice Ao34 t175.length co34] (fun k_ => some k_ ≠ (.slice Ao16 t163.length co16 : Value).ownBlock ∧ k_ ≠ gb160 ∧ k_ ≠ gb166 ∧ k_ ≠ gb168) (fun k_ => ((fun k_ => some k_ ≠ (.slice Ao16 t163.length co16 : Value).ownBlock ∧ k_ ≠ gb160 ∧ k_ ≠ gb166 ∧ k_ ≠ gb168)) k_ ∧ some k_ ≠ (u167004 : Value).ownBlock) rfl rfl ?aP (fun _ hk => hk) ?aF ?aO ?aB ?aS ?aL ?_; (case aP => exact k25_mkM _ _ _ (⟨t169, t170, t171, t172, t175⟩ : S25) (Kd.R_mono (Kd.R_types (Kd.R_types (Kd.R_types (Kd.R_apart' (HO174.out) (Kd.R_typed HO_167004.out) (by decide)) BK160.out (by decide)) BK166.out (by decide)) BK168.out (by decide)) (fun k_ hk => ⟨⟨hk.1.1.1.1, ⟨hk.1.1.2, ⟨hk.1.2, hk.2⟩⟩⟩, hk.1.1.1.2⟩)) (Kd.R_mono (HO177.out) (fun k_ hk => ⟨⟨hk.1, ⟨hk.2.2.2.1, ⟨hk.2.2.2.2.1, hk.2.2.2.2.2⟩⟩⟩, hk.2.1⟩))); (case aB => exact (by repeat (first | (with_reducible first | exact HB.out | apply zA | apply zN | apply zD | refine zS ?_ GE160.out | refine zS ?_ GE162.out | refine zS ?_ GE166.out | refine zS ?_ GE168.out) | exact HB.out))); (case aF => exact (fun k_ hk => ⟨Kd.fresh' (Kd.R_lt (by (with_reducible repeat (first | apply Kd.R_alloc | apply Kd.R_drewN | apply Kd.R_drew)); exact HO_167003.out)) k_ hk, Kd.freshB (g := gb160) (o := .cells #[.string (⟨#[]⟩ : ByteArray), .string (⟨#[]⟩ : ByteArray), .string (⟨#[]⟩ : ByteArray), .slice none 0 0, .slice none 0 0] 25 (0, 0)) (by (with_reducible repeat first | apply zM | apply zE | apply zF); exact BK160.out) k_ hk, Kd.freshB (g := gb166) (o := .cells #[.string ((rd_T53 l0 a1).f2), .string ((rd_T53 l0 a1).f3), .string ((rd_T53 l0 a1).f4), .slice Ao16 t163.length co16, u167004] 25 (0, 0)) (by (with_reducible repeat first | apply zM | apply zE | apply zF); exact BK166.out) k_ hk, Kd.freshB (g := gb168) (o := .cells #[.string t169, .string t170, .string t171, .slice Ao33 t172.length co33, .slice Ao34 t175.length co34] 25 (0, 0)) (by (with_reducible repeat first | apply zM | apply zE | apply zF); exact BK168.out) k_ hk⟩)); (case aO => exact (by (with_reducible repeat (first | apply Kd.R_alloc | apply Kd.R_drewN | apply Kd.R_drew)); exact Kd.R_mono HO_167004.out (fun _ hk => ⟨hk.1, ⟨hk.2.2.2.1, ⟨hk.2.2.2.2.1, hk.2.2.2.2.2⟩⟩⟩))); (case aS => exact (below_size (by repeat (first | (with_reducible first | exact HB.out | apply zA | apply zN | apply zD | refine zS ?_ GE160.out | refine zS ?_ GE162.out | refine zS ?_ GE166.out | refine zS ?_ GE168.out) | exact HB.out)))); (case aL => have := LMc26.out; omega); intro v180 w40 ho hb hg hat; rw [← Ny179.out] at ho; have n0_ := Aside0.mk (Kd.R_over' (by (with_reducible repeat (first | apply Kd.R_alloc | apply Kd.R_drewN | apply Kd.R_drew)); exact HO_167003.out) (Kd.R_typed (by (with_reducible repeat (first | apply Kd.R_alloc | apply Kd.R_drewN | apply Kd.R_drew)); exact HO_167004.out)) (by decide) hg); have n1_ := Aside0.mk (blk_grown (g := gb160) (o := .cells #[.string (⟨#[]⟩ : ByteArray), .string (⟨#[]⟩ : ByteArray), .string (⟨#[]⟩ : ByteArray), .slice none 0 0, .slice none 0 0] 25 (0, 0)) (by (with_reducible repeat first | apply zM | apply zE | apply zF); exact BK160.out) hg (Kd.R_away HO_167004.out (fun _ hk => hk.2.2.2.1))); have n2_ := Aside0.mk (blk_grown (g := gb162) (o := .cells #[.int .i64 ((rd_T53 l0 a1).f0), .int .i64 ((rd_T53 l0 a1).f1), .string ((rd_T53 l0 a1).f2), .string ((rd_T53 l0 a1).f3), .string ((rd_T53 l0 a1).f4), .slice A161_5 ((rd_T53 l0 a1).f5).length c161_5] 53 (0, 0)) (by (with_reducible repeat first | apply zM | apply zE | apply zF); exact BK162.out) hg (Kd.R_ne HO_167004.out BK162.out (by decide))); have n3_ := Aside0.mk (blk_grown (g := gb166) (o := .cells #[.string ((rd_T53 l0 a1).f2), .string ((rd_T53 l0 a1).f3), .string ((rd_T53 l0 a1).f4), .slice Ao16 t163.length co16, u167004] 25 (0, 0)) (by (with_reducible repeat first | apply zM | apply zE | apply zF); exact BK166.out) hg (Kd.R_away HO_167004.out (fun _ hk => hk.2.2.2.2.1))); have n4_ := Aside0.mk (blk_grown (g := gb168) (o := .cells #[.string t169, .string t170, .string t171, .slice Ao33 t172.length co33, .slice Ao34 t175.length co34] 25 (0, 0)) (by (with_reducible repeat first | apply zM | apply zE | apply zF); exact BK168.out) hg (Kd.R_away HO_167004.out (fun _ hk => hk.2.2.2.2.2))); have n5_ := Aside0.mk (hb); have n6_ := Aside0.mk (ho); clear HO_167003; clear BK160; clear BK162; clear BK166; clear BK168; clear HB; clear HO_167004; clear HO174; clear HO177; have HO_167003 := n0_; have BK160 := n1_; have BK162 := n2_; have BK166 := n3_; have BK168 := n4_; have HB := n5_; have HO181 := n6_; clear n0_ n1_ n2_ n3_ n4_ n5_ n6_; clear ho hb hg hat; obtain ⟨Ao41, co41, eo41⟩ := Kd.R_slice HO181.out; subst eo41; have hcz42_0 : w40.cell? ⟨gb166, 0, none⟩ = some (.string ((rd_T53 l0 a1).f2)) := (zC BK166.out 0).trans rfl; have hcz42_1 : w40.cell? ⟨gb166, 1, none⟩ = some (.string ((rd_T53 l0 a1).f3)) := (zC BK166.out 1).trans rfl; have hcz42_2 : w40.cell? ⟨gb166, 2, none⟩ = some (.string ((rd_T53 l0 a1).f4)) := (zC BK166.out 2).trans rfl; have hcz42_3 : w40.cell? ⟨gb166, 3, none⟩ = some (.slice Ao16 t163.length co16) := (zC BK166.out 3).trans rfl; have hcz42_4 : w40.cell? ⟨gb166, 4, none⟩ = some (u167004) := (zC BK166.out 4).trans rfl; have hfz42_0 := zR BK166.out 0; have hfz42_1 := zR BK166.out 1; have hfz42_2 := zR BK166.out 2; have hfz42_3 := zR BK166.out 3; have hfz42_4 := zR BK166.out 4))
         go_roundg k1
         case measure => have := HK1.out; omega
         case rel => exact ⟨(t178), (y179), (.slice Ao41 y179.length co41), (by first | rfl | (simp; done) | (simp [*]; done)), H', ⟨by have := HK1.out; omega⟩, ⟨by (with_reducible repeat (first | apply Kd.R_alloc | apply Kd.R_drewN | apply Kd.R_drew)); exact Kd.R_mono (Kd.R_far (p := ⟨gb166, 4, none⟩) (Kd.R_types HO_167003.out BK166.out (by decide)) (fun _ hk => hk.2) (.slice Ao41 y179.length co41)) (fun _ hk => trivial)⟩, ⟨by (with_reducible repeat (first | apply Kd.R_alloc | apply Kd.R_drewN | apply Kd.R_drew)); exact Kd.R_mono (Kd.R_far (p := ⟨gb166, 4, none⟩) (Kd.R_mono HO181.out (fun k_ hk => (⟨hk, hk.2.2.1⟩ : _ ∧ k_ ≠ gb166))) (fun _ hk => hk.2) (.slice Ao41 y179.length co41)) (fun _ hk => ⟨hk.1.1, ⟨hk.1.2.1, hk.1.2.2.1⟩⟩)⟩, ⟨by (with_reducible repeat first | apply zM | apply zE | apply zF); refine zG ?_ NB160_166.out _; (with_reducible repeat first | apply zM | apply zE | apply zF); exact BK160.out⟩, ⟨by (with_reducible repeat first | apply zM | apply zE | apply zF); refine zG ?_ NB162_166.out _; (with_reducible repeat first | apply zM | apply zE | apply zF); exact BK162.out⟩, ⟨by (with_reducible repeat first | apply zM | apply zE | apply zF); refine zP (cs := #[.string ((rd_T53 l0 a1).f2), .string ((rd_T53 l0 a1).f3), .string ((rd_T53 l0 a1).f4), .slice Ao16 t163.length co16, u167004]) ?_ 4 _ rfl; (with_reducible repeat first | apply zM | apply zE | apply zF); exact BK166.out⟩, ⟨by repeat (first | (with_reducible first | exact HB.out | apply zA | apply zN | apply zD | refine zS ?_ GE160.out | refine zS ?_ GE162.out | refine zS ?_ GE166.out | refine zS ?_ GE168.out) | exact HB.out)⟩⟩
        ·
         rw [if_neg c26] at H
         exact absurd H (by simp)
       ·
        rw [if_neg c24] at H
        have c24b0 : (((rd_T53 l0 x8_1).f1) == (wrap64 (a1 + 1))) = false := beq_eq_false_iff_ne.mpr c24
        have c24b1 : (((rd_T53 l0 x8_1).f1) != (wrap64 (a1 + 1))) = true := bne_iff_ne.mpr c24
        simp only [Option.some.injEq, Prod.mk.injEq] at H
        obtain ⟨rfl, rfl, rfl, rfl, rfl, rfl⟩ := H
        have p167 : 0 ≤ (x8_1 : Int) := of_decide_eq_true (by first | (with_reducible assumption) | assumption)
        have q167 : x8_1 < (l0.length : Int) := of_decide_eq_true (by first | (with_reducible assumption) | assumption)
        obtain ⟨ad167, A167_5, c167_5, e167, hx167_0, hx167_1, hx167_2, hx167_3, hx167_4, hx167_5, hl167_5, hi167_5⟩ := at_T53 HR0.out x8_1 p167 q167
        obtain rfl : ad161 = ad167 := (by injection e167)
        replace hx167_0 := (HB.out.cell (World.block_lt_of_cell? w _ hx167_0)).trans hx167_0
        replace hx167_1 := (HB.out.cell (World.block_lt_of_cell? w _ hx167_1)).trans hx167_1
        replace hx167_2 := (HB.out.cell (World.block_lt_of_cell? w _ hx167_2)).trans hx167_2
        replace hx167_3 := (HB.out.cell (World.block_lt_of_cell? w _ hx167_3)).trans hx167_3
        replace hx167_4 := (HB.out.cell (World.block_lt_of_cell? w _ hx167_4)).trans hx167_4
        replace hx167_5 := (HB.out.cell (World.block_lt_of_cell? w _ hx167_5)).trans hx167_5
        have HR167_5 := Aside0.mk hi167_5
        have HC167_5 := Aside0.mk hl167_5
        clear hi167_5 hl167_5
        replace p167 := eq_true p167
        replace q167 := eq_true q167
        have hnb43 := NB166_160.out
        have hnc43 := NB160_166.out
        have hnb44 := NB166_162.out
        have hnc44 := NB162_166.out
        have hcz45_0 : wr.cell? ⟨gb166, 0, none⟩ = some (.string ((rd_T53 l0 a1).f2)) := (zC BK166.out 0).trans rfl
        have hcz45_1 : wr.cell? ⟨gb166, 1, none⟩ = some (.string ((rd_T53 l0 a1).f3)) := (zC BK166.out 1).trans rfl
        have hcz45_2 : wr.cell? ⟨gb166, 2, none⟩ = some (.string ((rd_T53 l0 a1).f4)) := (zC BK166.out 2).trans rfl
        have hcz45_3 : wr.cell? ⟨gb166, 3, none⟩ = some (.slice Ao16 t163.length co16) := (zC BK166.out 3).trans rfl
        have hcz45_4 : wr.cell? ⟨gb166, 4, none⟩ = some (u167004) := (zC BK166.out 4).trans rfl
        have hfz45_0 := zR BK166.out 0
        have hfz45_1 := zR BK166.out 1
        have hfz45_2 := zR BK166.out 2
        have hfz45_3 := zR BK166.out 3
        have hfz45_4 := zR BK166.out 4
        have hnb46 := NB160_162.out
        have hnc46 := NB162_160.out
        have hcz47_0 : wr.cell? ⟨gb160, 0, none⟩ = some (.string (⟨#[]⟩ : ByteArray)) := (zC BK160.out 0).trans rfl
        have hcz47_1 : wr.cell? ⟨gb160, 1, none⟩ = some (.string (⟨#[]⟩ : ByteArray)) := (zC BK160.out 1).trans rfl
        have hcz47_2 : wr.cell? ⟨gb160, 2, none⟩ = some (.string (⟨#[]⟩ : ByteArray)) := (zC BK160.out 2).trans rfl
        have hcz47_3 : wr.cell? ⟨gb160, 3, none⟩ = some (.slice none 0 0) := (zC BK160.out 3).trans rfl
        have hcz47_4 : wr.cell? ⟨gb160, 4, none⟩ = some (.slice none 0 0) := (zC BK160.out 4).trans rfl
        have hfz47_0 := zR BK160.out 0
        have hfz47_1 := zR BK160.out 1
        have hfz47_2 := zR BK160.out 2
        have hfz47_3 := zR BK160.out 3
        have hfz47_4 := zR BK160.out 4
        obtain ⟨Ao48, co48, eo48⟩ := Kd.R_slice HO_167004.out
        subst eo48
        go_wp2
        refine bodyPost_ret (results_ct rfl _ _ gb160 25 #[.string ((rd_T53 l0 a1).f2), .string ((rd_T53 l0 a1).f3), .string ((rd_T53 l0 a1).f4), .slice Ao16 t163.length co16, .slice Ao48 x167004_1.length co48] (0, 0) _ rfl (by (with_reducible repeat first | apply zM | apply zE | apply zF); refine zP (cs := #[.string ((rd_T53 l0 a1).f2), .string ((rd_T53 l0 a1).f3), .string ((rd_T53 l0 a1).f4), .slice Ao16 t163.length co16, .slice none 0 0]) ?_ 4 _ rfl; (with_reducible repeat first | apply zM | apply zE | apply zF); refine zP (cs := #[.string ((rd_T53 l0 a1).f2), .string ((rd_T53 l0 a1).f3), .string ((rd_T53 l0 a1).f4), .slice none 0 0, .slice none 0 0]) ?_ 3 _ rfl; (with_reducible repeat first | apply zM | apply zE | apply zF); refine zP (cs := #[.string ((rd_T53 l0 a1).f2), .string ((rd_T53 l0 a1).f3), .string (⟨#[]⟩ : ByteArray), .slice none 0 0, .slice none 0 0]) ?_ 2 _ rfl; (with_reducible repeat first | apply zM | apply zE | apply zF); refine zP (cs := #[.string ((rd_T53 l0 a1).f2), .string (⟨#[]⟩ : ByteArray), .string (⟨#[]⟩ : ByteArray), .slice none 0 0, .slice none 0 0]) ?_ 1 _ rfl; (with_reducible repeat first | apply zM | apply zE | apply zF); refine zP (cs := #[.string (⟨#[]⟩ : ByteArray), .string (⟨#[]⟩ : ByteArray), .string (⟨#[]⟩ : ByteArray), .slice none 0 0, .slice none 0 0]) ?_ 0 _ rfl; (with_reducible repeat first | apply zM | apply zE | apply zF); exact BK160.out) Try.underlying25 rfl (by kernel_rfl)) rfl ?_
        exact ⟨_, _, by first | rfl | (simp [errW_none, errW_some] <;> rfl) | (simp [*, errW_none, errW_some] <;> rfl), by (with_reducible repeat (first | apply Kd.R_alloc | apply Kd.R_drewN | apply Kd.R_drew)); exact Kd.R_mono (Kd.R_far (p := ⟨gb160, 4, none⟩) (Kd.R_far (p := ⟨gb160, 3, none⟩) (Kd.R_far (p := ⟨gb160, 2, none⟩) (Kd.R_far (p := ⟨gb160, 1, none⟩) (Kd.R_far (p := ⟨gb160, 0, none⟩) (Kd.R_types HO_167003.out BK160.out (by decide)) (fun _ hk => hk.2) (.string ((rd_T53 l0 a1).f2))) (fun _ hk => hk.2) (.string ((rd_T53 l0 a1).f3))) (fun _ hk => hk.2) (.string ((rd_T53 l0 a1).f4))) (fun _ hk => hk.2) (.slice Ao16 t163.length co16)) (fun _ hk => hk.2) (.slice Ao48 x167004_1.length co48)) (fun _ hk => trivial), by (with_reducible repeat (first | apply Kd.R_alloc | apply Kd.R_drewN | apply Kd.R_drew)); exact Kd.R_mono (Kd.R_far (p := ⟨gb160, 4, none⟩) (Kd.R_far (p := ⟨gb160, 3, none⟩) (Kd.R_far (p := ⟨gb160, 2, none⟩) (Kd.R_far (p := ⟨gb160, 1, none⟩) (Kd.R_far (p := ⟨gb160, 0, none⟩) (Kd.R_mono HO_167004.out (fun k_ hk => (⟨hk, hk.2.1⟩ : _ ∧ k_ ≠ gb160))) (fun _ hk => hk.2) (.string ((rd_T53 l0 a1).f2))) (fun _ hk => hk.2) (.string ((rd_T53 l0 a1).f3))) (fun _ hk => hk.2) (.string ((rd_T53 l0 a1).f4))) (fun _ hk => hk.2) (.slice Ao16 t163.length co16)) (fun _ hk => hk.2) (.slice Ao48 x167004_1.length co48)) (fun _ hk => hk.1.1), by repeat (first | (with_reducible first | exact HB.out | apply zA | apply zN | apply zD | refine zS ?_ GE160.out | refine zS ?_ GE162.out | refine zS ?_ GE166.out) | exact HB.out)⟩
      ·
       rw [if_neg c23] at H
       exact absurd H (by simp)
     ·
      rw [if_neg c22] at H
      have c22b0 : decide (x8_1 < (l0.length : Int)) = false := decide_eq_false c22
      clear c22
      simp only [Option.some.injEq, Prod.mk.injEq] at H
      obtain ⟨rfl, rfl, rfl, rfl, rfl, rfl⟩ := H
      have hnb49 := NB166_160.out
      have hnc49 := NB160_166.out
      have hnb50 := NB166_162.out
      have hnc50 := NB162_166.out
      have hcz51_0 : wr.cell? ⟨gb166, 0, none⟩ = some (.string ((rd_T53 l0 a1).f2)) := (zC BK166.out 0).trans rfl
      have hcz51_1 : wr.cell? ⟨gb166, 1, none⟩ = some (.string ((rd_T53 l0 a1).f3)) := (zC BK166.out 1).trans rfl
      have hcz51_2 : wr.cell? ⟨gb166, 2, none⟩ = some (.string ((rd_T53 l0 a1).f4)) := (zC BK166.out 2).trans rfl
      have hcz51_3 : wr.cell? ⟨gb166, 3, none⟩ = some (.slice Ao16 t163.length co16) := (zC BK166.out 3).trans rfl
      have hcz51_4 : wr.cell? ⟨gb166, 4, none⟩ = some (u167004) := (zC BK166.out 4).trans rfl
      have hfz51_0 := zR BK166.out 0
      have hfz51_1 := zR BK166.out 1
      have hfz51_2 := zR BK166.out 2
      have hfz51_3 := zR BK166.out 3
      have hfz51_4 := zR BK166.out 4
      have hnb52 := NB160_162.out
      have hnc52 := NB162_160.out
      have hcz53_0 : wr.cell? ⟨gb160, 0, none⟩ = some (.string (⟨#[]⟩ : ByteArray)) := (zC BK160.out 0).trans rfl
      have hcz53_1 : wr.cell? ⟨gb160, 1, none⟩ = some (.string (⟨#[]⟩ : ByteArray)) := (zC BK160.out 1).trans rfl
      have hcz53_2 : wr.cell? ⟨gb160, 2, none⟩ = some (.string (⟨#[]⟩ : ByteArray)) := (zC BK160.out 2).trans rfl
      have hcz53_3 : wr.cell? ⟨gb160, 3, none⟩ = some (.slice none 0 0) := (zC BK160.out 3).trans rfl
      have hcz53_4 : wr.cell? ⟨gb160, 4, none⟩ = some (.slice none 0 0) := (zC BK160.out 4).trans rfl
      have hfz53_0 := zR BK160.out 0
      have hfz53_1 := zR BK160.out 1
      have hfz53_2 := zR BK160.out 2
      have hfz53_3 := zR BK160.out 3
      have hfz53_4 := zR BK160.out 4
      obtain ⟨Ao54, co54, eo54⟩ := Kd.R_slice HO_167004.out
      subst eo54
      go_wp2
      refine bodyPost_ret (results_ct rfl _ _ gb160 25 #[.string ((rd_T53 l0 a1).f2), .string ((rd_T53 l0 a1).f3), .string ((rd_T53 l0 a1).f4), .slice Ao16 t163.length co16, .slice Ao54 x167004_1.length co54] (0, 0) _ rfl (by (with_reducible repeat first | apply zM | apply zE | apply zF); refine zP (cs := #[.string ((rd_T53 l0 a1).f2), .string ((rd_T53 l0 a1).f3), .string ((rd_T53 l0 a1).f4), .slice Ao16 t163.length co16, .slice none 0 0]) ?_ 4 _ rfl; (with_reducible repeat first | apply zM | apply zE | apply zF); refine zP (cs := #[.string ((rd_T53 l0 a1).f2), .string ((rd_T53 l0 a1).f3), .string ((rd_T53 l0 a1).f4), .slice none 0 0, .slice none 0 0]) ?_ 3 _ rfl; (with_reducible repeat first | apply zM | apply zE | apply zF); refine zP (cs := #[.string ((rd_T53 l0 a1).f2), .string ((rd_T53 l0 a1).f3), .string (⟨#[]⟩ : ByteArray), .slice none 0 0, .slice none 0 0]) ?_ 2 _ rfl; (with_reducible repeat first | apply zM | apply zE | apply zF); refine zP (cs := #[.string ((rd_T53 l0 a1).f2), .string (⟨#[]⟩ : ByteArray), .string (⟨#[]⟩ : ByteArray), .slice none 0 0, .slice none 0 0]) ?_ 1 _ rfl; (with_reducible repeat first | apply zM | apply zE | apply zF); refine zP (cs := #[.string (⟨#[]⟩ : ByteArray), .string (⟨#[]⟩ : ByteArray), .string (⟨#[]⟩ : ByteArray), .slice none 0 0, .slice none 0 0]) ?_ 0 _ rfl; (with_reducible repeat first | apply zM | apply zE | apply zF); exact BK160.out) Try.underlying25 rfl (by kernel_rfl)) rfl ?_
      exact ⟨_, _, by first | rfl | (simp [errW_none, errW_some] <;> rfl) | (simp [*, errW_none, errW_some] <;> rfl), by (with_reducible repeat (first | apply Kd.R_alloc | apply Kd.R_drewN | apply Kd.R_drew)); exact Kd.R_mono (Kd.R_far (p := ⟨gb160, 4, none⟩) (Kd.R_far (p := ⟨gb160, 3, none⟩) (Kd.R_far (p := ⟨gb160, 2, none⟩) (Kd.R_far (p := ⟨gb160, 1, none⟩) (Kd.R_far (p := ⟨gb160, 0, none⟩) (Kd.R_types HO_167003.out BK160.out (by decide)) (fun _ hk => hk.2) (.string ((rd_T53 l0 a1).f2))) (fun _ hk => hk.2) (.string ((rd_T53 l0 a1).f3))) (fun _ hk => hk.2) (.string ((rd_T53 l0 a1).f4))) (fun _ hk => hk.2) (.slice Ao16 t163.length co16)) (fun _ hk => hk.2) (.slice Ao54 x167004_1.length co54)) (fun _ hk => trivial), by (with_reducible repeat (first | apply Kd.R_alloc | apply Kd.R_drewN | apply Kd.R_drew)); exact Kd.R_mono (Kd.R_far (p := ⟨gb160, 4, none⟩) (Kd.R_far (p := ⟨gb160, 3, none⟩) (Kd.R_far (p := ⟨gb160, 2, none⟩) (Kd.R_far (p := ⟨gb160, 1, none⟩) (Kd.R_far (p := ⟨gb160, 0, none⟩) (Kd.R_mono HO_167004.out (fun k_ hk => (⟨hk, hk.2.1⟩ : _ ∧ k_ ≠ gb160))) (fun _ hk => hk.2) (.string ((rd_T53 l0 a1).f2))) (fun _ hk => hk.2) (.string ((rd_T53 l0 a1).f3))) (fun _ hk => hk.2) (.string ((rd_T53 l0 a1).f4))) (fun _ hk => hk.2) (.slice Ao16 t163.length co16)) (fun _ hk => hk.2) (.slice Ao54 x167004_1.length co54)) (fun _ hk => hk.1.1), by repeat (first | (with_reducible first | exact HB.out | apply zA | apply zN | apply zD | refine zS ?_ GE160.out | refine zS ?_ GE162.out | refine zS ?_ GE166.out) | exact HB.out)⟩
  ·
   rw [if_neg c4] at H
   exact absurd H (by simp)
 ·
  rw [if_neg c3] at H
  exact absurd H (by simp)

-- squeezed
open Go.Proofs.YtcebfldagnjddaaW.PrintWords renaming below_alloc → zA, pw_below_drewN → zN, below_drew1 → zD, below_set → zS, blk_drewN → zM, blk_drew → zE, blk_alloc → zF, blk_far → zG, blk_put → zP, blk_cell → zC, blk_frozen → zR
/-! ### flat_Tree: function 12 -/
def flat_Tree.j0 : Nat → List (S53) → Option (ByteArray × ByteArray × ByteArray × (List (S69)) × (List (S25)) × Int)
 | 0, _ => none
 | k + 1, x0 => (flat_build.f k x0 0).bind fun bt188 => ((vtree_Check.f k bt188.1 bt188.2.1 bt188.2.2.1 bt188.2.2.2.1 bt188.2.2.2.2.1).bind fun bt199 => (if bt199.2 = 0 then (some (bt188.1, bt188.2.1, bt188.2.2.1, bt188.2.2.2.1, bt188.2.2.2.2.1, 0)) else (some ((⟨#[]⟩ : ByteArray), (⟨#[]⟩ : ByteArray), (⟨#[]⟩ : ByteArray), ([] : List (S69)), ([] : List (S25)), bt199.2))))
def flat_Tree.f (k : Nat) (l0 : List (S53)) : Option (ByteArray × ByteArray × ByteArray × (List (S69)) × (List (S25)) × Int) := if (l0.length : Int) = 0 then (some ((⟨#[]⟩ : ByteArray), (⟨#[]⟩ : ByteArray), (⟨#[]⟩ : ByteArray), ([] : List (S69)), ([] : List (S25)), 23)) else ((flat_formed.f k l0).bind fun t183 => (if t183 = true then ((flat_deep.f k l0).bind fun t184 => (if t184 = true then ((flat_cut.f k l0).bind fun t185 => (flat_Tree.j0 k t185)) else (flat_Tree.j0 k l0))) else (some ((⟨#[]⟩ : ByteArray), (⟨#[]⟩ : ByteArray), (⟨#[]⟩ : ByteArray), ([] : List (S69)), ([] : List (S25)), 2))))
theorem flat_Tree.mono_l : ∀ k, (∀ y0, LeO (flat_Tree.j0 k y0) (flat_Tree.j0 (k + 1) y0))
 | 0 => fun _ r h => by simp [flat_Tree.j0] at h
 | k + 1 => by
  have ih0 := flat_Tree.mono_l k
  ·
   intro y0
   unfold flat_Tree.j0
   repeat' first
   | (with_reducible exact ih0 _)
   | (with_reducible exact flat_build.mono _ _ _)
   | (with_reducible exact flat_cut.mono _ _)
   | (with_reducible exact flat_deep.mono _ _)
   | (with_reducible exact flat_formed.mono _ _)
   | (with_reducible exact vtree_Check.mono _ _ _ _ _ _)
   | (with_reducible exact LeO.refl _)
   | (with_reducible exact LeO.none _)
   | (with_reducible refine LeO.ite ?_ ?_)
   | (with_reducible refine LeO.bind ?_ (fun _ => ?_))
   | exact ih0 _
   | exact flat_build.mono _ _ _
   | exact flat_cut.mono _ _
   | exact flat_deep.mono _ _
   | exact flat_formed.mono _ _
   | exact vtree_Check.mono _ _ _ _ _ _
   | exact LeO.none _
   | refine LeO.ite ?_ ?_
   | refine LeO.bind ?_ (fun _ => ?_)
theorem flat_Tree.mono : ∀ a0 k, LeO (flat_Tree.f k a0) (flat_Tree.f (k + 1) a0) := by
 intro a0 k
 have ih0 := flat_Tree.mono_l k
 unfold flat_Tree.f
 repeat' first
   | (with_reducible exact ih0 _)
   | (with_reducible exact flat_build.mono _ _ _)
   | (with_reducible exact flat_cut.mono _ _)
   | (with_reducible exact flat_deep.mono _ _)
   | (with_reducible exact flat_formed.mono _ _)
   | (with_reducible exact vtree_Check.mono _ _ _ _ _ _)
   | (with_reducible exact LeO.refl _)
   | (with_reducible exact LeO.none _)
   | (with_reducible refine LeO.ite ?_ ?_)
   | (with_reducible refine LeO.bind ?_ (fun _ => ?_))
   | exact ih0 _
   | exact flat_build.mono _ _ _
   | exact flat_cut.mono _ _
   | exact flat_deep.mono _ _
   | exact flat_formed.mono _ _
   | exact vtree_Check.mono _ _ _ _ _ _
   | exact LeO.none _
   | refine LeO.ite ?_ ?_
   | refine LeO.bind ?_ (fun _ => ?_)
set_option maxHeartbeats 8000000 in
set_option maxRecDepth 100000 in
theorem flat_Tree.calls (k : Nat) (P0_ : Nat → Prop) (A0 : Option Addr) (c0 : Nat) (l0 : List (S53)) (r1 : ByteArray) (r2 : ByteArray) (r3 : ByteArray) (r4 : List (S69)) (r5 : List (S25)) (r6 : Int) (w : World) (hs0 : Kd.V k53 53 w w.heap.size (fun k_ => P0_ k_) (.slice A0 l0.length c0) l0) (h : flat_Tree.f k l0 = some (r1, r2, r3, r4, r5, r6)) :
  Calls Try.prog 12 #[.slice A0 l0.length c0] w fun e w' => ∃ v3_ v4_ : Value, e = .returned (.tuple #[.agg #[.string r1, .string r2, .string r3, v3_, v4_], .int .i64 r6]) ∧ Kd.R k69 69 w' w.heap.size (fun k_ => (w.heap.size ≤ k_)) v3_ r4 ∧ Kd.R k25 25 w' w.heap.size (fun k_ => (w.heap.size ≤ k_) ∧ some k_ ≠ (v3_ : Value).ownBlock) v4_ r5 ∧ Below w.heap.size w w' := by
 have hu25 := Try.underlying25
 have HO0 := Aside0.mk (show Kd.V k53 53 w w.heap.size (fun k_ => (P0_ k_ ∨ w.heap.size ≤ k_)) (.slice A0 l0.length c0) l0 from Kd.V_mono hs0 (fun k_ hk => .inl hk))
 have HB := Aside0.mk (Below.refl w.heap.size w)
 have H : (if (l0.length : Int) = 0 then (some ((⟨#[]⟩ : ByteArray), (⟨#[]⟩ : ByteArray), (⟨#[]⟩ : ByteArray), ([] : List (S69)), ([] : List (S25)), 23)) else ((flat_formed.f k l0).bind fun t183 => (if t183 = true then ((flat_deep.f k l0).bind fun t184 => (if t184 = true then ((flat_cut.f k l0).bind fun t185 => (flat_Tree.j0 k t185)) else (flat_Tree.j0 k l0))) else (some ((⟨#[]⟩ : ByteArray), (⟨#[]⟩ : ByteArray), (⟨#[]⟩ : ByteArray), ([] : List (S69)), ([] : List (S25)), 2))))) = some (r1, r2, r3, r4, r5, r6) := h
 clear h
 by_cases c2 : (l0.length : Int) = 0
 ·
  rw [if_pos c2] at H
  have c2b0 : ((l0.length : Int) == 0) = true := beq_iff_eq.mpr c2
  have c2b1 : ((l0.length : Int) != 0) = false := bne_eq_false_iff_eq.mpr c2
  clear c2
  simp only [Option.some.injEq, Prod.mk.injEq] at H
  obtain ⟨rfl, rfl, rfl, rfl, rfl, rfl⟩ := H
  go_enter Try.func12, Try.ntmps12
  go_wp2_with (first | ((with_reducible refine gate_dst (N := 2) rfl ?_); refine box_event ?hg (N := 2) ?hd (cs := #[.string (⟨#[]⟩ : ByteArray), .string (⟨#[]⟩ : ByteArray), .string (⟨#[]⟩ : ByteArray), .slice none 0 0, .slice none 0 0]) (t := 25) ?hr ?_; (case hd => rfl); (case hg => rfl); (case hr => first | (go_simp; done) | (go_simp; rfl)); intro gb182 hg w3 hbox hb; have n0_ := Aside0.mk (Kd.V_below (Kd.V_elderB (by (with_reducible repeat (first | apply Kd.V_alloc | apply Kd.V_drewN | apply Kd.V_drew)); exact HO0.out) gb182 (Nat.le_of_eq hg.symm)) hb); have n1_ := Aside0.mk (below_step (by repeat (first | (with_reducible first | exact HB.out | apply zA | apply zN | apply zD) | exact HB.out)) hb); have n2_ := Aside0.mk (hbox); have n3_ := Aside0.mk ((by rw [hg]; exact (below_size (by repeat (first | (with_reducible first | exact HB.out | apply zA | apply zN | apply zD) | exact HB.out))) : w.heap.size ≤ gb182)); have n4_ := Aside0.mk ((by rw [hg]; exact (below_size (by repeat (first | (with_reducible first | exact HB.out | apply zA | apply zN | apply zD) | exact HB.out))) : w.heap.size ≤ gb182)); clear HO0; clear HB; have HO0 := n0_; have HB := n1_; have BK182 := n2_; have GW182 := n3_; have GE182 := n4_; clear n0_ n1_ n2_ n3_ n4_; clear hb hbox hg; have hcz4_0 : w3.cell? ⟨gb182, 0, none⟩ = some (.string (⟨#[]⟩ : ByteArray)) := (zC BK182.out 0).trans rfl; have hcz4_1 : w3.cell? ⟨gb182, 1, none⟩ = some (.string (⟨#[]⟩ : ByteArray)) := (zC BK182.out 1).trans rfl; have hcz4_2 : w3.cell? ⟨gb182, 2, none⟩ = some (.string (⟨#[]⟩ : ByteArray)) := (zC BK182.out 2).trans rfl; have hcz4_3 : w3.cell? ⟨gb182, 3, none⟩ = some (.slice none 0 0) := (zC BK182.out 3).trans rfl; have hcz4_4 : w3.cell? ⟨gb182, 4, none⟩ = some (.slice none 0 0) := (zC BK182.out 4).trans rfl; have hfz4_0 := zR BK182.out 0; have hfz4_1 := zR BK182.out 1; have hfz4_2 := zR BK182.out 2; have hfz4_3 := zR BK182.out 3; have hfz4_4 := zR BK182.out 4))
  refine bodyPost_ret (results_ct rfl _ _ gb182 25 #[.string (⟨#[]⟩ : ByteArray), .string (⟨#[]⟩ : ByteArray), .string (⟨#[]⟩ : ByteArray), .slice none 0 0, .slice none 0 0] (0, 0) _ rfl (by (with_reducible repeat first | apply zM | apply zE | apply zF); refine zP (cs := #[.string (⟨#[]⟩ : ByteArray), .string (⟨#[]⟩ : ByteArray), .string (⟨#[]⟩ : ByteArray), .slice none 0 0, .slice none 0 0]) ?_ 4 _ rfl; (with_reducible repeat first | apply zM | apply zE | apply zF); refine zP (cs := #[.string (⟨#[]⟩ : ByteArray), .string (⟨#[]⟩ : ByteArray), .string (⟨#[]⟩ : ByteArray), .slice none 0 0, .slice none 0 0]) ?_ 3 _ rfl; (with_reducible repeat first | apply zM | apply zE | apply zF); refine zP (cs := #[.string (⟨#[]⟩ : ByteArray), .string (⟨#[]⟩ : ByteArray), .string (⟨#[]⟩ : ByteArray), .slice none 0 0, .slice none 0 0]) ?_ 2 _ rfl; (with_reducible repeat first | apply zM | apply zE | apply zF); refine zP (cs := #[.string (⟨#[]⟩ : ByteArray), .string (⟨#[]⟩ : ByteArray), .string (⟨#[]⟩ : ByteArray), .slice none 0 0, .slice none 0 0]) ?_ 1 _ rfl; (with_reducible repeat first | apply zM | apply zE | apply zF); refine zP (cs := #[.string (⟨#[]⟩ : ByteArray), .string (⟨#[]⟩ : ByteArray), .string (⟨#[]⟩ : ByteArray), .slice none 0 0, .slice none 0 0]) ?_ 0 _ rfl; (with_reducible repeat first | apply zM | apply zE | apply zF); exact BK182.out) Try.underlying25 rfl (by kernel_rfl)) rfl ?_
  exact ⟨_, _, by first | rfl | (simp [errW_none, errW_some] <;> rfl) | (simp [*, errW_none, errW_some] <;> rfl), by first | exact Kd.R_nil _ _ _ _ _ | exact Kd.N_nil _ _ _ _ _ | exact Kd.V_nil _ _ _ _ _ | exact Kd.Q_nil _ _ _ _ _ | exact Kd.S_nil _ _ _ _ _, by first | exact Kd.R_nil _ _ _ _ _ | exact Kd.N_nil _ _ _ _ _ | exact Kd.V_nil _ _ _ _ _ | exact Kd.Q_nil _ _ _ _ _ | exact Kd.S_nil _ _ _ _ _, by repeat (first | (with_reducible first | exact HB.out | apply zA | apply zN | apply zD | refine zS ?_ GE182.out) | exact HB.out)⟩
 ·
  rw [if_neg c2] at H
  have c2b0 : ((l0.length : Int) == 0) = false := beq_eq_false_iff_ne.mpr c2
  have c2b1 : ((l0.length : Int) != 0) = true := bne_iff_ne.mpr c2
  have c2b2 : ¬ (l0 = []) := fun h_ => c2 (by rw [h_]; rfl)
  replace H := Option.bind_eq_some_iff.mp H
  obtain ⟨t183, A50, H⟩ := H
  replace H : (if t183 = true then ((flat_deep.f k l0).bind fun t184 => (if t184 = true then ((flat_cut.f k l0).bind fun t185 => (flat_Tree.j0 k t185)) else (flat_Tree.j0 k l0))) else (some ((⟨#[]⟩ : ByteArray), (⟨#[]⟩ : ByteArray), (⟨#[]⟩ : ByteArray), ([] : List (S69)), ([] : List (S25)), 2))) = some (r1, r2, r3, r4, r5, r6) := H
  have A5 := Aside0.mk A50
  clear A50
  by_cases c6 : t183 = true
  ·
   subst c6
   have H1 : ((flat_deep.f k l0).bind fun t184 => (if t184 = true then ((flat_cut.f k l0).bind fun t185 => (flat_Tree.j0 k t185)) else (flat_Tree.j0 k l0))) = some (r1, r2, r3, r4, r5, r6) := by rw [if_pos rfl] at H; exact H
   clear H
   have H := H1
   clear H1
   replace H := Option.bind_eq_some_iff.mp H
   obtain ⟨t184, A70, H⟩ := H
   replace H : (if t184 = true then ((flat_cut.f k l0).bind fun t185 => (flat_Tree.j0 k t185)) else (flat_Tree.j0 k l0)) = some (r1, r2, r3, r4, r5, r6) := H
   have A7 := Aside0.mk A70
   clear A70
   have HC8 := Aside0.mk H
   clear H
   go_enter Try.func12, Try.ntmps12
   go_upto_if 19 with (first | ((with_reducible refine gate_dst (N := 2) rfl ?_); refine box_event ?hg (N := 2) ?hd (cs := #[.string (⟨#[]⟩ : ByteArray), .string (⟨#[]⟩ : ByteArray), .string (⟨#[]⟩ : ByteArray), .slice none 0 0, .slice none 0 0]) (t := 25) ?hr ?_; (case hd => rfl); (case hg => rfl); (case hr => first | (go_simp; done) | (go_simp; rfl)); intro gb182 hg w9 hbox hb; have n0_ := Aside0.mk (Kd.V_below (Kd.V_elderB (by (with_reducible repeat (first | apply Kd.V_alloc | apply Kd.V_drewN | apply Kd.V_drew)); exact HO0.out) gb182 (Nat.le_of_eq hg.symm)) hb); have n1_ := Aside0.mk (below_step (by repeat (first | (with_reducible first | exact HB.out | apply zA | apply zN | apply zD) | exact HB.out)) hb); have n2_ := Aside0.mk (hbox); have n3_ := Aside0.mk ((by rw [hg]; exact (below_size (by repeat (first | (with_reducible first | exact HB.out | apply zA | apply zN | apply zD) | exact HB.out))) : w.heap.size ≤ gb182)); have n4_ := Aside0.mk ((by rw [hg]; exact (below_size (by repeat (first | (with_reducible first | exact HB.out | apply zA | apply zN | apply zD) | exact HB.out))) : w.heap.size ≤ gb182)); clear HO0; clear HB; have HO0 := n0_; have HB := n1_; have BK182 := n2_; have GW182 := n3_; have GE182 := n4_; clear n0_ n1_ n2_ n3_ n4_; clear hb hbox hg) | ((with_reducible refine gate_callee (f := 33) rfl ?_); refine goesL_ (some 15) rfl rfl Try.func33 (by kernel_rfl) rfl #[.slice A0 l0.length c0] rfl (by (try simp only [List.map_toArray, List.map_cons, List.map_nil]); first | done | rfl | (simp only [List.length_drop, List.length_take]; rfl)) ?_; (with_reducible refine (flat_formed.calls k _ _ l0 true _ ?side1 ?side2 A5.out).mono ?_); (case side1 => repeat (first | exact (Kd.V_reads' HO0.out).2.2 | (with_reducible refine Kd.C_alloc ?_ _) | (with_reducible refine Kd.C_drewN ?_ _) | (with_reducible refine Kd.C_drew ?_))); (case side2 => exact (Kd.V_reads' HO0.out).2.1); rintro e w10 ⟨rfl, hb⟩; refine ⟨_, rfl, ?_⟩; have n0_ := Aside0.mk (Kd.V_below (by (with_reducible repeat (first | apply Kd.V_alloc | apply Kd.V_drewN | apply Kd.V_drew)); exact HO0.out) hb); have n1_ := Aside0.mk (blk_below (g := gb182) (o := .cells #[.string (⟨#[]⟩ : ByteArray), .string (⟨#[]⟩ : ByteArray), .string (⟨#[]⟩ : ByteArray), .slice none 0 0, .slice none 0 0] 25 (0, 0)) (by (with_reducible repeat first | apply zM | apply zE | apply zF); exact BK182.out) hb); have n2_ := Aside0.mk (below_step (by repeat (first | (with_reducible first | exact HB.out | apply zA | apply zN | apply zD | refine zS ?_ GE182.out) | exact HB.out)) hb); clear HO0; clear BK182; clear HB; have HO0 := n0_; have BK182 := n1_; have HB := n2_; clear n0_ n1_ n2_; (try clear hb); (try clear hb2); (try clear hk); (try clear hi)) | ((with_reducible refine gate_callee (f := 34) rfl ?_); refine goesL_ (some 19) rfl rfl Try.func34 (by kernel_rfl) rfl #[.slice A0 l0.length c0] rfl (by (try simp only [List.map_toArray, List.map_cons, List.map_nil]); first | done | rfl | (simp only [List.length_drop, List.length_take]; rfl)) ?_; (with_reducible refine (flat_deep.calls k _ _ l0 t184 _ ?side1 ?side2 A7.out).mono ?_); (case side1 => repeat (first | exact (Kd.V_reads' HO0.out).2.2 | (with_reducible refine Kd.C_alloc ?_ _) | (with_reducible refine Kd.C_drewN ?_ _) | (with_reducible refine Kd.C_drew ?_))); (case side2 => exact (Kd.V_reads' HO0.out).2.1); rintro e w11 ⟨rfl, hb⟩; refine ⟨_, rfl, ?_⟩; have n0_ := Aside0.mk (Kd.V_below (by (with_reducible repeat (first | apply Kd.V_alloc | apply Kd.V_drewN | apply Kd.V_drew)); exact HO0.out) hb); have n1_ := Aside0.mk (blk_below (g := gb182) (o := .cells #[.string (⟨#[]⟩ : ByteArray), .string (⟨#[]⟩ : ByteArray), .string (⟨#[]⟩ : ByteArray), .slice none 0 0, .slice none 0 0] 25 (0, 0)) (by (with_reducible repeat first | apply zM | apply zE | apply zF); exact BK182.out) hb); have n2_ := Aside0.mk (below_step (by repeat (first | (with_reducible first | exact HB.out | apply zA | apply zN | apply zD | refine zS ?_ GE182.out) | exact HB.out)) hb); clear HO0; clear BK182; clear HB; have HO0 := n0_; have BK182 := n1_; have HB := n2_; clear n0_ n1_ n2_; (try clear hb); (try clear hb2); (try clear hk); (try clear hi)))
   (try simp only [Act.put, List.setIfInBounds_toArray, List.set_cons_zero, List.set_cons_succ])
   go_cut [0] (fun v0 wc => ∃ (kq : Nat) (x0_7 : List (S53)), Aside0 (flat_Tree.j0 kq x0_7 = some (r1, r2, r3, r4, r5, r6)) ∧ Aside0 (kq ≤ k) ∧ Aside0 (Kd.V k53 53 wc w.heap.size (fun k_ => (P0_ k_ ∨ w.heap.size ≤ k_) ∧ k_ ≠ gb182) v0 x0_7) ∧ Aside0 (wc.heap[gb182]? = some (.cells #[.string (⟨#[]⟩ : ByteArray), .string (⟨#[]⟩ : ByteArray), .string (⟨#[]⟩ : ByteArray), (.slice none 0 0), (.slice none 0 0)] 25 (0, 0))) ∧ Aside0 (Below w.heap.size w wc))
   case first =>
    have H := HC8.out
    clear HC8
    by_cases c12 : t184 = true
    ·
     subst c12
     have H1 : ((flat_cut.f k l0).bind fun t185 => (flat_Tree.j0 k t185)) = some (r1, r2, r3, r4, r5, r6) := by rw [if_pos rfl] at H; exact H
     clear H
     have H := H1
     clear H1
     replace H := Option.bind_eq_some_iff.mp H
     obtain ⟨t185, A130, H⟩ := H
     replace H : (flat_Tree.j0 k t185) = some (r1, r2, r3, r4, r5, r6) := H
     have A13 := Aside0.mk A130
     clear A130
     have H' := Aside0.mk H
     clear H
     go_wp2_with (first | ((with_reducible refine gate_callee (f := 35) rfl ?_); refine goesL_ (some 21) rfl rfl Try.func35 (by kernel_rfl) rfl #[.slice A0 l0.length c0] rfl (by (try simp only [List.map_toArray, List.map_cons, List.map_nil]); first | done | rfl | (simp only [List.length_drop, List.length_take]; rfl)) ?_; (with_reducible refine (flat_cut.calls k (fun k_ => ((P0_ k_ ∨ w.heap.size ≤ k_) ∧ k_ ≠ gb182)) _ _ l0 t185 _ ?side1 A13.out).mono ?_); (case side1 => exact HO0.out); rintro e w14 ⟨v186, rfl, ho0, hb⟩; refine ⟨_, rfl, ?_⟩; have n0_ := Aside0.mk (Kd.V_below (by (with_reducible repeat (first | apply Kd.V_alloc | apply Kd.V_drewN | apply Kd.V_drew)); exact HO0.out) hb); have n1_ := Aside0.mk (Kd.V_lower (Kd.V_mono (ok' := fun k_ => (P0_ k_ ∨ w.heap.size ≤ k_) ∧ k_ ≠ gb182) ho0 (fun k_ hk_ => ⟨Or.elim hk_ (fun hs_ => hs_.1) (fun hn_ => (.inr (Nat.le_trans (below_size (by repeat (first | (with_reducible first | exact HB.out | apply zA | apply zN | apply zD | refine zS ?_ GE182.out) | exact HB.out))) hn_))), Or.elim hk_ (fun hs_ => hs_.2) (fun hn_ => (Kd.freshB (g := gb182) (o := .cells #[.string (⟨#[]⟩ : ByteArray), .string (⟨#[]⟩ : ByteArray), .string (⟨#[]⟩ : ByteArray), .slice none 0 0, .slice none 0 0] 25 (0, 0)) (by (with_reducible repeat first | apply zM | apply zE | apply zF); exact BK182.out) k_ hn_))⟩)) (below_size (by repeat (first | (with_reducible first | exact HB.out | apply zA | apply zN | apply zD | refine zS ?_ GE182.out) | exact HB.out)))); have n2_ := Aside0.mk (blk_below (g := gb182) (o := .cells #[.string (⟨#[]⟩ : ByteArray), .string (⟨#[]⟩ : ByteArray), .string (⟨#[]⟩ : ByteArray), .slice none 0 0, .slice none 0 0] 25 (0, 0)) (by (with_reducible repeat first | apply zM | apply zE | apply zF); exact BK182.out) hb); have n3_ := Aside0.mk (below_step (by repeat (first | (with_reducible first | exact HB.out | apply zA | apply zN | apply zD | refine zS ?_ GE182.out) | exact HB.out)) hb); clear HO0; clear BK182; clear HB; have HO0 := n0_; have HO187 := n1_; have BK182 := n2_; have HB := n3_; clear n0_ n1_ n2_ n3_; (try clear hb); (try clear hb2); (try clear hk); (try clear hi); (try clear ho0)))
     go_meet
     case rel => exact ⟨_, (t185), H', ⟨by first | omega | exact Nat.le_refl _⟩, ⟨by (with_reducible repeat (first | apply Kd.V_alloc | apply Kd.V_drewN | apply Kd.V_drew)); exact HO187.out⟩, ⟨by (with_reducible repeat first | apply zM | apply zE | apply zF); exact BK182.out⟩, ⟨by repeat (first | (with_reducible first | exact HB.out | apply zA | apply zN | apply zD | refine zS ?_ GE182.out) | exact HB.out)⟩⟩
    ·
     replace c12 := Bool.eq_false_iff.mpr c12
     subst c12
     have H1 : (flat_Tree.j0 k l0) = some (r1, r2, r3, r4, r5, r6) := by rw [if_neg (show ¬ (false = true) by decide)] at H; exact H
     clear H
     have H := H1
     clear H1
     have H' := Aside0.mk H
     clear H
     go_wp2
     go_meet
     case rel => exact ⟨_, (l0), H', ⟨by first | omega | exact Nat.le_refl _⟩, ⟨by (with_reducible repeat (first | apply Kd.V_alloc | apply Kd.V_drewN | apply Kd.V_drew)); exact HO0.out⟩, ⟨by (with_reducible repeat first | apply zM | apply zE | apply zF); exact BK182.out⟩, ⟨by repeat (first | (with_reducible first | exact HB.out | apply zA | apply zN | apply zD | refine zS ?_ GE182.out) | exact HB.out)⟩⟩
   case rest =>
    clear HC8
    try clear c1
    try clear c2
    try clear c2b0
    try clear c2b1
    try clear c2b2
    try clear p2
    try clear c3
    try clear c6
    try clear c12
    obtain ⟨kq, x0_7, HA, HJ7, HO_0, BK182, HB⟩ := hcut
    cases kq with
    | zero => exact absurd HA.out (by simp [flat_Tree.j0])
    | succ kj7 =>
     have H := HA.out
     clear HA
     simp only [flat_Tree.j0] at H
     replace H := Option.bind_eq_some_iff.mp H
     obtain ⟨⟨t188, t189, t190, t191, t194, t197⟩, A150, H⟩ := H
     replace H : ((vtree_Check.f kj7 t188 t189 t190 t191 t194).bind fun bt199 => (if bt199.2 = 0 then (some (t188, t189, t190, t191, t194, 0)) else (some ((⟨#[]⟩ : ByteArray), (⟨#[]⟩ : ByteArray), (⟨#[]⟩ : ByteArray), ([] : List (S69)), ([] : List (S25)), bt199.2)))) = some (r1, r2, r3, r4, r5, r6) := H
     have A15 := Aside0.mk A150
     clear A150
     replace H := Option.bind_eq_some_iff.mp H
     obtain ⟨⟨t199, t200⟩, A160, H⟩ := H
     replace H : (if t200 = 0 then (some (t188, t189, t190, t191, t194, 0)) else (some ((⟨#[]⟩ : ByteArray), (⟨#[]⟩ : ByteArray), (⟨#[]⟩ : ByteArray), ([] : List (S69)), ([] : List (S25)), t200))) = some (r1, r2, r3, r4, r5, r6) := H
     have A16 := Aside0.mk A160
     clear A160
     by_cases c17 : t200 = 0
     ·
      rw [if_pos c17] at H
      have c17b0 : (t200 == 0) = true := beq_iff_eq.mpr c17
      have c17b1 : (t200 != 0) = false := bne_eq_false_iff_eq.mpr c17
      clear c17
      simp only [Option.some.injEq, Prod.mk.injEq] at H
      obtain ⟨rfl, rfl, rfl, rfl, rfl, rfl⟩ := H
      obtain ⟨Ao18, co18, eo18⟩ := Kd.V_slice HO_0.out
      subst eo18
      go_wp2_with (first | ((with_reducible refine gate_callee (f := 36) rfl ?_); refine goesL_ (some 24) rfl rfl Try.func36 (by kernel_rfl) rfl #[.slice Ao18 x0_7.length co18, .int .i64 0] rfl (by (try simp only [List.map_toArray, List.map_cons, List.map_nil]); first | done | rfl | (simp only [List.length_drop, List.length_take]; rfl)) ?_; (with_reducible refine (flat_build.calls kj7 _ _ x0_7 0 t188 t189 t190 t191 t194 t197 _ ?side1 ?side2 A15.out).mono ?_); (case side1 => repeat (first | exact (Kd.V_reads' HO_0.out).2.2 | (with_reducible refine Kd.C_alloc ?_ _) | (with_reducible refine Kd.C_drewN ?_ _) | (with_reducible refine Kd.C_drew ?_))); (case side2 => exact (Kd.V_reads' HO_0.out).2.1); rintro e w19 ⟨v192, v195, rfl, ho0, ho1, hb⟩; refine ⟨_, rfl, ?_⟩; have n0_ := Aside0.mk (Kd.V_mono (Kd.V_told (Kd.V_told (Kd.V_old (by (with_reducible repeat (first | apply Kd.V_alloc | apply Kd.V_drewN | apply Kd.V_drew)); exact HO_0.out) hb) (Kd.R_base ho0)) (Kd.R_base ho1)) (fun _ h_ => h_.1)); have n1_ := Aside0.mk (Kd.R_lower (Kd.R_newM (M := fun k_ => (w.heap.size ≤ k_)) ho0 (below_size (by repeat (first | (with_reducible first | exact HB.out | apply zA | apply zN | apply zD | refine zS ?_ GE182.out) | exact HB.out))) (fun k_ h_ => h_)) (below_size (by repeat (first | (with_reducible first | exact HB.out | apply zA | apply zN | apply zD | refine zS ?_ GE182.out) | exact HB.out)))); have n2_ := Aside0.mk (Kd.R_lower (Kd.R_newB (Kd.R_newM (M := fun k_ => (w.heap.size ≤ k_)) ho1 (below_size (by repeat (first | (with_reducible first | exact HB.out | apply zA | apply zN | apply zD | refine zS ?_ GE182.out) | exact HB.out))) (fun k_ h_ => h_)) (g := gb182) (o := .cells #[.string (⟨#[]⟩ : ByteArray), .string (⟨#[]⟩ : ByteArray), .string (⟨#[]⟩ : ByteArray), .slice none 0 0, .slice none 0 0] 25 (0, 0)) (by (with_reducible repeat first | apply zM | apply zE | apply zF); exact BK182.out)) (below_size (by repeat (first | (with_reducible first | exact HB.out | apply zA | apply zN | apply zD | refine zS ?_ GE182.out) | exact HB.out)))); have n3_ := Aside0.mk (blk_below (g := gb182) (o := .cells #[.string (⟨#[]⟩ : ByteArray), .string (⟨#[]⟩ : ByteArray), .string (⟨#[]⟩ : ByteArray), .slice none 0 0, .slice none 0 0] 25 (0, 0)) (by (with_reducible repeat first | apply zM | apply zE | apply zF); exact BK182.out) hb); have n4_ := Aside0.mk (below_step (by repeat (first | (with_reducible first | exact HB.out | apply zA | apply zN | apply zD | refine zS ?_ GE182.out) | exact HB.out)) hb); clear HO_0; clear BK182; clear HB; have HO_0 := n0_; have HO193 := n1_; have HO196 := n2_; have BK182 := n3_; have HB := n4_; clear n0_ n1_ n2_ n3_ n4_; (try clear hb); (try clear hb2); (try clear hk); (try clear hi); (try clear ho0); (try clear ho1)) | ((with_reducible refine gate_dst (N := 4) rfl ?_); refine box_event ?hg (N := 4) ?hd (cs := #[.string (⟨#[]⟩ : ByteArray), .string (⟨#[]⟩ : ByteArray), .string (⟨#[]⟩ : ByteArray), .slice none 0 0, .slice none 0 0]) (t := 25) ?hr ?_; (case hd => rfl); (case hg => rfl); (case hr => first | (go_simp; done) | (go_simp; rfl)); intro gb198 hg w20 hbox hb; have n0_ := Aside0.mk (Kd.V_below (Kd.V_elderB (by (with_reducible repeat (first | apply Kd.V_alloc | apply Kd.V_drewN | apply Kd.V_drew)); exact HO_0.out) gb198 (Nat.le_of_eq hg.symm)) hb); have n1_ := Aside0.mk (Kd.R_below (by (with_reducible repeat (first | apply Kd.R_alloc | apply Kd.R_drewN | apply Kd.R_drew)); exact HO193.out) hb); have n2_ := Aside0.mk (Kd.R_below (Kd.R_elderB (by (with_reducible repeat (first | apply Kd.R_alloc | apply Kd.R_drewN | apply Kd.R_drew)); exact HO196.out) gb198 (Nat.le_of_eq hg.symm)) hb); have n3_ := Aside0.mk (blk_below (g := gb182) (o := .cells #[.string (⟨#[]⟩ : ByteArray), .string (⟨#[]⟩ : ByteArray), .string (⟨#[]⟩ : ByteArray), .slice none 0 0, .slice none 0 0] 25 (0, 0)) (by (with_reducible repeat first | apply zM | apply zE | apply zF); exact BK182.out) hb); have n4_ := Aside0.mk (below_step (by repeat (first | (with_reducible first | exact HB.out | apply zA | apply zN | apply zD | refine zS ?_ GE182.out) | exact HB.out)) hb); have n5_ := Aside0.mk (hbox); have n6_ := Aside0.mk ((by rw [hg]; exact (below_size (by repeat (first | (with_reducible first | exact HB.out | apply zA | apply zN | apply zD | refine zS ?_ GE182.out) | exact HB.out))) : w.heap.size ≤ gb198)); have n7_ := Aside0.mk ((by rw [hg]; exact (below_size (by repeat (first | (with_reducible first | exact HB.out | apply zA | apply zN | apply zD | refine zS ?_ GE182.out) | exact HB.out))) : w.heap.size ≤ gb198)); have n8_ := Aside0.mk ((by rw [hg]; exact Nat.ne_of_lt (blk_lt (g := gb182) (o := .cells #[.string (⟨#[]⟩ : ByteArray), .string (⟨#[]⟩ : ByteArray), .string (⟨#[]⟩ : ByteArray), .slice none 0 0, .slice none 0 0] 25 (0, 0)) (by (with_reducible repeat first | apply zM | apply zE | apply zF); exact BK182.out)) : gb182 ≠ gb198)); have n9_ := Aside0.mk ((by rw [hg]; exact Nat.ne_of_gt (blk_lt (g := gb182) (o := .cells #[.string (⟨#[]⟩ : ByteArray), .string (⟨#[]⟩ : ByteArray), .string (⟨#[]⟩ : ByteArray), .slice none 0 0, .slice none 0 0] 25 (0, 0)) (by (with_reducible repeat first | apply zM | apply zE | apply zF); exact BK182.out)) : gb198 ≠ gb182)); clear HO_0; clear HO193; clear HO196; clear BK182; clear HB; have HO_0 := n0_; have HO193 := n1_; have HO196 := n2_; have BK182 := n3_; have HB := n4_; have BK198 := n5_; have GW198 := n6_; have GE198 := n7_; have NB182_198 := n8_; have NB198_182 := n9_; clear n0_ n1_ n2_ n3_ n4_ n5_ n6_ n7_ n8_ n9_; clear hb hbox hg; have hnb21 := NB198_182.out; have hnc21 := NB182_198.out; have hcz22_0 : w20.cell? ⟨gb198, 0, none⟩ = some (.string (⟨#[]⟩ : ByteArray)) := (zC BK198.out 0).trans rfl; have hcz22_1 : w20.cell? ⟨gb198, 1, none⟩ = some (.string (⟨#[]⟩ : ByteArray)) := (zC BK198.out 1).trans rfl; have hcz22_2 : w20.cell? ⟨gb198, 2, none⟩ = some (.string (⟨#[]⟩ : ByteArray)) := (zC BK198.out 2).trans rfl; have hcz22_3 : w20.cell? ⟨gb198, 3, none⟩ = some (.slice none 0 0) := (zC BK198.out 3).trans rfl; have hcz22_4 : w20.cell? ⟨gb198, 4, none⟩ = some (.slice none 0 0) := (zC BK198.out 4).trans rfl; have hfz22_0 := zR BK198.out 0; have hfz22_1 := zR BK198.out 1; have hfz22_2 := zR BK198.out 2; have hfz22_3 := zR BK198.out 3; have hfz22_4 := zR BK198.out 4; obtain ⟨Ao23, co23, eo23⟩ := Kd.R_slice HO193.out; subst eo23; obtain ⟨Ao24, co24, eo24⟩ := Kd.R_slice HO196.out; subst eo24) | ((with_reducible refine gate_callee (f := 28) rfl ?_); refine goesL_ (some 29) rfl rfl Try.func28 (by kernel_rfl) rfl #[.agg #[.string t188, .string t189, .string t190, .slice Ao23 t191.length co23, .slice Ao24 t194.length co24]] rfl (by (try simp only [List.map_toArray, List.map_cons, List.map_nil]); first | done | rfl | (simp only [List.length_drop, List.length_take]; rfl)) ?_; (with_reducible refine (vtree_Check.calls kj7 t188 t189 t190 _ _ t191 _ _ t194 t199 t200 _ ?side1 ?side2 ?side3 ?side4 A16.out).mono ?_); (case side1 => refine (Kd.R_reads' (e := 69) (base := w.heap.size) (ok := fun k_ => ((w.heap.size ≤ k_) ∧ True)) (n := t191.length) (c := co23) ?_).2.2; exact (by (with_reducible repeat (first | apply Kd.R_alloc | apply Kd.R_drewN | apply Kd.R_drew)); exact (Kd.R_mono (Kd.R_far (p := ⟨gb198, 4, none⟩) (Kd.R_far (p := ⟨gb198, 3, none⟩) (Kd.R_far (p := ⟨gb198, 2, none⟩) (Kd.R_far (p := ⟨gb198, 1, none⟩) (Kd.R_far (p := ⟨gb198, 0, none⟩) (Kd.R_types HO193.out BK198.out (by decide)) (fun _ hk => hk.2) (.string t188)) (fun _ hk => hk.2) (.string t189)) (fun _ hk => hk.2) (.string t190)) (fun _ hk => hk.2) (.slice Ao23 t191.length co23)) (fun _ hk => hk.2) (.slice Ao24 t194.length co24)) (fun _ h_ => h_.1)))); (case side2 => exact (Kd.R_reads' HO193.out).2.1); (case side3 => refine (Kd.R_reads' (e := 25) (base := w.heap.size) (ok := fun k_ => ((((w.heap.size ≤ k_) ∧ some k_ ≠ (.slice Ao23 t191.length co23 : Value).ownBlock) ∧ k_ ≠ gb182) ∧ k_ ≠ gb198)) (n := t194.length) (c := co24) ?_).2.2; exact (by (with_reducible repeat (first | apply Kd.R_alloc | apply Kd.R_drewN | apply Kd.R_drew)); exact (Kd.R_mono (Kd.R_far (p := ⟨gb198, 4, none⟩) (Kd.R_far (p := ⟨gb198, 3, none⟩) (Kd.R_far (p := ⟨gb198, 2, none⟩) (Kd.R_far (p := ⟨gb198, 1, none⟩) (Kd.R_far (p := ⟨gb198, 0, none⟩) (Kd.R_mono HO196.out (fun k_ hk => (⟨hk, hk.2⟩ : _ ∧ k_ ≠ gb198))) (fun _ hk => hk.2) (.string t188)) (fun _ hk => hk.2) (.string t189)) (fun _ hk => hk.2) (.string t190)) (fun _ hk => hk.2) (.slice Ao23 t191.length co23)) (fun _ hk => hk.2) (.slice Ao24 t194.length co24)) (fun _ h_ => h_.1)))); (case side4 => exact (Kd.R_reads' HO196.out).2.1); rintro e w25 ⟨rfl, hb⟩; refine ⟨_, rfl, ?_⟩; have n0_ := Aside0.mk (Kd.V_below (by (with_reducible repeat (first | apply Kd.V_alloc | apply Kd.V_drewN | apply Kd.V_drew)); exact (Kd.V_mono (Kd.V_far (p := ⟨gb198, 4, none⟩) (Kd.V_far (p := ⟨gb198, 3, none⟩) (Kd.V_far (p := ⟨gb198, 2, none⟩) (Kd.V_far (p := ⟨gb198, 1, none⟩) (Kd.V_far (p := ⟨gb198, 0, none⟩) (Kd.V_mono HO_0.out (fun k_ hk => (⟨hk, hk.2⟩ : _ ∧ k_ ≠ gb198))) (fun _ hk => hk.2) (.string t188)) (fun _ hk => hk.2) (.string t189)) (fun _ hk => hk.2) (.string t190)) (fun _ hk => hk.2) (.slice Ao23 t191.length co23)) (fun _ hk => hk.2) (.slice Ao24 t194.length co24)) (fun _ h_ => h_.1))) hb); have n1_ := Aside0.mk (Kd.R_below (by (with_reducible repeat (first | apply Kd.R_alloc | apply Kd.R_drewN | apply Kd.R_drew)); exact (Kd.R_mono (Kd.R_far (p := ⟨gb198, 4, none⟩) (Kd.R_far (p := ⟨gb198, 3, none⟩) (Kd.R_far (p := ⟨gb198, 2, none⟩) (Kd.R_far (p := ⟨gb198, 1, none⟩) (Kd.R_far (p := ⟨gb198, 0, none⟩) (Kd.R_types HO193.out BK198.out (by decide)) (fun _ hk => hk.2) (.string t188)) (fun _ hk => hk.2) (.string t189)) (fun _ hk => hk.2) (.string t190)) (fun _ hk => hk.2) (.slice Ao23 t191.length co23)) (fun _ hk => hk.2) (.slice Ao24 t194.length co24)) (fun _ h_ => h_.1))) hb); have n2_ := Aside0.mk (Kd.R_below (by (with_reducible repeat (first | apply Kd.R_alloc | apply Kd.R_drewN | apply Kd.R_drew)); exact (Kd.R_mono (Kd.R_far (p := ⟨gb198, 4, none⟩) (Kd.R_far (p := ⟨gb198, 3, none⟩) (Kd.R_far (p := ⟨gb198, 2, none⟩) (Kd.R_far (p := ⟨gb198, 1, none⟩) (Kd.R_far (p := ⟨gb198, 0, none⟩) (Kd.R_mono HO196.out (fun k_ hk => (⟨hk, hk.2⟩ : _ ∧ k_ ≠ gb198))) (fun _ hk => hk.2) (.string t188)) (fun _ hk => hk.2) (.string t189)) (fun _ hk => hk.2) (.string t190)) (fun _ hk => hk.2) (.slice Ao23 t191.length co23)) (fun _ hk => hk.2) (.slice Ao24 t194.length co24)) (fun _ h_ => h_.1))) hb); have n3_ := Aside0.mk (blk_below (g := gb182) (o := .cells #[.string (⟨#[]⟩ : ByteArray), .string (⟨#[]⟩ : ByteArray), .string (⟨#[]⟩ : ByteArray), .slice none 0 0, .slice none 0 0] 25 (0, 0)) (by (with_reducible repeat first | apply zM | apply zE | apply zF); refine zG ?_ NB182_198.out _; (with_reducible repeat first | apply zM | apply zE | apply zF); refine zG ?_ NB182_198.out _; (with_reducible repeat first | apply zM | apply zE | apply zF); refine zG ?_ NB182_198.out _; (with_reducible repeat first | apply zM | apply zE | apply zF); refine zG ?_ NB182_198.out _; (with_reducible repeat first | apply zM | apply zE | apply zF); refine zG ?_ NB182_198.out _; (with_reducible repeat first | apply zM | apply zE | apply zF); exact BK182.out) hb); have n4_ := Aside0.mk (blk_below (g := gb198) (o := .cells #[.string t188, .string t189, .string t190, .slice Ao23 t191.length co23, .slice Ao24 t194.length co24] 25 (0, 0)) (by (with_reducible repeat first | apply zM | apply zE | apply zF); refine zP (cs := #[.string t188, .string t189, .string t190, .slice Ao23 t191.length co23, .slice none 0 0]) ?_ 4 _ rfl; (with_reducible repeat first | apply zM | apply zE | apply zF); refine zP (cs := #[.string t188, .string t189, .string t190, .slice none 0 0, .slice none 0 0]) ?_ 3 _ rfl; (with_reducible repeat first | apply zM | apply zE | apply zF); refine zP (cs := #[.string t188, .string t189, .string (⟨#[]⟩ : ByteArray), .slice none 0 0, .slice none 0 0]) ?_ 2 _ rfl; (with_reducible repeat first | apply zM | apply zE | apply zF); refine zP (cs := #[.string t188, .string (⟨#[]⟩ : ByteArray), .string (⟨#[]⟩ : ByteArray), .slice none 0 0, .slice none 0 0]) ?_ 1 _ rfl; (with_reducible repeat first | apply zM | apply zE | apply zF); refine zP (cs := #[.string (⟨#[]⟩ : ByteArray), .string (⟨#[]⟩ : ByteArray), .string (⟨#[]⟩ : ByteArray), .slice none 0 0, .slice none 0 0]) ?_ 0 _ rfl; (with_reducible repeat first | apply zM | apply zE | apply zF); exact BK198.out) hb); have n5_ := Aside0.mk (below_step (by repeat (first | (with_reducible first | exact HB.out | apply zA | apply zN | apply zD | refine zS ?_ GE182.out | refine zS ?_ GE198.out) | exact HB.out)) hb); clear HO_0; clear HO193; clear HO196; clear BK182; clear BK198; clear HB; have HO_0 := n0_; have HO193 := n1_; have HO196 := n2_; have BK182 := n3_; have BK198 := n4_; have HB := n5_; clear n0_ n1_ n2_ n3_ n4_ n5_; (try clear hb); (try clear hb2); (try clear hk); (try clear hi); have hcz26_0 : w25.cell? ⟨gb198, 0, none⟩ = some (.string t188) := (zC BK198.out 0).trans rfl; have hcz26_1 : w25.cell? ⟨gb198, 1, none⟩ = some (.string t189) := (zC BK198.out 1).trans rfl; have hcz26_2 : w25.cell? ⟨gb198, 2, none⟩ = some (.string t190) := (zC BK198.out 2).trans rfl; have hcz26_3 : w25.cell? ⟨gb198, 3, none⟩ = some (.slice Ao23 t191.length co23) := (zC BK198.out 3).trans rfl; have hcz26_4 : w25.cell? ⟨gb198, 4, none⟩ = some (.slice Ao24 t194.length co24) := (zC BK198.out 4).trans rfl; have hfz26_0 := zR BK198.out 0; have hfz26_1 := zR BK198.out 1; have hfz26_2 := zR BK198.out 2; have hfz26_3 := zR BK198.out 3; have hfz26_4 := zR BK198.out 4; have hcz27_0 : w25.cell? ⟨gb182, 0, none⟩ = some (.string (⟨#[]⟩ : ByteArray)) := (zC BK182.out 0).trans rfl; have hcz27_1 : w25.cell? ⟨gb182, 1, none⟩ = some (.string (⟨#[]⟩ : ByteArray)) := (zC BK182.out 1).trans rfl; have hcz27_2 : w25.cell? ⟨gb182, 2, none⟩ = some (.string (⟨#[]⟩ : ByteArray)) := (zC BK182.out 2).trans rfl; have hcz27_3 : w25.cell? ⟨gb182, 3, none⟩ = some (.slice none 0 0) := (zC BK182.out 3).trans rfl; have hcz27_4 : w25.cell? ⟨gb182, 4, none⟩ = some (.slice none 0 0) := (zC BK182.out 4).trans rfl; have hfz27_0 := zR BK182.out 0; have hfz27_1 := zR BK182.out 1; have hfz27_2 := zR BK182.out 2; have hfz27_3 := zR BK182.out 3; have hfz27_4 := zR BK182.out 4))
      refine bodyPost_ret (results_ct rfl _ _ gb182 25 #[.string t188, .string t189, .string t190, .slice Ao23 t191.length co23, .slice Ao24 t194.length co24] (0, 0) _ rfl (by (with_reducible repeat first | apply zM | apply zE | apply zF); refine zP (cs := #[.string t188, .string t189, .string t190, .slice Ao23 t191.length co23, .slice none 0 0]) ?_ 4 _ rfl; (with_reducible repeat first | apply zM | apply zE | apply zF); refine zP (cs := #[.string t188, .string t189, .string t190, .slice none 0 0, .slice none 0 0]) ?_ 3 _ rfl; (with_reducible repeat first | apply zM | apply zE | apply zF); refine zP (cs := #[.string t188, .string t189, .string (⟨#[]⟩ : ByteArray), .slice none 0 0, .slice none 0 0]) ?_ 2 _ rfl; (with_reducible repeat first | apply zM | apply zE | apply zF); refine zP (cs := #[.string t188, .string (⟨#[]⟩ : ByteArray), .string (⟨#[]⟩ : ByteArray), .slice none 0 0, .slice none 0 0]) ?_ 1 _ rfl; (with_reducible repeat first | apply zM | apply zE | apply zF); refine zP (cs := #[.string (⟨#[]⟩ : ByteArray), .string (⟨#[]⟩ : ByteArray), .string (⟨#[]⟩ : ByteArray), .slice none 0 0, .slice none 0 0]) ?_ 0 _ rfl; (with_reducible repeat first | apply zM | apply zE | apply zF); exact BK182.out) Try.underlying25 rfl (by kernel_rfl)) rfl ?_
      exact ⟨_, _, by first | rfl | (simp [errW_none, errW_some] <;> rfl) | (simp [*, errW_none, errW_some] <;> rfl), by (with_reducible repeat (first | apply Kd.R_alloc | apply Kd.R_drewN | apply Kd.R_drew)); exact Kd.R_mono (Kd.R_far (p := ⟨gb182, 4, none⟩) (Kd.R_far (p := ⟨gb182, 3, none⟩) (Kd.R_far (p := ⟨gb182, 2, none⟩) (Kd.R_far (p := ⟨gb182, 1, none⟩) (Kd.R_far (p := ⟨gb182, 0, none⟩) (Kd.R_types HO193.out BK182.out (by decide)) (fun _ hk => hk.2) (.string t188)) (fun _ hk => hk.2) (.string t189)) (fun _ hk => hk.2) (.string t190)) (fun _ hk => hk.2) (.slice Ao23 t191.length co23)) (fun _ hk => hk.2) (.slice Ao24 t194.length co24)) (fun _ hk => hk.1.1), by (with_reducible repeat (first | apply Kd.R_alloc | apply Kd.R_drewN | apply Kd.R_drew)); exact Kd.R_mono (Kd.R_far (p := ⟨gb182, 4, none⟩) (Kd.R_far (p := ⟨gb182, 3, none⟩) (Kd.R_far (p := ⟨gb182, 2, none⟩) (Kd.R_far (p := ⟨gb182, 1, none⟩) (Kd.R_far (p := ⟨gb182, 0, none⟩) (Kd.R_mono HO196.out (fun k_ hk => (⟨hk, hk.1.2⟩ : _ ∧ k_ ≠ gb182))) (fun _ hk => hk.2) (.string t188)) (fun _ hk => hk.2) (.string t189)) (fun _ hk => hk.2) (.string t190)) (fun _ hk => hk.2) (.slice Ao23 t191.length co23)) (fun _ hk => hk.2) (.slice Ao24 t194.length co24)) (fun _ hk => ⟨hk.1.1.1.1, hk.1.1.1.2⟩), by repeat (first | (with_reducible first | exact HB.out | apply zA | apply zN | apply zD | refine zS ?_ GE182.out | refine zS ?_ GE198.out) | exact HB.out)⟩
     ·
      rw [if_neg c17] at H
      have c17b0 : (t200 == 0) = false := beq_eq_false_iff_ne.mpr c17
      have c17b1 : (t200 != 0) = true := bne_iff_ne.mpr c17
      simp only [Option.some.injEq, Prod.mk.injEq] at H
      obtain ⟨rfl, rfl, rfl, rfl, rfl, rfl⟩ := H
      obtain ⟨Ao28, co28, eo28⟩ := Kd.V_slice HO_0.out
      subst eo28
      go_wp2_with (first | ((with_reducible refine gate_callee (f := 36) rfl ?_); refine goesL_ (some 24) rfl rfl Try.func36 (by kernel_rfl) rfl #[.slice Ao28 x0_7.length co28, .int .i64 0] rfl (by (try simp only [List.map_toArray, List.map_cons, List.map_nil]); first | done | rfl | (simp only [List.length_drop, List.length_take]; rfl)) ?_; (with_reducible refine (flat_build.calls kj7 _ _ x0_7 0 t188 t189 t190 t191 t194 t197 _ ?side1 ?side2 A15.out).mono ?_); (case side1 => repeat (first | exact (Kd.V_reads' HO_0.out).2.2 | (with_reducible refine Kd.C_alloc ?_ _) | (with_reducible refine Kd.C_drewN ?_ _) | (with_reducible refine Kd.C_drew ?_))); (case side2 => exact (Kd.V_reads' HO_0.out).2.1); rintro e w29 ⟨v192, v195, rfl, ho0, ho1, hb⟩; refine ⟨_, rfl, ?_⟩; have n0_ := Aside0.mk (Kd.V_mono (Kd.V_told (Kd.V_told (Kd.V_old (by (with_reducible repeat (first | apply Kd.V_alloc | apply Kd.V_drewN | apply Kd.V_drew)); exact HO_0.out) hb) (Kd.R_base ho0)) (Kd.R_base ho1)) (fun _ h_ => h_.1)); have n1_ := Aside0.mk (Kd.R_lower (Kd.R_newM (M := fun k_ => (w.heap.size ≤ k_)) ho0 (below_size (by repeat (first | (with_reducible first | exact HB.out | apply zA | apply zN | apply zD | refine zS ?_ GE182.out) | exact HB.out))) (fun k_ h_ => h_)) (below_size (by repeat (first | (with_reducible first | exact HB.out | apply zA | apply zN | apply zD | refine zS ?_ GE182.out) | exact HB.out)))); have n2_ := Aside0.mk (Kd.R_lower (Kd.R_newB (Kd.R_newM (M := fun k_ => (w.heap.size ≤ k_)) ho1 (below_size (by repeat (first | (with_reducible first | exact HB.out | apply zA | apply zN | apply zD | refine zS ?_ GE182.out) | exact HB.out))) (fun k_ h_ => h_)) (g := gb182) (o := .cells #[.string (⟨#[]⟩ : ByteArray), .string (⟨#[]⟩ : ByteArray), .string (⟨#[]⟩ : ByteArray), .slice none 0 0, .slice none 0 0] 25 (0, 0)) (by (with_reducible repeat first | apply zM | apply zE | apply zF); exact BK182.out)) (below_size (by repeat (first | (with_reducible first | exact HB.out | apply zA | apply zN | apply zD | refine zS ?_ GE182.out) | exact HB.out)))); have n3_ := Aside0.mk (blk_below (g := gb182) (o := .cells #[.string (⟨#[]⟩ : ByteArray), .string (⟨#[]⟩ : ByteArray), .string (⟨#[]⟩ : ByteArray), .slice none 0 0, .slice none 0 0] 25 (0, 0)) (by (with_reducible repeat first | apply zM | apply zE | apply zF); exact BK182.out) hb); have n4_ := Aside0.mk (below_step (by repeat (first | (with_reducible first | exact HB.out | apply zA | apply zN | apply zD | refine zS ?_ GE182.out) | exact HB.out)) hb); clear HO_0; clear BK182; clear HB; have HO_0 := n0_; have HO193 := n1_; have HO196 := n2_; have BK182 := n3_; have HB := n4_; clear n0_ n1_ n2_ n3_ n4_; (try clear hb); (try clear hb2); (try clear hk); (try clear hi); (try clear ho0); (try clear ho1)) | ((with_reducible refine gate_dst (N := 4) rfl ?_); refine box_event ?hg (N := 4) ?hd (cs := #[.string (⟨#[]⟩ : ByteArray), .string (⟨#[]⟩ : ByteArray), .string (⟨#[]⟩ : ByteArray), .slice none 0 0, .slice none 0 0]) (t := 25) ?hr ?_; (case hd => rfl); (case hg => rfl); (case hr => first | (go_simp; done) | (go_simp; rfl)); intro gb198 hg w30 hbox hb; have n0_ := Aside0.mk (Kd.V_below (Kd.V_elderB (by (with_reducible repeat (first | apply Kd.V_alloc | apply Kd.V_drewN | apply Kd.V_drew)); exact HO_0.out) gb198 (Nat.le_of_eq hg.symm)) hb); have n1_ := Aside0.mk (Kd.R_below (by (with_reducible repeat (first | apply Kd.R_alloc | apply Kd.R_drewN | apply Kd.R_drew)); exact HO193.out) hb); have n2_ := Aside0.mk (Kd.R_below (Kd.R_elderB (by (with_reducible repeat (first | apply Kd.R_alloc | apply Kd.R_drewN | apply Kd.R_drew)); exact HO196.out) gb198 (Nat.le_of_eq hg.symm)) hb); have n3_ := Aside0.mk (blk_below (g := gb182) (o := .cells #[.string (⟨#[]⟩ : ByteArray), .string (⟨#[]⟩ : ByteArray), .string (⟨#[]⟩ : ByteArray), .slice none 0 0, .slice none 0 0] 25 (0, 0)) (by (with_reducible repeat first | apply zM | apply zE | apply zF); exact BK182.out) hb); have n4_ := Aside0.mk (below_step (by repeat (first | (with_reducible first | exact HB.out | apply zA | apply zN | apply zD | refine zS ?_ GE182.out) | exact HB.out)) hb); have n5_ := Aside0.mk (hbox); have n6_ := Aside0.mk ((by rw [hg]; exact (below_size (by repeat (first | (with_reducible first | exact HB.out | apply zA | apply zN | apply zD | refine zS ?_ GE182.out) | exact HB.out))) : w.heap.size ≤ gb198)); have n7_ := Aside0.mk ((by rw [hg]; exact (below_size (by repeat (first | (with_reducible first | exact HB.out | apply zA | apply zN | apply zD | refine zS ?_ GE182.out) | exact HB.out))) : w.heap.size ≤ gb198)); have n8_ := Aside0.mk ((by rw [hg]; exact Nat.ne_of_lt (blk_lt (g := gb182) (o := .cells #[.string (⟨#[]⟩ : ByteArray), .string (⟨#[]⟩ : ByteArray), .string (⟨#[]⟩ : ByteArray), .slice none 0 0, .slice none 0 0] 25 (0, 0)) (by (with_reducible repeat first | apply zM | apply zE | apply zF); exact BK182.out)) : gb182 ≠ gb198)); have n9_ := Aside0.mk ((by rw [hg]; exact Nat.ne_of_gt (blk_lt (g := gb182) (o := .cells #[.string (⟨#[]⟩ : ByteArray), .string (⟨#[]⟩ : ByteArray), .string (⟨#[]⟩ : ByteArray), .slice none 0 0, .slice none 0 0] 25 (0, 0)) (by (with_reducible repeat first | apply zM | apply zE | apply zF); exact BK182.out)) : gb198 ≠ gb182)); clear HO_0; clear HO193; clear HO196; clear BK182; clear HB; have HO_0 := n0_; have HO193 := n1_; have HO196 := n2_; have BK182 := n3_; have HB := n4_; have BK198 := n5_; have GW198 := n6_; have GE198 := n7_; have NB182_198 := n8_; have NB198_182 := n9_; clear n0_ n1_ n2_ n3_ n4_ n5_ n6_ n7_ n8_ n9_; clear hb hbox hg; have hnb31 := NB198_182.out; have hnc31 := NB182_198.out; have hcz32_0 : w30.cell? ⟨gb198, 0, none⟩ = some (.string (⟨#[]⟩ : ByteArray)) := (zC BK198.out 0).trans rfl; have hcz32_1 : w30.cell? ⟨gb198, 1, none⟩ = some (.string (⟨#[]⟩ : ByteArray)) := (zC BK198.out 1).trans rfl; have hcz32_2 : w30.cell? ⟨gb198, 2, none⟩ = some (.string (⟨#[]⟩ : ByteArray)) := (zC BK198.out 2).trans rfl; have hcz32_3 : w30.cell? ⟨gb198, 3, none⟩ = some (.slice none 0 0) := (zC BK198.out 3).trans rfl; have hcz32_4 : w30.cell? ⟨gb198, 4, none⟩ = some (.slice none 0 0) := (zC BK198.out 4).trans rfl; have hfz32_0 := zR BK198.out 0; have hfz32_1 := zR BK198.out 1; have hfz32_2 := zR BK198.out 2; have hfz32_3 := zR BK198.out 3; have hfz32_4 := zR BK198.out 4; obtain ⟨Ao33, co33, eo33⟩ := Kd.R_slice HO193.out; subst eo33; obtain ⟨Ao34, co34, eo34⟩ := Kd.R_slice HO196.out; subst eo34) | ((with_reducible refine gate_callee (f := 28) rfl ?_); refine goesL_ (some 29) rfl rfl Try.func28 (by kernel_rfl) rfl #[.agg #[.string t188, .string t189, .string t190, .slice Ao33 t191.length co33, .slice Ao34 t194.length co34]] rfl (by (try simp only [List.map_toArray, List.map_cons, List.map_nil]); first | done | rfl | (simp only [List.length_drop, List.length_take]; rfl)) ?_; (with_reducible refine (vtree_Check.calls kj7 t188 t189 t190 _ _ t191 _ _ t194 t199 t200 _ ?side1 ?side2 ?side3 ?side4 A16.out).mono ?_); (case side1 => refine (Kd.R_reads' (e := 69) (base := w.heap.size) (ok := fun k_ => ((w.heap.size ≤ k_) ∧ True)) (n := t191.length) (c := co33) ?_).2.2; exact (by (with_reducible repeat (first | apply Kd.R_alloc | apply Kd.R_drewN | apply Kd.R_drew)); exact (Kd.R_mono (Kd.R_far (p := ⟨gb198, 4, none⟩) (Kd.R_far (p := ⟨gb198, 3, none⟩) (Kd.R_far (p := ⟨gb198, 2, none⟩) (Kd.R_far (p := ⟨gb198, 1, none⟩) (Kd.R_far (p := ⟨gb198, 0, none⟩) (Kd.R_types HO193.out BK198.out (by decide)) (fun _ hk => hk.2) (.string t188)) (fun _ hk => hk.2) (.string t189)) (fun _ hk => hk.2) (.string t190)) (fun _ hk => hk.2) (.slice Ao33 t191.length co33)) (fun _ hk => hk.2) (.slice Ao34 t194.length co34)) (fun _ h_ => h_.1)))); (case side2 => exact (Kd.R_reads' HO193.out).2.1); (case side3 => refine (Kd.R_reads' (e := 25) (base := w.heap.size) (ok := fun k_ => ((((w.heap.size ≤ k_) ∧ some k_ ≠ (.slice Ao33 t191.length co33 : Value).ownBlock) ∧ k_ ≠ gb182) ∧ k_ ≠ gb198)) (n := t194.length) (c := co34) ?_).2.2; exact (by (with_reducible repeat (first | apply Kd.R_alloc | apply Kd.R_drewN | apply Kd.R_drew)); exact (Kd.R_mono (Kd.R_far (p := ⟨gb198, 4, none⟩) (Kd.R_far (p := ⟨gb198, 3, none⟩) (Kd.R_far (p := ⟨gb198, 2, none⟩) (Kd.R_far (p := ⟨gb198, 1, none⟩) (Kd.R_far (p := ⟨gb198, 0, none⟩) (Kd.R_mono HO196.out (fun k_ hk => (⟨hk, hk.2⟩ : _ ∧ k_ ≠ gb198))) (fun _ hk => hk.2) (.string t188)) (fun _ hk => hk.2) (.string t189)) (fun _ hk => hk.2) (.string t190)) (fun _ hk => hk.2) (.slice Ao33 t191.length co33)) (fun _ hk => hk.2) (.slice Ao34 t194.length co34)) (fun _ h_ => h_.1)))); (case side4 => exact (Kd.R_reads' HO196.out).2.1); rintro e w35 ⟨rfl, hb⟩; refine ⟨_, rfl, ?_⟩; have n0_ := Aside0.mk (Kd.V_below (by (with_reducible repeat (first | apply Kd.V_alloc | apply Kd.V_drewN | apply Kd.V_drew)); exact (Kd.V_mono (Kd.V_far (p := ⟨gb198, 4, none⟩) (Kd.V_far (p := ⟨gb198, 3, none⟩) (Kd.V_far (p := ⟨gb198, 2, none⟩) (Kd.V_far (p := ⟨gb198, 1, none⟩) (Kd.V_far (p := ⟨gb198, 0, none⟩) (Kd.V_mono HO_0.out (fun k_ hk => (⟨hk, hk.2⟩ : _ ∧ k_ ≠ gb198))) (fun _ hk => hk.2) (.string t188)) (fun _ hk => hk.2) (.string t189)) (fun _ hk => hk.2) (.string t190)) (fun _ hk => hk.2) (.slice Ao33 t191.length co33)) (fun _ hk => hk.2) (.slice Ao34 t194.length co34)) (fun _ h_ => h_.1))) hb); have n1_ := Aside0.mk (Kd.R_below (by (with_reducible repeat (first | apply Kd.R_alloc | apply Kd.R_drewN | apply Kd.R_drew)); exact (Kd.R_mono (Kd.R_far (p := ⟨gb198, 4, none⟩) (Kd.R_far (p := ⟨gb198, 3, none⟩) (Kd.R_far (p := ⟨gb198, 2, none⟩) (Kd.R_far (p := ⟨gb198, 1, none⟩) (Kd.R_far (p := ⟨gb198, 0, none⟩) (Kd.R_types HO193.out BK198.out (by decide)) (fun _ hk => hk.2) (.string t188)) (fun _ hk => hk.2) (.string t189)) (fun _ hk => hk.2) (.string t190)) (fun _ hk => hk.2) (.slice Ao33 t191.length co33)) (fun _ hk => hk.2) (.slice Ao34 t194.length co34)) (fun _ h_ => h_.1))) hb); have n2_ := Aside0.mk (Kd.R_below (by (with_reducible repeat (first | apply Kd.R_alloc | apply Kd.R_drewN | apply Kd.R_drew)); exact (Kd.R_mono (Kd.R_far (p := ⟨gb198, 4, none⟩) (Kd.R_far (p := ⟨gb198, 3, none⟩) (Kd.R_far (p := ⟨gb198, 2, none⟩) (Kd.R_far (p := ⟨gb198, 1, none⟩) (Kd.R_far (p := ⟨gb198, 0, none⟩) (Kd.R_mono HO196.out (fun k_ hk => (⟨hk, hk.2⟩ : _ ∧ k_ ≠ gb198))) (fun _ hk => hk.2) (.string t188)) (fun _ hk => hk.2) (.string t189)) (fun _ hk => hk.2) (.string t190)) (fun _ hk => hk.2) (.slice Ao33 t191.length co33)) (fun _ hk => hk.2) (.slice Ao34 t194.length co34)) (fun _ h_ => h_.1))) hb); have n3_ := Aside0.mk (blk_below (g := gb182) (o := .cells #[.string (⟨#[]⟩ : ByteArray), .string (⟨#[]⟩ : ByteArray), .string (⟨#[]⟩ : ByteArray), .slice none 0 0, .slice none 0 0] 25 (0, 0)) (by (with_reducible repeat first | apply zM | apply zE | apply zF); refine zG ?_ NB182_198.out _; (with_reducible repeat first | apply zM | apply zE | apply zF); refine zG ?_ NB182_198.out _; (with_reducible repeat first | apply zM | apply zE | apply zF); refine zG ?_ NB182_198.out _; (with_reducible repeat first | apply zM | apply zE | apply zF); refine zG ?_ NB182_198.out _; (with_reducible repeat first | apply zM | apply zE | apply zF); refine zG ?_ NB182_198.out _; (with_reducible repeat first | apply zM | apply zE | apply zF); exact BK182.out) hb); have n4_ := Aside0.mk (blk_below (g := gb198) (o := .cells #[.string t188, .string t189, .string t190, .slice Ao33 t191.length co33, .slice Ao34 t194.length co34] 25 (0, 0)) (by (with_reducible repeat first | apply zM | apply zE | apply zF); refine zP (cs := #[.string t188, .string t189, .string t190, .slice Ao33 t191.length co33, .slice none 0 0]) ?_ 4 _ rfl; (with_reducible repeat first | apply zM | apply zE | apply zF); refine zP (cs := #[.string t188, .string t189, .string t190, .slice none 0 0, .slice none 0 0]) ?_ 3 _ rfl; (with_reducible repeat first | apply zM | apply zE | apply zF); refine zP (cs := #[.string t188, .string t189, .string (⟨#[]⟩ : ByteArray), .slice none 0 0, .slice none 0 0]) ?_ 2 _ rfl; (with_reducible repeat first | apply zM | apply zE | apply zF); refine zP (cs := #[.string t188, .string (⟨#[]⟩ : ByteArray), .string (⟨#[]⟩ : ByteArray), .slice none 0 0, .slice none 0 0]) ?_ 1 _ rfl; (with_reducible repeat first | apply zM | apply zE | apply zF); refine zP (cs := #[.string (⟨#[]⟩ : ByteArray), .string (⟨#[]⟩ : ByteArray), .string (⟨#[]⟩ : ByteArray), .slice none 0 0, .slice none 0 0]) ?_ 0 _ rfl; (with_reducible repeat first | apply zM | apply zE | apply zF); exact BK198.out) hb); have n5_ := Aside0.mk (below_step (by repeat (first | (with_reducible first | exact HB.out | apply zA | apply zN | apply zD | refine zS ?_ GE182.out | refine zS ?_ GE198.out) | exact HB.out)) hb); clear HO_0; clear HO193; clear HO196; clear BK182; clear BK198; clear HB; have HO_0 := n0_; have HO193 := n1_; have HO196 := n2_; have BK182 := n3_; have BK198 := n4_; have HB := n5_; clear n0_ n1_ n2_ n3_ n4_ n5_; (try clear hb); (try clear hb2); (try clear hk); (try clear hi); have hcz36_0 : w35.cell? ⟨gb182, 0, none⟩ = some (.string (⟨#[]⟩ : ByteArray)) := (zC BK182.out 0).trans rfl; have hcz36_1 : w35.cell? ⟨gb182, 1, none⟩ = some (.string (⟨#[]⟩ : ByteArray)) := (zC BK182.out 1).trans rfl; have hcz36_2 : w35.cell? ⟨gb182, 2, none⟩ = some (.string (⟨#[]⟩ : ByteArray)) := (zC BK182.out 2).trans rfl; have hcz36_3 : w35.cell? ⟨gb182, 3, none⟩ = some (.slice none 0 0) := (zC BK182.out 3).trans rfl; have hcz36_4 : w35.cell? ⟨gb182, 4, none⟩ = some (.slice none 0 0) := (zC BK182.out 4).trans rfl; have hfz36_0 := zR BK182.out 0; have hfz36_1 := zR BK182.out 1; have hfz36_2 := zR BK182.out 2; have hfz36_3 := zR BK182.out 3; have hfz36_4 := zR BK182.out 4))
      refine bodyPost_ret (results_ct rfl _ _ gb182 25 #[.string (⟨#[]⟩ : ByteArray), .string (⟨#[]⟩ : ByteArray), .string (⟨#[]⟩ : ByteArray), .slice none 0 0, .slice none 0 0] (0, 0) _ rfl (by (with_reducible repeat first | apply zM | apply zE | apply zF); refine zP (cs := #[.string (⟨#[]⟩ : ByteArray), .string (⟨#[]⟩ : ByteArray), .string (⟨#[]⟩ : ByteArray), .slice none 0 0, .slice none 0 0]) ?_ 4 _ rfl; (with_reducible repeat first | apply zM | apply zE | apply zF); refine zP (cs := #[.string (⟨#[]⟩ : ByteArray), .string (⟨#[]⟩ : ByteArray), .string (⟨#[]⟩ : ByteArray), .slice none 0 0, .slice none 0 0]) ?_ 3 _ rfl; (with_reducible repeat first | apply zM | apply zE | apply zF); refine zP (cs := #[.string (⟨#[]⟩ : ByteArray), .string (⟨#[]⟩ : ByteArray), .string (⟨#[]⟩ : ByteArray), .slice none 0 0, .slice none 0 0]) ?_ 2 _ rfl; (with_reducible repeat first | apply zM | apply zE | apply zF); refine zP (cs := #[.string (⟨#[]⟩ : ByteArray), .string (⟨#[]⟩ : ByteArray), .string (⟨#[]⟩ : ByteArray), .slice none 0 0, .slice none 0 0]) ?_ 1 _ rfl; (with_reducible repeat first | apply zM | apply zE | apply zF); refine zP (cs := #[.string (⟨#[]⟩ : ByteArray), .string (⟨#[]⟩ : ByteArray), .string (⟨#[]⟩ : ByteArray), .slice none 0 0, .slice none 0 0]) ?_ 0 _ rfl; (with_reducible repeat first | apply zM | apply zE | apply zF); exact BK182.out) Try.underlying25 rfl (by kernel_rfl)) rfl ?_
      exact ⟨_, _, by first | rfl | (simp [errW_none, errW_some] <;> rfl) | (simp [*, errW_none, errW_some] <;> rfl), by first | exact Kd.R_nil _ _ _ _ _ | exact Kd.N_nil _ _ _ _ _ | exact Kd.V_nil _ _ _ _ _ | exact Kd.Q_nil _ _ _ _ _ | exact Kd.S_nil _ _ _ _ _, by first | exact Kd.R_nil _ _ _ _ _ | exact Kd.N_nil _ _ _ _ _ | exact Kd.V_nil _ _ _ _ _ | exact Kd.Q_nil _ _ _ _ _ | exact Kd.S_nil _ _ _ _ _, by repeat (first | (with_reducible first | exact HB.out | apply zA | apply zN | apply zD | refine zS ?_ GE182.out | refine zS ?_ GE198.out) | exact HB.out)⟩
  ·
   replace c6 := Bool.eq_false_iff.mpr c6
   subst c6
   have H1 : (some ((⟨#[]⟩ : ByteArray), (⟨#[]⟩ : ByteArray), (⟨#[]⟩ : ByteArray), ([] : List (S69)), ([] : List (S25)), 2)) = some (r1, r2, r3, r4, r5, r6) := by rw [if_neg (show ¬ (false = true) by decide)] at H; exact H
   clear H
   have H := H1
   clear H1
   simp only [Option.some.injEq, Prod.mk.injEq] at H
   obtain ⟨rfl, rfl, rfl, rfl, rfl, rfl⟩ := H
   go_enter Try.func12, Try.ntmps12
   go_wp2_with (first | ((with_reducible refine gate_dst (N := 2) rfl ?_); refine box_event ?hg (N := 2) ?hd (cs := #[.string (⟨#[]⟩ : ByteArray), .string (⟨#[]⟩ : ByteArray), .string (⟨#[]⟩ : ByteArray), .slice none 0 0, .slice none 0 0]) (t := 25) ?hr ?_; (case hd => rfl); (case hg => rfl); (case hr => first | (go_simp; done) | (go_simp; rfl)); intro gb182 hg w37 hbox hb; have n0_ := Aside0.mk (Kd.V_below (Kd.V_elderB (by (with_reducible repeat (first | apply Kd.V_alloc | apply Kd.V_drewN | apply Kd.V_drew)); exact HO0.out) gb182 (Nat.le_of_eq hg.symm)) hb); have n1_ := Aside0.mk (below_step (by repeat (first | (with_reducible first | exact HB.out | apply zA | apply zN | apply zD) | exact HB.out)) hb); have n2_ := Aside0.mk (hbox); have n3_ := Aside0.mk ((by rw [hg]; exact (below_size (by repeat (first | (with_reducible first | exact HB.out | apply zA | apply zN | apply zD) | exact HB.out))) : w.heap.size ≤ gb182)); have n4_ := Aside0.mk ((by rw [hg]; exact (below_size (by repeat (first | (with_reducible first | exact HB.out | apply zA | apply zN | apply zD) | exact HB.out))) : w.heap.size ≤ gb182)); clear HO0; clear HB; have HO0 := n0_; have HB := n1_; have BK182 := n2_; have GW182 := n3_; have GE182 := n4_; clear n0_ n1_ n2_ n3_ n4_; clear hb hbox hg) | ((with_reducible refine gate_callee (f := 33) rfl ?_); refine goesL_ (some 15) rfl rfl Try.func33 (by kernel_rfl) rfl #[.slice A0 l0.length c0] rfl (by (try simp only [List.map_toArray, List.map_cons, List.map_nil]); first | done | rfl | (simp only [List.length_drop, List.length_take]; rfl)) ?_; (with_reducible refine (flat_formed.calls k _ _ l0 false _ ?side1 ?side2 A5.out).mono ?_); (case side1 => repeat (first | exact (Kd.V_reads' HO0.out).2.2 | (with_reducible refine Kd.C_alloc ?_ _) | (with_reducible refine Kd.C_drewN ?_ _) | (with_reducible refine Kd.C_drew ?_))); (case side2 => exact (Kd.V_reads' HO0.out).2.1); rintro e w38 ⟨rfl, hb⟩; refine ⟨_, rfl, ?_⟩; have n0_ := Aside0.mk (Kd.V_below (by (with_reducible repeat (first | apply Kd.V_alloc | apply Kd.V_drewN | apply Kd.V_drew)); exact HO0.out) hb); have n1_ := Aside0.mk (blk_below (g := gb182) (o := .cells #[.string (⟨#[]⟩ : ByteArray), .string (⟨#[]⟩ : ByteArray), .string (⟨#[]⟩ : ByteArray), .slice none 0 0, .slice none 0 0] 25 (0, 0)) (by (with_reducible repeat first | apply zM | apply zE | apply zF); exact BK182.out) hb); have n2_ := Aside0.mk (below_step (by repeat (first | (with_reducible first | exact HB.out | apply zA | apply zN | apply zD | refine zS ?_ GE182.out) | exact HB.out)) hb); clear HO0; clear BK182; clear HB; have HO0 := n0_; have BK182 := n1_; have HB := n2_; clear n0_ n1_ n2_; (try clear hb); (try clear hb2); (try clear hk); (try clear hi); have hcz39_0 : w38.cell? ⟨gb182, 0, none⟩ = some (.string (⟨#[]⟩ : ByteArray)) := (zC BK182.out 0).trans rfl; have hcz39_1 : w38.cell? ⟨gb182, 1, none⟩ = some (.string (⟨#[]⟩ : ByteArray)) := (zC BK182.out 1).trans rfl; have hcz39_2 : w38.cell? ⟨gb182, 2, none⟩ = some (.string (⟨#[]⟩ : ByteArray)) := (zC BK182.out 2).trans rfl; have hcz39_3 : w38.cell? ⟨gb182, 3, none⟩ = some (.slice none 0 0) := (zC BK182.out 3).trans rfl; have hcz39_4 : w38.cell? ⟨gb182, 4, none⟩ = some (.slice none 0 0) := (zC BK182.out 4).trans rfl; have hfz39_0 := zR BK182.out 0; have hfz39_1 := zR BK182.out 1; have hfz39_2 := zR BK182.out 2; have hfz39_3 := zR BK182.out 3; have hfz39_4 := zR BK182.out 4))
   refine bodyPost_ret (results_ct rfl _ _ gb182 25 #[.string (⟨#[]⟩ : ByteArray), .string (⟨#[]⟩ : ByteArray), .string (⟨#[]⟩ : ByteArray), .slice none 0 0, .slice none 0 0] (0, 0) _ rfl (by (with_reducible repeat first | apply zM | apply zE | apply zF); refine zP (cs := #[.string (⟨#[]⟩ : ByteArray), .string (⟨#[]⟩ : ByteArray), .string (⟨#[]⟩ : ByteArray), .slice none 0 0, .slice none 0 0]) ?_ 4 _ rfl; (with_reducible repeat first | apply zM | apply zE | apply zF); refine zP (cs := #[.string (⟨#[]⟩ : ByteArray), .string (⟨#[]⟩ : ByteArray), .string (⟨#[]⟩ : ByteArray), .slice none 0 0, .slice none 0 0]) ?_ 3 _ rfl; (with_reducible repeat first | apply zM | apply zE | apply zF); refine zP (cs := #[.string (⟨#[]⟩ : ByteArray), .string (⟨#[]⟩ : ByteArray), .string (⟨#[]⟩ : ByteArray), .slice none 0 0, .slice none 0 0]) ?_ 2 _ rfl; (with_reducible repeat first | apply zM | apply zE | apply zF); refine zP (cs := #[.string (⟨#[]⟩ : ByteArray), .string (⟨#[]⟩ : ByteArray), .string (⟨#[]⟩ : ByteArray), .slice none 0 0, .slice none 0 0]) ?_ 1 _ rfl; (with_reducible repeat first | apply zM | apply zE | apply zF); refine zP (cs := #[.string (⟨#[]⟩ : ByteArray), .string (⟨#[]⟩ : ByteArray), .string (⟨#[]⟩ : ByteArray), .slice none 0 0, .slice none 0 0]) ?_ 0 _ rfl; (with_reducible repeat first | apply zM | apply zE | apply zF); exact BK182.out) Try.underlying25 rfl (by kernel_rfl)) rfl ?_
   exact ⟨_, _, by first | rfl | (simp [errW_none, errW_some] <;> rfl) | (simp [*, errW_none, errW_some] <;> rfl), by first | exact Kd.R_nil _ _ _ _ _ | exact Kd.N_nil _ _ _ _ _ | exact Kd.V_nil _ _ _ _ _ | exact Kd.Q_nil _ _ _ _ _ | exact Kd.S_nil _ _ _ _ _, by first | exact Kd.R_nil _ _ _ _ _ | exact Kd.N_nil _ _ _ _ _ | exact Kd.V_nil _ _ _ _ _ | exact Kd.Q_nil _ _ _ _ _ | exact Kd.S_nil _ _ _ _ _, by repeat (first | (with_reducible first | exact HB.out | apply zA | apply zN | apply zD | refine zS ?_ GE182.out) | exact HB.out)⟩

-- squeezed
end Go.Proofs.Ytcebfldagnjddaa.G
