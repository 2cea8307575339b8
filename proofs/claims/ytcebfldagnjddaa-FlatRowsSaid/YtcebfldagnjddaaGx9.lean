-- Written by gp.py (wip/gen) for this claim: pure functions and contracts, out of the translation; not trusted: Lean checks it.
import Derived.Test.YtcebfldagnjddaaGx0
import Derived.Test.YtcebfldagnjddaaH5
import Derived.Test.YtcebfldagnjddaaGx6
import Derived.Test.YtcebfldagnjddaaGx8
namespace Go.Proofs.Ytcebfldagnjddaa.G
open Go.RowKit Go.Proofs.YtcebfldagnjddaaW.PrintWords Go.Proofs.YtcebfldagnjddaaW.PrintLast Go.Proofs.YtcebfldagnjddaaW.PrintMore
attribute [local go_sem] max2_int min2_int max_two min_two max_three min_three max_four min_four   -- for this text's walks alone
set_option linter.unusedVariables false
set_option linter.unusedSimpArgs false
/-! ### flat_Check: function 14 -/
def flat_Check.f (k : Nat) (l0 : List (S53)) : Option (Int) := if (l0.length : Int) = 0 then (some 0) else ((flat_Tree.f k l0).bind fun bt209 => (some bt209.2.2.2.2.2))
theorem flat_Check.mono : ∀ a0 k, LeO (flat_Check.f k a0) (flat_Check.f (k + 1) a0) := by
  intro a0 k
  unfold flat_Check.f
  repeat' first
      | (with_reducible exact flat_Tree.mono _ _)
      | (with_reducible exact LeO.refl _)
      | (with_reducible exact LeO.none _)
      | (with_reducible refine LeO.ite ?_ ?_)
      | (with_reducible refine LeO.bind ?_ (fun _ => ?_))
set_option maxHeartbeats 8000000 in
set_option maxRecDepth 100000 in
theorem flat_Check.calls (k : Nat) (A0 : Option Addr) (c0 : Nat) (l0 : List (S53)) (r : Int) (w : World) (hr0 : Kd.C k53 w A0 l0.length l0) (hc0 : l0.length ≤ c0) (h : flat_Check.f k l0 = some r) :
    Calls Try.prog 14 #[.slice A0 l0.length c0] w fun e w' => e = .returned (.int .i64 r) ∧ Below w.heap.size w w' := by
  have hu25 := Try.underlying25
  have HR0 := Aside0.mk hr0
  have HC0 := Aside0.mk hc0
  clear hr0 hc0
  have HB := Aside0.mk (Below.refl w.heap.size w)
  have H : (if (l0.length : Int) = 0 then (some 0) else ((flat_Tree.f k l0).bind fun bt209 => (some bt209.2.2.2.2.2))) = some r := h
  clear h
  by_cases c2 : (l0.length : Int) = 0
  · rw [if_pos c2] at H
    have c2b0 : ((l0.length : Int) == 0) = true := beq_iff_eq.mpr c2; have c2b1 : ((l0.length : Int) != 0) = false := bne_eq_false_iff_eq.mpr c2; clear c2; obtain rfl := Option.some.inj H
    go_enter Try.func14, Try.ntmps14
    go_wp2
    go_ret
    exact ⟨by first | rfl | (simp [errW_none, errW_some] <;> rfl) | (simp [*, errW_none, errW_some] <;> rfl), by with_reducible repeat first | exact HB.out | apply below_alloc | apply pw_below_drewN | apply below_drew1⟩
  · rw [if_neg c2] at H
    have c2b0 : ((l0.length : Int) == 0) = false := beq_eq_false_iff_ne.mpr c2; have c2b1 : ((l0.length : Int) != 0) = true := bne_iff_ne.mpr c2; have c2b2 : ¬ (l0 = []) := fun h_ => c2 (by rw [h_]; rfl)
    replace H := Option.bind_eq_some_iff.mp H; obtain ⟨⟨t209, t210, t211, t212, t215, t218⟩, A30, H⟩ := H; replace H : (some t218) = some r := H; have A3 := Aside0.mk A30; clear A30; obtain rfl := Option.some.inj H
    go_enter Try.func14, Try.ntmps14
    go_wp2_with (first | ((with_reducible refine gate_callee (f := 12) rfl ?_); refine goesL_ (some 10) rfl rfl Try.func12 (by kernel_rfl) rfl #[.slice A0 l0.length c0] rfl (by (try simp only [List.map_toArray, List.map_cons, List.map_nil]); first | done | rfl | (simp only [List.length_drop, List.length_take]; rfl)) ?_; (with_reducible refine (flat_Tree.calls k (fun k_ => k_ < w.heap.size) _ _ l0 t209 t210 t211 t212 t215 t218 _ ?side1 A3.out).mono ?_); (case side1 => exact Kd.V_mk HC0.out (Kd.F_below (Kd.C_F k53_heap HR0.out) (by with_reducible repeat first | exact HB.out | apply below_alloc | apply pw_below_drewN | apply below_drew1))); rintro e w4 ⟨v213, v216, rfl, ho0, ho1, hb⟩; refine ⟨_, rfl, ?_⟩; have n0_ := Aside0.mk (Kd.R_lower (Kd.R_mono (ok' := fun k_ => True) ho0 (fun _ hk_ => trivial)) (below_size (by with_reducible repeat first | exact HB.out | apply below_alloc | apply pw_below_drewN | apply below_drew1))); have n1_ := Aside0.mk (Kd.R_lower (Kd.R_mono (ok' := fun k_ => some k_ ≠ (v213 : Value).ownBlock) ho1 (fun _ hk_ => hk_.2)) (below_size (by with_reducible repeat first | exact HB.out | apply below_alloc | apply pw_below_drewN | apply below_drew1))); have n2_ := Aside0.mk (below_step (by with_reducible repeat first | exact HB.out | apply below_alloc | apply pw_below_drewN | apply below_drew1) hb); clear HB; have HO214 := n0_; have HO217 := n1_; have HB := n2_; clear n0_ n1_ n2_; (try clear hb); (try clear hb2); (try clear hk); (try clear hi); (try clear ho0); (try clear ho1)) | ((with_reducible refine gate_dst (N := 3) rfl ?_); refine box_event ?hg (N := 3) ?hd (cs := #[.string ⟨#[]⟩, .string ⟨#[]⟩, .string ⟨#[]⟩, .slice none 0 0, .slice none 0 0]) (t := 25) ?hr ?_; (case hd => rfl); (case hg => rfl); (case hr => first | (go_simp; done) | (go_simp; rfl)); intro gb219 hg w5 hbox hb; have n0_ := Aside0.mk (Kd.R_below (by (with_reducible repeat (first | apply Kd.R_alloc | apply Kd.R_drewN | apply Kd.R_drew)); exact HO214.out) hb); have n1_ := Aside0.mk (Kd.R_below (Kd.R_elderB (by (with_reducible repeat (first | apply Kd.R_alloc | apply Kd.R_drewN | apply Kd.R_drew)); exact HO217.out) gb219 (Nat.le_of_eq hg.symm)) hb); have n2_ := Aside0.mk (below_step (by with_reducible repeat first | exact HB.out | apply below_alloc | apply pw_below_drewN | apply below_drew1) hb); have n3_ := Aside0.mk (hbox); have n4_ := Aside0.mk ((by rw [hg]; exact (below_size (by with_reducible repeat first | exact HB.out | apply below_alloc | apply pw_below_drewN | apply below_drew1)) : w.heap.size ≤ gb219)); have n5_ := n4_; clear HO214; clear HO217; clear HB; have HO214 := n0_; have HO217 := n1_; have HB := n2_; have BK219 := n3_; have GW219 := n4_; have GE219 := n5_; clear n0_ n1_ n2_ n3_ n4_ n5_; clear hb hbox hg; have hcz6_0 : w5.cell? ⟨gb219, 0, none⟩ = some (.string ⟨#[]⟩) := (blk_cell BK219.out 0).trans rfl; have hcz6_1 : w5.cell? ⟨gb219, 1, none⟩ = some (.string ⟨#[]⟩) := (blk_cell BK219.out 1).trans rfl; have hcz6_2 : w5.cell? ⟨gb219, 2, none⟩ = some (.string ⟨#[]⟩) := (blk_cell BK219.out 2).trans rfl; have hcz6_3 : w5.cell? ⟨gb219, 3, none⟩ = some (.slice none 0 0) := (blk_cell BK219.out 3).trans rfl; have hcz6_4 : w5.cell? ⟨gb219, 4, none⟩ = some (.slice none 0 0) := (blk_cell BK219.out 4).trans rfl; have hfz6_0 := blk_frozen BK219.out 0; have hfz6_1 := blk_frozen BK219.out 1; have hfz6_2 := blk_frozen BK219.out 2; have hfz6_3 := blk_frozen BK219.out 3; have hfz6_4 := blk_frozen BK219.out 4; obtain ⟨Ao7, co7, eo7⟩ := Kd.R_slice HO214.out; subst eo7; obtain ⟨Ao8, co8, eo8⟩ := Kd.R_slice HO217.out; subst eo8))
    go_ret
    exact ⟨by first | rfl | (simp [errW_none, errW_some] <;> rfl) | (simp [*, errW_none, errW_some] <;> rfl), by with_reducible repeat first | exact HB.out | apply below_alloc | apply pw_below_drewN | apply below_drew1 | refine below_set ?_ GE219.out⟩
open Go.Proofs.YtcebfldagnjddaaW.PrintWords renaming below_alloc → zA, pw_below_drewN → zN, below_drew1 → zD, below_set → zS, blk_drewN → zM, blk_drew → zE, blk_alloc → zF, blk_far → zG, blk_put → zP, blk_cell → zC, blk_frozen → zR
/-! ### flat_Spans: function 17 -/
def flat_Spans.l0 : Nat → List (S53) → List Int → Int → Option (List Int)
 | 0, _, _, _ => none
 | k + 1, x0, x3, x4 => if x4 = 0 then (some x3) else (if 0 ≤ x4 then (if x4 < (x3.length : Int) then ((some (x3.set (x4 : Int).toNat (wrap64 ((rd x3 x4) + 1)) : List Int)).bind fun y225 => (if 0 ≤ (wrap64 (x4 - 1)) then (if (wrap64 (x4 - 1)) < (x0.length : Int) then (if 0 ≤ ((rd_T53 x0 (wrap64 (x4 - 1))).f1) then (if ((rd_T53 x0 (wrap64 (x4 - 1))).f1) < (x3.length : Int) then (flat_Spans.l0 k x0 (y225.set (((rd_T53 x0 (wrap64 (x4 - 1))).f1) : Int).toNat (wrap64 ((rd y225 ((rd_T53 x0 (wrap64 (x4 - 1))).f1)) + (rd y225 x4)))) (wrap64 (x4 - 1))) else (none)) else (none)) else (none)) else (none))) else (none)) else (none))
def flat_Spans.f (k : Nat) (l0 : List (S53)) : Option (List Int) := (flat_Check.f k l0).bind fun t220 => (if t220 = 0 then (if 0 ≤ (wrap64 ((l0.length : Int) + 1)) then (if (wrap64 ((l0.length : Int) + 1) : Int).toNat ≤ 35184372088832 then (flat_Spans.l0 k l0 (List.replicate (wrap64 ((l0.length : Int) + 1) : Int).toNat 0) (l0.length : Int)) else (none)) else (none)) else (some ([] : List Int)))
theorem flat_Spans.mono_l : ∀ k, (∀ y0 y1 y2, LeO (flat_Spans.l0 k y0 y1 y2) (flat_Spans.l0 (k + 1) y0 y1 y2))
 | 0 => fun _ _ _ r h => by simp [flat_Spans.l0] at h
 | k + 1 => by
  have ih0 := flat_Spans.mono_l k
  ·
   intro y0 y1 y2; unfold flat_Spans.l0
   repeat' first
   | (with_reducible exact ih0 _ _ _)
   | (with_reducible exact flat_Check.mono _ _)
   | (with_reducible exact LeO.refl _)
   | (with_reducible exact LeO.none _)
   | (with_reducible refine LeO.ite ?_ ?_)
   | (with_reducible refine LeO.bind ?_ (fun _ => ?_))
theorem flat_Spans.mono : ∀ a0 k, LeO (flat_Spans.f k a0) (flat_Spans.f (k + 1) a0) := by
 intro a0 k
 have ih0 := flat_Spans.mono_l k
 unfold flat_Spans.f
 repeat' first
   | (with_reducible exact ih0 _ _ _)
   | (with_reducible exact flat_Check.mono _ _)
   | (with_reducible exact LeO.refl _)
   | (with_reducible exact LeO.none _)
   | (with_reducible refine LeO.ite ?_ ?_)
   | (with_reducible refine LeO.bind ?_ (fun _ => ?_))
def flat_Spans.T8 : Bool × List (List Nat × List Nat) := (true, [([], []), ([], []), ([], []), ([2], [2]), ([1, 3], [1, 3]), ([4], [4]), ([5], [5]), ([0, 6], [0, 6]), ([7], [7]), ([], []), ([], []), ([9, 10], [9, 10]), ([11], [11]), ([8, 12], [8, 12]), ([0, 6, 0, 1, 2, 3, 4, 5, 6, 7, 8, 9, 10, 11, 12, 13], [0, 6]), ([14, 13, 0, 1, 2, 3, 4, 5, 6, 7, 8, 9, 10, 11, 12, 13], [13, 14])])
def flat_Spans.B8 : List Nat := [0, 0, 0, 4, 14, 30, 62, 127, 255, 0, 0, 1536, 3584, 8191, 16383, 32767]
theorem flat_Spans.tab8 : rtab .any (opsOf Try.f17 8) = flat_Spans.T8 := by kernel_rfl
theorem flat_Spans.bits8 : waitsOk flat_Spans.T8.2 flat_Spans.B8 = true := by kernel_rfl
set_option maxHeartbeats 8000000 in
set_option maxRecDepth 100000 in
theorem flat_Spans.calls (k : Nat) (A0 : Option Addr) (c0 : Nat) (l0 : List (S53)) (r : List Int) (w : World) (hr0 : Kd.C k53 w A0 l0.length l0) (hc0 : l0.length ≤ c0) (h : flat_Spans.f k l0 = some r) :
  Calls Try.prog 17 #[.slice A0 l0.length c0] w fun e w' => ∃ v0_ : Value, e = .returned (v0_) ∧ Kd.R (Kd.int .i64) 3 w' w.heap.size (fun _ => True) v0_ r ∧ Below w.heap.size w w' := by
 have HR0 := Aside0.mk hr0
 have HC0 := Aside0.mk hc0
 clear hr0 hc0
 have HB := Aside0.mk (Below.refl w.heap.size w)
 have H : ((flat_Check.f k l0).bind fun t220 => (if t220 = 0 then (if 0 ≤ (wrap64 ((l0.length : Int) + 1)) then (if (wrap64 ((l0.length : Int) + 1) : Int).toNat ≤ 35184372088832 then (flat_Spans.l0 k l0 (List.replicate (wrap64 ((l0.length : Int) + 1) : Int).toNat 0) (l0.length : Int)) else (none)) else (none)) else (some ([] : List Int)))) = some r := h
 clear h
 replace H := Option.bind_eq_some_iff.mp H
 obtain ⟨t220, A20, H⟩ := H
 replace H : (if t220 = 0 then (if 0 ≤ (wrap64 ((l0.length : Int) + 1)) then (if (wrap64 ((l0.length : Int) + 1) : Int).toNat ≤ 35184372088832 then (flat_Spans.l0 k l0 (List.replicate (wrap64 ((l0.length : Int) + 1) : Int).toNat 0) (l0.length : Int)) else (none)) else (none)) else (some ([] : List Int))) = some r := H
 have A2 := Aside0.mk A20
 clear A20
 by_cases c3 : t220 = 0
 ·
  rw [if_pos c3] at H
  have c3b0 : (t220 == 0) = true := beq_iff_eq.mpr c3
  have c3b1 : (t220 != 0) = false := bne_eq_false_iff_eq.mpr c3
  clear c3
  obtain ⟨ji4, hji4⟩ : ∃ j_ : Int, (wrap64 ((l0.length : Int) + 1)) = j_ := ⟨_, rfl⟩
  replace H : (if 0 ≤ (ji4) then (if (ji4 : Int).toNat ≤ 35184372088832 then (flat_Spans.l0 k l0 (List.replicate (ji4 : Int).toNat 0) (l0.length : Int)) else (none)) else (none)) = some r := by first | (rw [hji4] at H; exact H) | (simp only [hji4] at H ⊢; exact H)
  (try rw [hji4] at A2)
  have hji4w : (IntKind.i64.wrap ((l0.length : Int) + 1)) = ji4 := (i64_w _).trans hji4
  by_cases c5 : 0 ≤ (ji4)
  ·
   rw [if_pos c5] at H
   have c5b0 := eq_true c5; have c5b1 : decide (0 ≤ (ji4)) = true := decide_eq_true c5; clear c5
   by_cases c6 : (ji4 : Int).toNat ≤ 35184372088832
   ·
    rw [if_pos c6] at H
    have c6b0 := eq_true c6; have c6b1 : decide ((ji4 : Int).toNat ≤ 35184372088832) = true := decide_eq_true c6; clear c6; obtain ⟨y221, hy221⟩ : ∃ y_ : List Int, y_ = (List.replicate (ji4 : Int).toNat 0) := ⟨_, rfl⟩; replace H : (flat_Spans.l0 k l0 y221 (l0.length : Int)) = some r := by first | (rw [hy221]; with_reducible exact H) | (have H2_ := (Option.bind_some _ _).symm.trans H; rw [hy221]; with_reducible exact H2_) | (have H2_ := (Option.bind_some _ _).symm.trans H; with_reducible exact H2_) | with_reducible exact H | (rw [hy221]; exact H) | exact H
    have Ny221 := Aside0.mk hy221; clear hy221; have H' := Aside0.mk H; clear H
    go_enter Try.func17, Try.ntmps17
    (try go_step3)
    go_wp2_with (first | ((with_reducible refine gate_callee (f := 14) rfl ?_); refine goesL_ (some 6) rfl rfl Try.func14 (by kernel_rfl) rfl #[.slice A0 l0.length c0] rfl (by (try simp only [List.map_toArray, List.map_cons, List.map_nil]); first | done | rfl | (simp only [List.length_drop, List.length_take]; rfl)) ?_; (with_reducible refine (flat_Check.calls k _ _ l0 t220 _ ?side1 ?side2 A2.out).mono ?_); (case side1 => repeat (first | exact HR0.out | (with_reducible refine Kd.C_alloc ?_ _) | (with_reducible refine Kd.C_drewN ?_ _) | (with_reducible refine Kd.C_drew ?_))); (case side2 => exact HC0.out); rintro e w7 ⟨rfl, hb⟩; refine ⟨_, rfl, ?_⟩; have n0_ := Aside0.mk (below_step (by with_reducible repeat first | exact HB.out | apply zA | apply zN | apply zD) hb); clear HB; have HB := n0_; clear n0_; (try clear hb); (try clear hb2); (try clear hk); (try clear hi)) | ((with_reducible refine gate_dst (N := 11) rfl ?_); refine Kd.R_make (Kd.int .i64) _ 3 rfl (N := 11) rfl 43 _ _ rfl ji4 rfl rfl Try.underlying43 (.int .i64 0) 8 info3 rfl (by decide) (by omega) 0 (ok := fun _ => True) (okp := fun _ => True) rfl (fun _ hk => hk) trivial (of_decide_eq_true (by assumption)) (Nat.le_trans (Nat.mul_le_mul_right _ (of_decide_eq_true (by assumption) : ji4.toNat ≤ 35184372088832)) (by omega)) (Below.refl _ _) (Nat.le_refl _) ?_; intro v222 w8 ho9 hb hg_ hnew_; clear hg_ hnew_; (first | rw [← Ny221.out] at ho9 | (simp only [Int.reduceToNat] at ho9; rw [← Ny221.out] at ho9)); have n0_ := Aside0.mk (Kd.R_lower ho9 (below_size (by with_reducible repeat first | exact HB.out | apply zA | apply zN | apply zD))); have n1_ := Aside0.mk (below_step (by with_reducible repeat first | exact HB.out | apply zA | apply zN | apply zD) hb); clear HB; have HO223 := n0_; have HB := n1_; clear n0_ n1_; clear hb ho9))
    iterate 2 (try (go_step3; try go_wp2_with (first | ((with_reducible refine gate_callee (f := 14) rfl ?_); refine goesL_ (some 6) rfl rfl Try.func14 (by kernel_rfl) rfl #[.slice A0 l0.length c0] rfl (by (try simp only [List.map_toArray, List.map_cons, List.map_nil]); first | done | rfl | (simp only [List.length_drop, List.length_take]; rfl)) ?_; (with_reducible refine (flat_Check.calls k _ _ l0 t220 _ ?side1 ?side2 A2.out).mono ?_); (case side1 => repeat (first | exact HR0.out | (with_reducible refine Kd.C_alloc ?_ _) | (with_reducible refine Kd.C_drewN ?_ _) | (with_reducible refine Kd.C_drew ?_))); (case side2 => exact HC0.out); rintro e w7 ⟨rfl, hb⟩; refine ⟨_, rfl, ?_⟩; have n0_ := Aside0.mk (below_step (by with_reducible repeat first | exact HB.out | apply zA | apply zN | apply zD) hb); clear HB; have HB := n0_; clear n0_; (try clear hb); (try clear hb2); (try clear hk); (try clear hi)) | ((with_reducible refine gate_dst (N := 11) rfl ?_); refine Kd.R_make (Kd.int .i64) _ 3 rfl (N := 11) rfl 43 _ _ rfl ji4 rfl rfl Try.underlying43 (.int .i64 0) 8 info3 rfl (by decide) (by omega) 0 (ok := fun _ => True) (okp := fun _ => True) rfl (fun _ hk => hk) trivial (of_decide_eq_true (by assumption)) (Nat.le_trans (Nat.mul_le_mul_right _ (of_decide_eq_true (by assumption) : ji4.toNat ≤ 35184372088832)) (by omega)) (Below.refl _ _) (Nat.le_refl _) ?_; intro v222 w8 ho9 hb hg_ hnew_; clear hg_ hnew_; (first | rw [← Ny221.out] at ho9 | (simp only [Int.reduceToNat] at ho9; rw [← Ny221.out] at ho9)); have n0_ := Aside0.mk (Kd.R_lower ho9 (below_size (by with_reducible repeat first | exact HB.out | apply zA | apply zN | apply zD))); have n1_ := Aside0.mk (below_step (by with_reducible repeat first | exact HB.out | apply zA | apply zN | apply zD) hb); clear HB; have HO223 := n0_; have HB := n1_; clear n0_ n1_; clear hb ho9))))
    go_loopg [4] k (fun kq v4 w' => ∃ (x3_1 : List Int) (x4_1 : Int), v4 = .int .i64 x4_1 ∧ Aside0 (flat_Spans.l0 kq l0 x3_1 x4_1 = some r) ∧ Aside0 (kq ≤ k) ∧ Aside0 (Kd.R (Kd.int .i64) 3 w' w.heap.size (fun _ => True) v222 x3_1) ∧ Aside0 (Below w.heap.size w w'))
    case atStart => exact ⟨(y221), ((l0.length : Int)), (by first | rfl | (simp; done) | (simp [*]; done)), H', ⟨Nat.le_refl _⟩, ⟨by (with_reducible repeat (first | apply Kd.R_alloc | apply Kd.R_drewN | apply Kd.R_drew)); exact HO223.out⟩, ⟨by with_reducible repeat first | exact HB.out | apply zA | apply zN | apply zD⟩⟩
    case round =>
     clear H'
     try clear c1
     try clear p2
     try clear c3
     try clear c3b0
     try clear c3b1
     try clear c5
     try clear c5b0
     try clear c5b1
     try clear c6
     try clear c6b0
     try clear c6b1
     try clear p6
     obtain ⟨x3_1, x4_1, rfl, HA, HK1, HO_3, HB⟩ := hrel; cases gk with
     | zero => exact absurd HA.out (by simp [flat_Spans.l0])
     | succ k1 =>
      have H := HA.out; clear HA
      simp only [flat_Spans.l0] at H
      by_cases c10 : x4_1 = 0
      ·
       rw [if_pos c10] at H
       have c10b0 : (x4_1 == 0) = true := beq_iff_eq.mpr c10; have c10b1 : (x4_1 != 0) = false := bne_eq_false_iff_eq.mpr c10; clear c10; obtain rfl := Option.some.inj H
       go_wp2
       iterate 3 (try (go_step3; try go_wp2))
       (try rw [Exit.noGoto_ret])
       go_ret
       exact ⟨_, by first | rfl | (simp [errW_none, errW_some] <;> rfl) | (simp only [← hji4]; first | rfl | (simp [errW_none, errW_some] <;> rfl)) | (simp [*, errW_none, errW_some] <;> rfl), by (with_reducible repeat (first | apply Kd.R_alloc | apply Kd.R_drewN | apply Kd.R_drew)); exact HO_3.out, by with_reducible repeat first | exact HB.out | apply zA | apply zN | apply zD⟩
      ·
       rw [if_neg c10] at H
       have c10b0 : (x4_1 == 0) = false := beq_eq_false_iff_ne.mpr c10; have c10b1 : (x4_1 != 0) = true := bne_iff_ne.mpr c10
       by_cases c11 : 0 ≤ x4_1
       ·
        rw [if_pos c11] at H
        have c11b0 : decide (0 ≤ x4_1) = true := decide_eq_true c11; clear c11
        by_cases c12 : x4_1 < (x3_1.length : Int)
        ·
         rw [if_pos c12] at H
         have c12b0 : decide (x4_1 < (x3_1.length : Int)) = true := decide_eq_true c12; clear c12; obtain ⟨y225, hy225⟩ : ∃ y_ : List Int, y_ = (x3_1.set (x4_1 : Int).toNat (wrap64 ((rd x3_1 x4_1) + 1))) := ⟨_, rfl⟩; replace H : (if 0 ≤ (wrap64 (x4_1 - 1)) then (if (wrap64 (x4_1 - 1)) < (l0.length : Int) then (if 0 ≤ ((rd_T53 l0 (wrap64 (x4_1 - 1))).f1) then (if ((rd_T53 l0 (wrap64 (x4_1 - 1))).f1) < (x3_1.length : Int) then (flat_Spans.l0 k1 l0 (y225.set (((rd_T53 l0 (wrap64 (x4_1 - 1))).f1) : Int).toNat (wrap64 ((rd y225 ((rd_T53 l0 (wrap64 (x4_1 - 1))).f1)) + (rd y225 x4_1)))) (wrap64 (x4_1 - 1))) else (none)) else (none)) else (none)) else (none)) = some r := by first | (rw [hy225]; with_reducible exact H) | (have H2_ := (Option.bind_some _ _).symm.trans H; rw [hy225]; with_reducible exact H2_) | (have H2_ := (Option.bind_some _ _).symm.trans H; with_reducible exact H2_) | with_reducible exact H | (rw [hy225]; exact H) | exact H
         have Ny225 := Aside0.mk hy225; clear hy225; obtain ⟨ji14, hji14⟩ : ∃ j_ : Int, (wrap64 (x4_1 - 1)) = j_ := ⟨_, rfl⟩; replace H : (if 0 ≤ (ji14) then (if (ji14) < (l0.length : Int) then (if 0 ≤ ((rd_T53 l0 (ji14)).f1) then (if ((rd_T53 l0 (ji14)).f1) < (x3_1.length : Int) then (flat_Spans.l0 k1 l0 (y225.set (((rd_T53 l0 (ji14)).f1) : Int).toNat (wrap64 ((rd y225 ((rd_T53 l0 (ji14)).f1)) + (rd y225 x4_1)))) ji14) else (none)) else (none)) else (none)) else (none)) = some r := by first | (rw [hji14] at H; exact H) | (simp only [hji14] at H ⊢; exact H)
         have hji14w : (IntKind.i64.wrap (x4_1 - 1)) = ji14 := (i64_w _).trans hji14
         by_cases c15 : 0 ≤ (ji14)
         ·
          rw [if_pos c15] at H
          have c15b0 : decide (0 ≤ (ji14)) = true := decide_eq_true c15; clear c15
          by_cases c16 : (ji14) < (l0.length : Int)
          ·
           rw [if_pos c16] at H
           have c16b0 : decide ((ji14) < (l0.length : Int)) = true := decide_eq_true c16; clear c16
           by_cases c17 : 0 ≤ ((rd_T53 l0 (ji14)).f1)
           ·
            rw [if_pos c17] at H
            have c17b0 : decide (0 ≤ ((rd_T53 l0 (ji14)).f1)) = true := decide_eq_true c17; clear c17
            by_cases c18 : ((rd_T53 l0 (ji14)).f1) < (x3_1.length : Int)
            ·
             rw [if_pos c18] at H
             have c18b0 : decide (((rd_T53 l0 (ji14)).f1) < (x3_1.length : Int)) = true := decide_eq_true c18; clear c18; obtain ⟨y229, hy229⟩ : ∃ y_ : List Int, y_ = (y225.set (((rd_T53 l0 (ji14)).f1) : Int).toNat (wrap64 ((rd y225 ((rd_T53 l0 (ji14)).f1)) + (rd y225 x4_1)))) := ⟨_, rfl⟩; replace H : (flat_Spans.l0 k1 l0 y229 ji14) = some r := by first | (rw [hy229]; with_reducible exact H) | (have H2_ := (Option.bind_some _ _).symm.trans H; rw [hy229]; with_reducible exact H2_) | (have H2_ := (Option.bind_some _ _).symm.trans H; with_reducible exact H2_) | with_reducible exact H | (rw [hy229]; exact H) | exact H
             have Ny229 := Aside0.mk hy229; clear hy229; have H' := Aside0.mk H; clear H; obtain ⟨Ao20, co20, eo20⟩ := Kd.R_slice HO_3.out; subst eo20; have p224 : 0 ≤ (x4_1 : Int) := of_decide_eq_true (by assumption); have q224 : x4_1 < (x3_1.length : Int) := of_decide_eq_true (by assumption); obtain ⟨ad224, e224, hx224_0⟩ := Kd.at_int (Kd.R_reads' HO_3.out).2.2 x4_1 p224 q224; cases e224; replace p224 := eq_true p224; replace q224 := eq_true q224; have p13 : 0 ≤ (x4_1 : Int) := of_decide_eq_true (by assumption); have q13 : (x4_1 : Int) < ((x3_1.length : Int) : Int) := of_decide_eq_true (by assumption); obtain ⟨go13, co13, eo13, gb13, gl13, cl13, HG13⟩ := Kd.R_form HO_3.out (by omega)
             (first | cases eo13 | (injection eo13 with ea_ en_ ec_; (first | subst ea_ | (injection ea_ with ea_; subst ea_)); subst ec_; clear en_))
             have GB13 := Aside0.mk gb13; have GG13 := Aside0.mk HG13; clear gb13 gl13 HG13
             (first | simp only [add_plain] at hx224_0 | skip)
             obtain ⟨hx13_0, hf13_0⟩ := Kd.R_celln 0 HO_3.out (x4_1 : Int) p13 q13; replace p13 := eq_true p13; replace q13 := eq_true q13; have HP21 := Kd.R_putg HO_3.out (x4_1 : Int) (wrap64 ((rd x3_1 x4_1) + 1))
             try go_wp2_with (first | ((with_reducible refine gate_store (t := 3) (p := 23) rfl ?_); refine store_event (t := 3) (p := 23) (v := ?vo_w22) (w1 := (wr.setCell ⟨go13, (x4_1 : Int).toNat, none⟩ (.int .i64 (wrap64 ((rd x3_1 x4_1) + 1))))) ?hg ?ho ?hn ?hr ?_; (case ho => rfl); (case hg => rfl); (case hn => rfl); (case hr => first | (go_simp; done) | (go_simp; rfl)); intro w22 hw; have hg : wr.grownBy w22 (some go13) := (by rw [hw]; exact HP21.2); have hp_ : Kd.R (Kd.int .i64) 3 w22 w.heap.size (fun _ => True) (.slice (some ⟨go13, 0, none⟩) x3_1.length co20) y225 := (by rw [hw, Ny225.out]; exact HP21.1); clear HP21; have n0_ := Aside0.mk (hp_); have n1_ := Aside0.mk ((by rw [hw]; exact zS (HB.out) GB13.out : Below w.heap.size w w22)); clear HO_3; clear HB; have HO_3 := n0_; have HB := n1_; clear n0_ n1_; clear hg hw hp_))
             iterate 2 (try (go_step3; try go_wp2_with (first | ((with_reducible refine gate_store (t := 3) (p := 23) rfl ?_); refine store_event (t := 3) (p := 23) (v := ?vo_w22) (w1 := (wr.setCell ⟨go13, (x4_1 : Int).toNat, none⟩ (.int .i64 (wrap64 ((rd x3_1 x4_1) + 1))))) ?hg ?ho ?hn ?hr ?_; (case ho => rfl); (case hg => rfl); (case hn => rfl); (case hr => first | (go_simp; done) | (go_simp; rfl)); intro w22 hw; have hg : wr.grownBy w22 (some go13) := (by rw [hw]; exact HP21.2); have hp_ : Kd.R (Kd.int .i64) 3 w22 w.heap.size (fun _ => True) (.slice (some ⟨go13, 0, none⟩) x3_1.length co20) y225 := (by rw [hw, Ny225.out]; exact HP21.1); clear HP21; have n0_ := Aside0.mk (hp_); have n1_ := Aside0.mk ((by rw [hw]; exact zS (HB.out) GB13.out : Below w.heap.size w w22)); clear HO_3; clear HB; have HO_3 := n0_; have HB := n1_; clear n0_ n1_; clear hg hw hp_))))
             have n0_ := Aside0.mk (Kd.R_drew HO_3.out); have n1_ := Aside0.mk (zD HB.out); clear HO_3; clear HB; have HO_3 := n0_; have HB := n1_; clear n0_ n1_; have p226 : 0 ≤ ((ji14) : Int) := of_decide_eq_true (by assumption); have q226 : (ji14) < (l0.length : Int) := of_decide_eq_true (by assumption); obtain ⟨ad226, A226_5, c226_5, e226, hx226_0, hx226_1, hx226_2, hx226_3, hx226_4, hx226_5, hl226_5, hi226_5⟩ := at_T53 HR0.out (ji14) p226 q226; have hw226_5 := hx226_5; have hw226_4 := hx226_4; have hw226_3 := hx226_3; have hw226_2 := hx226_2; have hw226_1 := hx226_1; have hw226_0 := hx226_0; cases e226; replace hx226_0 := zB HB hx226_0; replace hx226_1 := zB HB hx226_1; replace hx226_2 := zB HB hx226_2; replace hx226_3 := zB HB hx226_3; replace hx226_4 := zB HB hx226_4; replace hx226_5 := zB HB hx226_5; have HR226_5 := Aside0.mk hi226_5; have HC226_5 := Aside0.mk hl226_5; clear hi226_5 hl226_5; replace p226 := eq_true p226; replace q226 := eq_true q226; have p227 : 0 ≤ (((rd_T53 l0 (ji14)).f1) : Int) := of_decide_eq_true (by assumption); have q227 : ((rd_T53 l0 (ji14)).f1) < (y225.length : Int) := (by have h_ : (((rd_T53 l0 (ji14)).f1) : Int) < ((x3_1.length : Int) : Int) := of_decide_eq_true (by assumption); first | (have e_ := (Kd.R_reads' HO_3.out).1; omega) | simpa only [Ny225.out, List.length_set] using h_); have ql227 : ((((rd_T53 l0 (ji14)).f1) : Int) < ((x3_1.length : Int) : Int)) = True := eq_true (of_decide_eq_true (by assumption)); obtain ⟨ad227, e227, hx227_0⟩ := Kd.at_int (Kd.R_reads' HO_3.out).2.2 ((rd_T53 l0 (ji14)).f1) p227 q227; obtain rfl : (⟨go13, 0, none⟩ : Addr) = ad227 := (by injection e227)
             (first | simp only [add_plain] at hx227_0 | simp only [add_at] at hx227_0 | simp only [Addr.add, Nat.zero_add] at hx227_0 | skip)
             replace p227 := eq_true p227; replace q227 := eq_true q227; have p228 : 0 ≤ (x4_1 : Int) := of_decide_eq_true (by assumption); have q228 : x4_1 < (y225.length : Int) := (by have h_ : (x4_1 : Int) < ((x3_1.length : Int) : Int) := of_decide_eq_true (by assumption); first | (have e_ := (Kd.R_reads' HO_3.out).1; omega) | simpa only [Ny225.out, List.length_set] using h_); have ql228 : ((x4_1 : Int) < ((x3_1.length : Int) : Int)) = True := eq_true (of_decide_eq_true (by assumption)); obtain ⟨ad228, e228, hx228_0⟩ := Kd.at_int (Kd.R_reads' HO_3.out).2.2 x4_1 p228 q228; obtain rfl : (⟨go13, 0, none⟩ : Addr) = ad228 := (by injection e228)
             (first | simp only [add_plain] at hx228_0 | simp only [add_at] at hx228_0 | simp only [Addr.add, Nat.zero_add] at hx228_0 | skip)
             replace p228 := eq_true p228; replace q228 := eq_true q228; have p19 : 0 ≤ (((rd_T53 l0 (ji14)).f1) : Int) := of_decide_eq_true (by assumption); have q19 : (((rd_T53 l0 (ji14)).f1) : Int) < ((x3_1.length : Int) : Int) := of_decide_eq_true (by assumption); obtain ⟨hx19_0, hf19_0⟩ := Kd.R_celln 0 HO_3.out (((rd_T53 l0 (ji14)).f1) : Int) p19 q19; replace p19 := eq_true p19; replace q19 := eq_true q19; have HP24 := Kd.R_putn HO_3.out (((rd_T53 l0 (ji14)).f1) : Int) (wrap64 ((rd y225 ((rd_T53 l0 (ji14)).f1)) + (rd y225 x4_1))); rw [← Ny229.out] at HP24
             have HQ24 := Aside0.mk HP24; clear HP24; refine start_ (n := 16) (S := fun w' => w'.cell? (ad226.add (((ji14)).toNat * 6)) = some (.int .i64 ((rd_T53 l0 (ji14)).f0)) ∧ w'.cell? ⟨(ad226.add (((ji14)).toNat * 6)).block, (ad226.add (((ji14)).toNat * 6)).off + 1, none⟩ = some (.int .i64 ((rd_T53 l0 (ji14)).f1)) ∧ w'.cell? ⟨(ad226.add (((ji14)).toNat * 6)).block, (ad226.add (((ji14)).toNat * 6)).off + 2, none⟩ = some (.string ((rd_T53 l0 (ji14)).f2)) ∧ w'.cell? ⟨(ad226.add (((ji14)).toNat * 6)).block, (ad226.add (((ji14)).toNat * 6)).off + 3, none⟩ = some (.string ((rd_T53 l0 (ji14)).f3)) ∧ w'.cell? ⟨(ad226.add (((ji14)).toNat * 6)).block, (ad226.add (((ji14)).toNat * 6)).off + 4, none⟩ = some (.string ((rd_T53 l0 (ji14)).f4)) ∧ w'.cell? ⟨(ad226.add (((ji14)).toNat * 6)).block, (ad226.add (((ji14)).toNat * 6)).off + 5, none⟩ = some (.slice A226_5 ((rd_T53 l0 (ji14)).f5).length c226_5) ∧ w'.cell? ⟨go13, (((rd_T53 l0 (ji14)).f1)).toNat, none⟩ = some (.int .i64 (rd y225 ((rd_T53 l0 (ji14)).f1))) ∧ w'.cell? ⟨go13, (x4_1).toNat, none⟩ = some (.int .i64 (rd y225 x4_1))) (ds := [15]) #[false, false, false, false, false, false, false, false, false, false, false, false, false, false, false, false] (by kernel_rfl) rfl rfl ⟨(zB HB hw226_0), (zB HB hw226_1), (zB HB hw226_2), (zB HB hw226_3), (zB HB hw226_4), (zB HB hw226_5), hx227_0, hx228_0⟩ (fun hHeld => ?_); refine with_tabW flat_Spans.tab8 flat_Spans.bits8 (fun HT_ HW_ => ?_)
             generalize w22.drew = w23 at HO_3 HB HQ24 HR226_5 hf19_0 hx19_0 hx226_0 hx226_1 hx226_2 hx226_3 hx226_4 hx226_5 hx227_0 hx228_0 hHeld ⊢
             refine pure_ (i := 0) (N := some 24) (v := ?_) (a' := ?_) #[true, false, false, false, false, false, false, false, false, false, false, false, false, false, false, false] rfl rfl (any_of HT_.out (by kernel_rfl)) (fun _ _ _ h => h) (Or.inl ⟨by rfl, ?_⟩) ?_ ?_
             rotate_left
             ·
              intro w'
              go_simp
              with_reducible rfl
             rotate_left
             ·
              simp only [Act.put, List.setIfInBounds_toArray, List.set_cons_zero, List.set_cons_succ, i64_w, i32_w]
              rfl
             refine pure_ (i := 1) (N := some 25) (v := ?_) (a' := ?_) #[true, true, false, false, false, false, false, false, false, false, false, false, false, false, false, false] rfl rfl (any_of HT_.out (by kernel_rfl)) (fun _ _ _ h => h) (Or.inl ⟨by rfl, ?_⟩) ?_ ?_
             rotate_left
             ·
              intro w'
              go_simp
              with_reducible rfl
             rotate_left
             ·
              simp only [Act.put, List.setIfInBounds_toArray, List.set_cons_zero, List.set_cons_succ, i64_w, i32_w]
              rfl
             refine pure_ (i := 2) (N := some 26) (v := ?_) (a' := ?_) #[true, true, true, false, false, false, false, false, false, false, false, false, false, false, false, false] rfl rfl (any_of HT_.out (by kernel_rfl)) (fun _ _ _ h => h) (Or.inl ⟨by rfl, ?_⟩) ?_ ?_
             rotate_left
             ·
              intro w'
              go_simp
              with_reducible rfl
             rotate_left
             ·
              simp only [Act.put, List.setIfInBounds_toArray, List.set_cons_zero, List.set_cons_succ, i64_w, i32_w]
              rfl
             refine pure_ (i := 3) (N := some 27) (v := ?_) (a' := ?_) #[true, true, true, true, false, false, false, false, false, false, false, false, false, false, false, false] rfl rfl (any_of HT_.out (by kernel_rfl)) (fun _ _ _ h => h) (Or.inl ⟨by rfl, ?_⟩) ?_ ?_
             rotate_left
             ·
              intro w'
              go_simp
              with_reducible rfl
             rotate_left
             ·
              simp only [Act.put, List.setIfInBounds_toArray, List.set_cons_zero, List.set_cons_succ, i64_w, i32_w]
              rfl
             refine pure_ (i := 4) (N := some 28) (v := ?_) (a' := ?_) #[true, true, true, true, true, false, false, false, false, false, false, false, false, false, false, false] rfl rfl (any_of HT_.out (by kernel_rfl)) (fun _ _ _ h => h) (Or.inl ⟨by rfl, ?_⟩) ?_ ?_
             rotate_left
             ·
              intro w'
              go_simp
              with_reducible rfl
             rotate_left
             ·
              simp only [Act.put, List.setIfInBounds_toArray, List.set_cons_zero, List.set_cons_succ, i64_w, i32_w]
              rfl
             refine pure_ (i := 5) (N := some 29) (v := ?_) (a' := ?_) #[true, true, true, true, true, true, false, false, false, false, false, false, false, false, false, false] rfl rfl (any_of HT_.out (by kernel_rfl)) (fun _ _ _ h => h) (Or.inl ⟨by rfl, ?_⟩) ?_ ?_
             rotate_left
             ·
              intro w'
              go_simp
              with_reducible rfl
             rotate_left
             ·
              simp only [Act.put, List.setIfInBounds_toArray, List.set_cons_zero, List.set_cons_succ, i64_w, i32_w]
              rfl
             refine pure_ (i := 9) (N := some 33) (v := ?_) (a' := ?_) #[true, true, true, true, true, true, false, false, false, true, false, false, false, false, false, false] rfl rfl (any_of HT_.out (by kernel_rfl)) (fun _ _ _ h => h) (Or.inl ⟨by rfl, ?_⟩) ?_ ?_
             rotate_left
             ·
              intro w'
              go_simp
              with_reducible rfl
             rotate_left
             ·
              simp only [Act.put, List.setIfInBounds_toArray, List.set_cons_zero, List.set_cons_succ, i64_w, i32_w]
              rfl
             refine pure_ (i := 10) (N := some 34) (v := ?_) (a' := ?_) #[true, true, true, true, true, true, false, false, false, true, true, false, false, false, false, false] rfl rfl (any_of HT_.out (by kernel_rfl)) (fun _ _ _ h => h) (Or.inl ⟨by rfl, ?_⟩) ?_ ?_
             rotate_left
             ·
              intro w'
              go_simp
              with_reducible rfl
             rotate_left
             ·
              simp only [Act.put, List.setIfInBounds_toArray, List.set_cons_zero, List.set_cons_succ, i64_w, i32_w]
              rfl
             refine pure_ (i := 11) (N := some 35) (v := ?_) (a' := ?_) #[true, true, true, true, true, true, false, false, false, true, true, true, false, false, false, false] rfl rfl (any_of HT_.out (by kernel_rfl)) (fun _ _ _ h => h) (Or.inl ⟨by rfl, ?_⟩) ?_ ?_
             rotate_left
             ·
              intro w'
              go_simp
              with_reducible rfl
             rotate_left
             ·
              simp only [Act.put, List.setIfInBounds_toArray, List.set_cons_zero, List.set_cons_succ, i64_w, i32_w]
              rfl
             refine take_ (i := 6) (N := some 30) (v := ?_) (a' := ?_) #[true, true, true, true, true, true, true, false, false, true, true, true, false, false, false, false] rfl rfl (take_ofW HT_.out HW_.out (by kernel_rfl)) (fun _ _ _ h => h) (Or.inl ⟨by rfl, ?_⟩) hHeld ?_ ?_
             rotate_left
             ·
              rintro w' ⟨s0, s1, s2, s3, s4, s5, s6, s7⟩
              go_simp
              with_reducible rfl
             rotate_left
             ·
              simp only [Act.put, List.setIfInBounds_toArray, List.set_cons_zero, List.set_cons_succ, i64_w, i32_w]
              rfl
             refine pure_ (i := 7) (N := some 31) (v := ?_) (a' := ?_) #[true, true, true, true, true, true, true, true, false, true, true, true, false, false, false, false] rfl rfl (any_of HT_.out (by kernel_rfl)) (fun _ _ _ h => h) (Or.inl ⟨by rfl, ?_⟩) ?_ ?_
             rotate_left
             ·
              intro w'
              go_simp
              with_reducible rfl
             rotate_left
             ·
              simp only [Act.put, List.setIfInBounds_toArray, List.set_cons_zero, List.set_cons_succ, i64_w, i32_w]
              rfl
             refine take_ (i := 8) (N := some 32) (v := ?_) (a' := ?_) #[true, true, true, true, true, true, true, true, true, true, true, true, false, false, false, false] rfl rfl (take_ofW HT_.out HW_.out (by kernel_rfl)) (fun _ _ _ h => h) (Or.inl ⟨by rfl, ?_⟩) hHeld ?_ ?_
             rotate_left
             ·
              rintro w' ⟨s0, s1, s2, s3, s4, s5, s6, s7⟩
              go_simp
              with_reducible rfl
             rotate_left
             ·
              simp only [Act.put, List.setIfInBounds_toArray, List.set_cons_zero, List.set_cons_succ, i64_w, i32_w]
              rfl
             refine take_ (i := 12) (N := some 36) (v := ?_) (a' := ?_) #[true, true, true, true, true, true, true, true, true, true, true, true, true, false, false, false] rfl rfl (take_ofW HT_.out HW_.out (by kernel_rfl)) (fun _ _ _ h => h) (Or.inl ⟨by rfl, ?_⟩) hHeld ?_ ?_
             rotate_left
             ·
              rintro w' ⟨s0, s1, s2, s3, s4, s5, s6, s7⟩
              go_simp
              with_reducible rfl
             rotate_left
             ·
              simp only [Act.put, List.setIfInBounds_toArray, List.set_cons_zero, List.set_cons_succ, i64_w, i32_w]
              rfl
             refine pure_ (i := 13) (N := some 37) (v := ?_) (a' := ?_) #[true, true, true, true, true, true, true, true, true, true, true, true, true, true, false, false] rfl rfl (any_of HT_.out (by kernel_rfl)) (fun _ _ _ h => h) (Or.inl ⟨by rfl, ?_⟩) ?_ ?_
             rotate_left
             ·
              intro w'
              go_simp
              with_reducible rfl
             rotate_left
             ·
              simp only [Act.put, List.setIfInBounds_toArray, List.set_cons_zero, List.set_cons_succ, i64_w, i32_w]
              rfl
             refine pure_ (i := 14) (N := some 38) (v := ?_) (a' := ?_) #[true, true, true, true, true, true, true, true, true, true, true, true, true, true, true, false] rfl rfl (any_of HT_.out (by kernel_rfl)) (fun _ _ _ h => h) (Or.inl ⟨by rfl, ?_⟩) ?_ ?_
             rotate_left
             ·
              intro w'
              go_simp
              with_reducible rfl
             rotate_left
             ·
              simp only [Act.put, List.setIfInBounds_toArray, List.set_cons_zero, List.set_cons_succ, i64_w, i32_w]
              rfl
             refine last_ (i := 15) (N := none) #[true, true, true, true, true, true, true, true, true, true, true, true, true, true, true, true] rfl rfl (one_of HT_.out (by kernel_rfl)) (by decide) (fun K hK => ?_)
             refine skip_ (w1 := ?_) (by rfl) rfl ?_ ?_
             rotate_left
             ·
              go_simp
              rfl
             refine hK.out _ _ ?_
             clear hK K; refine done_ (done_of HT_.out (by kernel_rfl)) ?_
             try go_wp2
             go_roundg k1
             case measure => have := HK1.out; omega
             case rel => exact ⟨(y229), (ji14), (by first | rfl | (simp; done) | (simp only [← hji14] <;> (first | rfl | simp)) | (simp [*]; done)), H', ⟨by have := HK1.out; omega⟩, ⟨by (with_reducible repeat (first | apply Kd.R_alloc | apply Kd.R_drewN | apply Kd.R_drew)); exact HQ24.out⟩, ⟨by with_reducible repeat first | exact HB.out | apply zA | apply zN | apply zD | refine zS ?_ GB13.out⟩⟩
            ·
             rw [if_neg c18] at H
             exact absurd H (by simp)
           ·
            rw [if_neg c17] at H
            exact absurd H (by simp)
          ·
           rw [if_neg c16] at H
           exact absurd H (by simp)
         ·
          rw [if_neg c15] at H
          exact absurd H (by simp)
        ·
         rw [if_neg c12] at H
         exact absurd H (by simp)
       ·
        rw [if_neg c11] at H
        exact absurd H (by simp)
   ·
    rw [if_neg c6] at H
    exact absurd H (by simp)
  ·
   rw [if_neg c5] at H
   exact absurd H (by simp)
 ·
  rw [if_neg c3] at H
  have c3b0 : (t220 == 0) = false := beq_eq_false_iff_ne.mpr c3
  have c3b1 : (t220 != 0) = true := bne_iff_ne.mpr c3
  obtain rfl := Option.some.inj H
  go_enter Try.func17, Try.ntmps17
  (try go_step3)
  go_wp2_with (first | ((with_reducible refine gate_callee (f := 14) rfl ?_); refine goesL_ (some 6) rfl rfl Try.func14 (by kernel_rfl) rfl #[.slice A0 l0.length c0] rfl (by (try simp only [List.map_toArray, List.map_cons, List.map_nil]); first | done | rfl | (simp only [List.length_drop, List.length_take]; rfl)) ?_; (with_reducible refine (flat_Check.calls k _ _ l0 t220 _ ?side1 ?side2 A2.out).mono ?_); (case side1 => repeat (first | exact HR0.out | (with_reducible refine Kd.C_alloc ?_ _) | (with_reducible refine Kd.C_drewN ?_ _) | (with_reducible refine Kd.C_drew ?_))); (case side2 => exact HC0.out); rintro e w25 ⟨rfl, hb⟩; refine ⟨_, rfl, ?_⟩; have n0_ := Aside0.mk (below_step (by with_reducible repeat first | exact HB.out | apply zA | apply zN | apply zD) hb); clear HB; have HB := n0_; clear n0_; (try clear hb); (try clear hb2); (try clear hk); (try clear hi)))
  iterate 2 (try (go_step3; try go_wp2_with (first | ((with_reducible refine gate_callee (f := 14) rfl ?_); refine goesL_ (some 6) rfl rfl Try.func14 (by kernel_rfl) rfl #[.slice A0 l0.length c0] rfl (by (try simp only [List.map_toArray, List.map_cons, List.map_nil]); first | done | rfl | (simp only [List.length_drop, List.length_take]; rfl)) ?_; (with_reducible refine (flat_Check.calls k _ _ l0 t220 _ ?side1 ?side2 A2.out).mono ?_); (case side1 => repeat (first | exact HR0.out | (with_reducible refine Kd.C_alloc ?_ _) | (with_reducible refine Kd.C_drewN ?_ _) | (with_reducible refine Kd.C_drew ?_))); (case side2 => exact HC0.out); rintro e w25 ⟨rfl, hb⟩; refine ⟨_, rfl, ?_⟩; have n0_ := Aside0.mk (below_step (by with_reducible repeat first | exact HB.out | apply zA | apply zN | apply zD) hb); clear HB; have HB := n0_; clear n0_; (try clear hb); (try clear hb2); (try clear hk); (try clear hi)))))
  (try rw [Exit.noGoto_ret])
  go_ret
  exact ⟨_, by first | rfl | (simp [errW_none, errW_some] <;> rfl) | (simp [*, errW_none, errW_some] <;> rfl), by first | exact Kd.R_nil _ _ _ _ _ | exact Kd.N_nil _ _ _ _ _ | exact Kd.V_nil _ _ _ _ _ | exact Kd.Q_nil _ _ _ _ _ | exact Kd.S_nil _ _ _ _ _, by with_reducible repeat first | exact HB.out | apply zA | apply zN | apply zD⟩
/-! ### tendrilplain_Ints: function 20 -/
def tendrilplain_Ints.l0 : Nat → List Int → List Int → Int → Int → Option (Bool)
  | 0, _, _, _, _ => none
  | k + 1, x0, x1, x12, x13 => if x13 < x12 then (if 0 ≤ x13 then (if x13 < (x0.length : Int) then (if x13 < (x1.length : Int) then (if (rd x0 x13) = (rd x1 x13) then (tendrilplain_Ints.l0 k x0 x1 x12 (wrap64 (x13 + 1))) else (some false)) else (none)) else (none)) else (none)) else (some true)
def tendrilplain_Ints.f (k : Nat) (l0 : List Int) (l1 : List Int) : Option (Bool) := if (l0.length : Int) = (l1.length : Int) then (tendrilplain_Ints.l0 k l0 l1 (l0.length : Int) 0) else (some false)
theorem tendrilplain_Ints.mono_l : ∀ k, (∀ y0 y1 y2 y3, LeO (tendrilplain_Ints.l0 k y0 y1 y2 y3) (tendrilplain_Ints.l0 (k + 1) y0 y1 y2 y3))
  | 0 => fun _ _ _ _ r h => by simp [tendrilplain_Ints.l0] at h
  | k + 1 => by
    have ih0 := tendrilplain_Ints.mono_l k
    · intro y0 y1 y2 y3
      unfold tendrilplain_Ints.l0
      repeat' first
      | (with_reducible exact ih0 _ _ _ _)
      | (with_reducible exact LeO.refl _)
      | (with_reducible exact LeO.none _)
      | (with_reducible refine LeO.ite ?_ ?_)
      | (with_reducible refine LeO.bind ?_ (fun _ => ?_))
theorem tendrilplain_Ints.mono : ∀ a0 a1 k, LeO (tendrilplain_Ints.f k a0 a1) (tendrilplain_Ints.f (k + 1) a0 a1) := by
  intro a0 a1 k
  have ih0 := tendrilplain_Ints.mono_l k
  unfold tendrilplain_Ints.f
  repeat' first
      | (with_reducible exact ih0 _ _ _ _)
      | (with_reducible exact LeO.refl _)
      | (with_reducible exact LeO.none _)
      | (with_reducible refine LeO.ite ?_ ?_)
      | (with_reducible refine LeO.bind ?_ (fun _ => ?_))
set_option maxHeartbeats 8000000 in
set_option maxRecDepth 100000 in
theorem tendrilplain_Ints.calls (k : Nat) (A0 : Option Addr) (c0 : Nat) (l0 : List Int) (A1 : Option Addr) (c1 : Nat) (l1 : List Int) (r : Bool) (w : World) (hr0 : Kd.C (Kd.int .i64) w A0 l0.length l0) (hc0 : l0.length ≤ c0) (hr1 : Kd.C (Kd.int .i64) w A1 l1.length l1) (hc1 : l1.length ≤ c1) (h : tendrilplain_Ints.f k l0 l1 = some r) :
    Calls Try.prog 20 #[.slice A0 l0.length c0, .slice A1 l1.length c1] w fun e w' => e = .returned (.bool r) ∧ Drawn0 w w' := by
  have HR0 := Aside0.mk hr0
  have HC0 := Aside0.mk hc0
  clear hr0 hc0
  have HR1 := Aside0.mk hr1
  have HC1 := Aside0.mk hc1
  clear hr1 hc1
  have H : (if (l0.length : Int) = (l1.length : Int) then (tendrilplain_Ints.l0 k l0 l1 (l0.length : Int) 0) else (some false)) = some r := h
  clear h
  by_cases c3 : (l0.length : Int) = (l1.length : Int)
  · rw [if_pos c3] at H
    have c3b0 : ((l0.length : Int) == (l1.length : Int)) = true := beq_iff_eq.mpr c3; have c3b1 : ((l0.length : Int) != (l1.length : Int)) = false := bne_eq_false_iff_eq.mpr c3; have c3b2 : (l0.length == l1.length) = true := by first | simpa using c3 | (simp at c3 ⊢; omega)
    clear c3; have H' := Aside0.mk H; clear H
    go_enter Try.func20, Try.ntmps20
    go_wp2
    repeat (go_quiet (fail); try go_wp2)
    go_loopg [13] k (fun kq v13 w' => ∃ (x13_1 : Int), v13 = .int .i64 x13_1 ∧ Aside0 (tendrilplain_Ints.l0 kq l0 l1 (l0.length : Int) x13_1 = some r) ∧ Aside0 (kq ≤ k) ∧ Drawn0 w w')
    case atStart => exact ⟨(0), (by first | rfl | (simp; done) | (simp [*]; done)), H', ⟨Nat.le_refl _⟩, by repeat (first | exact Drawn0.refl _ | apply Drawn0.step)⟩
    case round =>
      clear H'
      try clear c1
      try clear c2
      try clear p2
      try clear c3
      try clear c3b0
      try clear c3b1
      try clear c3b2
      obtain ⟨x13_1, rfl, HA, HK1, ⟨m1, rfl⟩⟩ := hrel; cases gk with
      | zero => exact absurd HA.out (by simp [tendrilplain_Ints.l0])
      | succ k1 =>
        have H := HA.out; clear HA
        simp only [tendrilplain_Ints.l0] at H
        by_cases c4 : x13_1 < (l0.length : Int)
        · rw [if_pos c4] at H
          have c4b0 : decide (x13_1 < (l0.length : Int)) = true := decide_eq_true c4; clear c4
          by_cases c5 : 0 ≤ x13_1
          · rw [if_pos c5] at H
            have c5b0 : decide (0 ≤ x13_1) = true := decide_eq_true c5; clear c5
            by_cases c6 : x13_1 < (l0.length : Int)
            · rw [if_pos c6] at H
              have c6b0 : decide (x13_1 < (l0.length : Int)) = true := decide_eq_true c6; clear c6
              by_cases c7 : x13_1 < (l1.length : Int)
              · rw [if_pos c7] at H
                have c7b0 : decide (x13_1 < (l1.length : Int)) = true := decide_eq_true c7; clear c7
                by_cases c8 : (rd l0 x13_1) = (rd l1 x13_1)
                · rw [if_pos c8] at H
                  have c8b0 : ((rd l0 x13_1) == (rd l1 x13_1)) = true := beq_iff_eq.mpr c8; have c8b1 : ((rd l0 x13_1) != (rd l1 x13_1)) = false := bne_eq_false_iff_eq.mpr c8; clear c8; have H' := Aside0.mk H; clear H; have p230 : 0 ≤ (x13_1 : Int) := of_decide_eq_true (by assumption); have q230 : x13_1 < (l0.length : Int) := of_decide_eq_true (by assumption); obtain ⟨ad230, e230, hx230_0⟩ := Kd.at_int HR0.out x13_1 p230 q230; cases e230; replace p230 := eq_true p230; replace q230 := eq_true q230; have p231 : 0 ≤ (x13_1 : Int) := of_decide_eq_true (by assumption); have q231 : x13_1 < (l1.length : Int) := of_decide_eq_true (by assumption); obtain ⟨ad231, e231, hx231_0⟩ := Kd.at_int HR1.out x13_1 p231 q231; cases e231; replace p231 := eq_true p231; replace q231 := eq_true q231
                  go_wp2
                  repeat (go_quiet (fail); try go_wp2)
                  go_roundg k1
                  case measure => have := HK1.out; omega
                  case rel => exact ⟨(wrap64 (x13_1 + 1)), (by first | rfl | (simp; done) | (simp [*]; done)), H', ⟨by have := HK1.out; omega⟩, by repeat (first | exact Drawn0.refl _ | apply Drawn0.step)⟩
                · rw [if_neg c8] at H
                  have c8b0 : ((rd l0 x13_1) == (rd l1 x13_1)) = false := beq_eq_false_iff_ne.mpr c8; have c8b1 : ((rd l0 x13_1) != (rd l1 x13_1)) = true := bne_iff_ne.mpr c8; obtain rfl := Option.some.inj H; have p230 : 0 ≤ (x13_1 : Int) := of_decide_eq_true (by assumption); have q230 : x13_1 < (l0.length : Int) := of_decide_eq_true (by assumption); obtain ⟨ad230, e230, hx230_0⟩ := Kd.at_int HR0.out x13_1 p230 q230; cases e230; replace p230 := eq_true p230; replace q230 := eq_true q230; have p231 : 0 ≤ (x13_1 : Int) := of_decide_eq_true (by assumption); have q231 : x13_1 < (l1.length : Int) := of_decide_eq_true (by assumption); obtain ⟨ad231, e231, hx231_0⟩ := Kd.at_int HR1.out x13_1 p231 q231; cases e231; replace p231 := eq_true p231; replace q231 := eq_true q231
                  go_wp2
                  repeat (go_quiet (fail); try go_wp2)
                  go_ret
                  exact ⟨by first | rfl | (simp; done) | (simp [*]; done), by repeat (first | exact Drawn0.refl _ | apply Drawn0.step)⟩
              · rw [if_neg c7] at H
                exact absurd H (by simp)
            · rw [if_neg c6] at H
              exact absurd H (by simp)
          · rw [if_neg c5] at H
            exact absurd H (by simp)
        · rw [if_neg c4] at H
          have c4b0 : decide (x13_1 < (l0.length : Int)) = false := decide_eq_false c4; clear c4; obtain rfl := Option.some.inj H
          go_wp2
          repeat (go_quiet (fail); try go_wp2)
          go_ret
          exact ⟨by first | rfl | (simp; done) | (simp [*]; done), by repeat (first | exact Drawn0.refl _ | apply Drawn0.step)⟩
  · rw [if_neg c3] at H
    have c3b0 : ((l0.length : Int) == (l1.length : Int)) = false := beq_eq_false_iff_ne.mpr c3; have c3b1 : ((l0.length : Int) != (l1.length : Int)) = true := bne_iff_ne.mpr c3; have c3b2 : (l0.length == l1.length) = false := by first | simpa using c3 | (simp at c3 ⊢; omega)
    obtain rfl := Option.some.inj H
    go_enter Try.func20, Try.ntmps20
    go_wp2
    repeat (go_quiet (fail); try go_wp2)
    go_ret
    exact ⟨by first | rfl | (simp; done) | (simp [*]; done), by repeat (first | exact Drawn0.refl _ | apply Drawn0.step)⟩
open Go.Proofs.YtcebfldagnjddaaW.PrintWords renaming below_alloc → zA, pw_below_drewN → zN, below_drew1 → zD, below_set → zS, blk_drewN → zM, blk_drew → zE, blk_alloc → zF, blk_far → zG, blk_put → zP, blk_cell → zC, blk_frozen → zR
/-! ### tendrillaw13_same: function 8 -/
def tendrillaw13_same.f0 (k : Nat)  : Option (Bool) := (some (([(⟨(⟨#[108, 105]⟩ : ByteArray), (⟨#[]⟩ : ByteArray), (⟨#[]⟩ : ByteArray), ([] : List (S69)), ([] : List (S25))⟩ : S25), (⟨(⟨#[117, 108]⟩ : ByteArray), (⟨#[]⟩ : ByteArray), (⟨#[]⟩ : ByteArray), ([] : List (S69)), (([(⟨(⟨#[108, 105]⟩ : ByteArray), (⟨#[]⟩ : ByteArray), (⟨#[]⟩ : ByteArray), ([] : List (S69)), ([] : List (S25))⟩ : S25)] : List (S25)))⟩ : S25)] : List (S25)) : List (S25))).bind fun y235 => ((flat_Rows.f k (⟨#[112]⟩ : ByteArray) (⟨#[]⟩ : ByteArray) (⟨#[]⟩ : ByteArray) ([] : List (S69)) y235).bind fun bt239 => ((flat_Tree.f k bt239.1).bind fun bt243 => (if bt239.2 = 0 then (if bt243.2.2.2.2.2 = 0 then (if (bt239.1.length : Int) = 4 then (if 3 < (bt239.1.length : Int) then (if ((rd_T53 bt239.1 3).f1) = 3 then (if 2 < (bt239.1.length : Int) then (if ((rd_T53 bt239.1 2).f1) = 1 then ((tendrilplain_Nodes.f k bt243.1 bt243.2.1 bt243.2.2.1 bt243.2.2.2.1 bt243.2.2.2.2.1 (⟨#[112]⟩ : ByteArray) (⟨#[]⟩ : ByteArray) (⟨#[]⟩ : ByteArray) ([] : List (S69)) y235).bind fun t256 => (if t256 = true then ((flat_Spans.f k bt239.1).bind fun t257 => ((tendrilplain_Ints.f k t257 (([4, 4, 1, 2, 1] : List Int))).bind fun t263 => (some t263))) else (some false))) else (some false)) else (none)) else (some false)) else (none)) else (some false)) else (some false)) else (some false))))
theorem tendrillaw13_same.mono0 : ∀ k, LeO (tendrillaw13_same.f0 k ) (tendrillaw13_same.f0 (k + 1) ) := by
 intro  k
 unfold tendrillaw13_same.f0
 repeat' first
   | (with_reducible exact flat_Rows.mono _ _ _ _ _ _)
   | (with_reducible exact flat_Spans.mono _ _)
   | (with_reducible exact flat_Tree.mono _ _)
   | (with_reducible exact tendrilplain_Ints.mono _ _ _)
   | (with_reducible exact tendrilplain_Nodes.mono _ _ _ _ _ _ _ _ _ _ _)
   | (with_reducible exact LeO.refl _)
   | (with_reducible exact LeO.none _)
   | (with_reducible refine LeO.ite ?_ ?_)
   | (with_reducible refine LeO.bind ?_ (fun _ => ?_))
def tendrillaw13_same.f (k : Nat) : Option Bool := (tendrillaw13_same.f0 k).bind fun b => if b = true then some true else none
theorem tendrillaw13_same.mono : ∀ k, LeO (tendrillaw13_same.f k ) (tendrillaw13_same.f (k + 1) ) := by
  intro  k
  unfold tendrillaw13_same.f
  exact LeO.bind (tendrillaw13_same.mono0  k) (fun _ => LeO.refl _)
set_option maxHeartbeats 8000000 in
set_option maxRecDepth 100000 in
theorem tendrillaw13_same.calls (k : Nat)  (r : Bool) (w : World) (h : tendrillaw13_same.f k  = some r) :
  Calls Try.prog 8 #[] w fun e w' => e = .returned (.bool r) ∧ Below w.heap.size w w' := by
 obtain ⟨b_, hb_, hr_⟩ := Option.bind_eq_some_iff.1 h
 split at hr_
 case isFalse => cases hr_
 rename_i hbt_
 subst hbt_
 obtain rfl := Option.some.inj hr_
 obtain ⟨r, hr2_⟩ : ∃ r : Bool, r = true := ⟨_, rfl⟩
 rw [← hr2_] at hb_ ⊢
 have HR_ := Aside0.mk hr2_
 clear hr_ hr2_ h
 have h := hb_
 clear hb_
 have hu25 := Try.underlying25
 have HB := Aside0.mk (Below.refl w.heap.size w)
 have H : ((some (([(⟨(⟨#[108, 105]⟩ : ByteArray), (⟨#[]⟩ : ByteArray), (⟨#[]⟩ : ByteArray), ([] : List (S69)), ([] : List (S25))⟩ : S25), (⟨(⟨#[117, 108]⟩ : ByteArray), (⟨#[]⟩ : ByteArray), (⟨#[]⟩ : ByteArray), ([] : List (S69)), (([(⟨(⟨#[108, 105]⟩ : ByteArray), (⟨#[]⟩ : ByteArray), (⟨#[]⟩ : ByteArray), ([] : List (S69)), ([] : List (S25))⟩ : S25)] : List (S25)))⟩ : S25)] : List (S25)) : List (S25))).bind fun y235 => ((flat_Rows.f k (⟨#[112]⟩ : ByteArray) (⟨#[]⟩ : ByteArray) (⟨#[]⟩ : ByteArray) ([] : List (S69)) y235).bind fun bt239 => ((flat_Tree.f k bt239.1).bind fun bt243 => (if bt239.2 = 0 then (if bt243.2.2.2.2.2 = 0 then (if (bt239.1.length : Int) = 4 then (if 3 < (bt239.1.length : Int) then (if ((rd_T53 bt239.1 3).f1) = 3 then (if 2 < (bt239.1.length : Int) then (if ((rd_T53 bt239.1 2).f1) = 1 then ((tendrilplain_Nodes.f k bt243.1 bt243.2.1 bt243.2.2.1 bt243.2.2.2.1 bt243.2.2.2.2.1 (⟨#[112]⟩ : ByteArray) (⟨#[]⟩ : ByteArray) (⟨#[]⟩ : ByteArray) ([] : List (S69)) y235).bind fun t256 => (if t256 = true then ((flat_Spans.f k bt239.1).bind fun t257 => ((tendrilplain_Ints.f k t257 (([4, 4, 1, 2, 1] : List Int))).bind fun t263 => (some t263))) else (some false))) else (some false)) else (none)) else (some false)) else (none)) else (some false)) else (some false)) else (some false))))) = some r := h
 clear h
 obtain ⟨y232, hy232⟩ : ∃ y_ : List (S25), y_ = (([(⟨(⟨#[108, 105]⟩ : ByteArray), (⟨#[]⟩ : ByteArray), (⟨#[]⟩ : ByteArray), ([] : List (S69)), ([] : List (S25))⟩ : S25)] : List (S25))) := ⟨_, rfl⟩
 replace H : ((some (([(⟨(⟨#[108, 105]⟩ : ByteArray), (⟨#[]⟩ : ByteArray), (⟨#[]⟩ : ByteArray), ([] : List (S69)), ([] : List (S25))⟩ : S25), (⟨(⟨#[117, 108]⟩ : ByteArray), (⟨#[]⟩ : ByteArray), (⟨#[]⟩ : ByteArray), ([] : List (S69)), y232⟩ : S25)] : List (S25)) : List (S25))).bind fun y235 => ((flat_Rows.f k (⟨#[112]⟩ : ByteArray) (⟨#[]⟩ : ByteArray) (⟨#[]⟩ : ByteArray) ([] : List (S69)) y235).bind fun bt239 => ((flat_Tree.f k bt239.1).bind fun bt243 => (if bt239.2 = 0 then (if bt243.2.2.2.2.2 = 0 then (if (bt239.1.length : Int) = 4 then (if 3 < (bt239.1.length : Int) then (if ((rd_T53 bt239.1 3).f1) = 3 then (if 2 < (bt239.1.length : Int) then (if ((rd_T53 bt239.1 2).f1) = 1 then ((tendrilplain_Nodes.f k bt243.1 bt243.2.1 bt243.2.2.1 bt243.2.2.2.1 bt243.2.2.2.2.1 (⟨#[112]⟩ : ByteArray) (⟨#[]⟩ : ByteArray) (⟨#[]⟩ : ByteArray) ([] : List (S69)) y235).bind fun t256 => (if t256 = true then ((flat_Spans.f k bt239.1).bind fun t257 => ((tendrilplain_Ints.f k t257 (([4, 4, 1, 2, 1] : List Int))).bind fun t263 => (some t263))) else (some false))) else (some false)) else (none)) else (some false)) else (none)) else (some false)) else (some false)) else (some false))))) = some r := by first | (rw [hy232]; with_reducible exact H) | (have H2_ := (Option.bind_some _ _).symm.trans H; rw [hy232]; with_reducible exact H2_) | (have H2_ := (Option.bind_some _ _).symm.trans H; with_reducible exact H2_) | with_reducible exact H | (rw [hy232]; exact H) | exact H
 have Ny232 := Aside0.mk hy232
 clear hy232
 obtain ⟨y235, hy235⟩ : ∃ y_ : List (S25), y_ = (([(⟨(⟨#[108, 105]⟩ : ByteArray), (⟨#[]⟩ : ByteArray), (⟨#[]⟩ : ByteArray), ([] : List (S69)), ([] : List (S25))⟩ : S25), (⟨(⟨#[117, 108]⟩ : ByteArray), (⟨#[]⟩ : ByteArray), (⟨#[]⟩ : ByteArray), ([] : List (S69)), y232⟩ : S25)] : List (S25))) := ⟨_, rfl⟩
 replace H : ((flat_Rows.f k (⟨#[112]⟩ : ByteArray) (⟨#[]⟩ : ByteArray) (⟨#[]⟩ : ByteArray) ([] : List (S69)) y235).bind fun bt239 => ((flat_Tree.f k bt239.1).bind fun bt243 => (if bt239.2 = 0 then (if bt243.2.2.2.2.2 = 0 then (if (bt239.1.length : Int) = 4 then (if 3 < (bt239.1.length : Int) then (if ((rd_T53 bt239.1 3).f1) = 3 then (if 2 < (bt239.1.length : Int) then (if ((rd_T53 bt239.1 2).f1) = 1 then ((tendrilplain_Nodes.f k bt243.1 bt243.2.1 bt243.2.2.1 bt243.2.2.2.1 bt243.2.2.2.2.1 (⟨#[112]⟩ : ByteArray) (⟨#[]⟩ : ByteArray) (⟨#[]⟩ : ByteArray) ([] : List (S69)) y235).bind fun t256 => (if t256 = true then ((flat_Spans.f k bt239.1).bind fun t257 => ((tendrilplain_Ints.f k t257 (([4, 4, 1, 2, 1] : List Int))).bind fun t263 => (some t263))) else (some false))) else (some false)) else (none)) else (some false)) else (none)) else (some false)) else (some false)) else (some false)))) = some r := by first | (rw [hy235]; with_reducible exact H) | (have H2_ := (Option.bind_some _ _).symm.trans H; rw [hy235]; with_reducible exact H2_) | (have H2_ := (Option.bind_some _ _).symm.trans H; with_reducible exact H2_) | with_reducible exact H | (rw [hy235]; exact H) | exact H
 have Ny235 := Aside0.mk hy235
 clear hy235
 replace H := Option.bind_eq_some_iff.mp H
 obtain ⟨⟨t239, t242⟩, A10, H⟩ := H
 replace H : ((flat_Tree.f k t239).bind fun bt243 => (if t242 = 0 then (if bt243.2.2.2.2.2 = 0 then (if (t239.length : Int) = 4 then (if 3 < (t239.length : Int) then (if ((rd_T53 t239 3).f1) = 3 then (if 2 < (t239.length : Int) then (if ((rd_T53 t239 2).f1) = 1 then ((tendrilplain_Nodes.f k bt243.1 bt243.2.1 bt243.2.2.1 bt243.2.2.2.1 bt243.2.2.2.2.1 (⟨#[112]⟩ : ByteArray) (⟨#[]⟩ : ByteArray) (⟨#[]⟩ : ByteArray) ([] : List (S69)) y235).bind fun t256 => (if t256 = true then ((flat_Spans.f k t239).bind fun t257 => ((tendrilplain_Ints.f k t257 (([4, 4, 1, 2, 1] : List Int))).bind fun t263 => (some t263))) else (some false))) else (some false)) else (none)) else (some false)) else (none)) else (some false)) else (some false)) else (some false))) = some r := H
 have A1 := Aside0.mk A10
 clear A10
 replace H := Option.bind_eq_some_iff.mp H
 obtain ⟨⟨t243, t244, t245, t246, t249, t252⟩, A20, H⟩ := H
 replace H : (if t242 = 0 then (if t252 = 0 then (if (t239.length : Int) = 4 then (if 3 < (t239.length : Int) then (if ((rd_T53 t239 3).f1) = 3 then (if 2 < (t239.length : Int) then (if ((rd_T53 t239 2).f1) = 1 then ((tendrilplain_Nodes.f k t243 t244 t245 t246 t249 (⟨#[112]⟩ : ByteArray) (⟨#[]⟩ : ByteArray) (⟨#[]⟩ : ByteArray) ([] : List (S69)) y235).bind fun t256 => (if t256 = true then ((flat_Spans.f k t239).bind fun t257 => ((tendrilplain_Ints.f k t257 (([4, 4, 1, 2, 1] : List Int))).bind fun t263 => (some t263))) else (some false))) else (some false)) else (none)) else (some false)) else (none)) else (some false)) else (some false)) else (some false)) = some r := H
 have A2 := Aside0.mk A20
 clear A20
 by_cases c3 : t242 = 0
 ·
  rw [if_pos c3] at H
  have c3b0 : (t242 == 0) = true := beq_iff_eq.mpr c3
  have c3b1 : (t242 != 0) = false := bne_eq_false_iff_eq.mpr c3
  clear c3
  by_cases c4 : t252 = 0
  ·
   rw [if_pos c4] at H
   have c4b0 : (t252 == 0) = true := beq_iff_eq.mpr c4; have c4b1 : (t252 != 0) = false := bne_eq_false_iff_eq.mpr c4; clear c4
   by_cases c5 : (t239.length : Int) = 4
   ·
    rw [if_pos c5] at H
    have c5b0 : ((t239.length : Int) == 4) = true := beq_iff_eq.mpr c5; have c5b1 : ((t239.length : Int) != 4) = false := bne_eq_false_iff_eq.mpr c5; clear c5
    by_cases c6 : 3 < (t239.length : Int)
    ·
     rw [if_pos c6] at H
     have c6b0 : decide (3 < (t239.length : Int)) = true := decide_eq_true c6; have c6b1 : decide (3 < t239.length) = true := decide_eq_true (by omega); clear c6
     by_cases c7 : ((rd_T53 t239 3).f1) = 3
     ·
      rw [if_pos c7] at H
      have c7b0 : (((rd_T53 t239 3).f1) == 3) = true := beq_iff_eq.mpr c7; have c7b1 : (((rd_T53 t239 3).f1) != 3) = false := bne_eq_false_iff_eq.mpr c7; clear c7
      by_cases c8 : 2 < (t239.length : Int)
      ·
       rw [if_pos c8] at H
       have c8b0 : decide (2 < (t239.length : Int)) = true := decide_eq_true c8; have c8b1 : decide (2 < t239.length) = true := decide_eq_true (by omega); clear c8
       by_cases c9 : ((rd_T53 t239 2).f1) = 1
       ·
        rw [if_pos c9] at H
        have c9b0 : (((rd_T53 t239 2).f1) == 1) = true := beq_iff_eq.mpr c9; have c9b1 : (((rd_T53 t239 2).f1) != 1) = false := bne_eq_false_iff_eq.mpr c9; clear c9; replace H := Option.bind_eq_some_iff.mp H; obtain ⟨t256, A100, H⟩ := H; replace H : (if t256 = true then ((flat_Spans.f k t239).bind fun t257 => ((tendrilplain_Ints.f k t257 (([4, 4, 1, 2, 1] : List Int))).bind fun t263 => (some t263))) else (some false)) = some r := H; have A10 := Aside0.mk A100; clear A100
        by_cases c11 : t256 = true
        ·
         subst c11; have H1 : ((flat_Spans.f k t239).bind fun t257 => ((tendrilplain_Ints.f k t257 (([4, 4, 1, 2, 1] : List Int))).bind fun t263 => (some t263))) = some r := by rw [if_pos rfl] at H; exact H
         clear H; have H := H1; clear H1; replace H := Option.bind_eq_some_iff.mp H; obtain ⟨t257, A120, H⟩ := H; replace H : ((tendrilplain_Ints.f k t257 (([4, 4, 1, 2, 1] : List Int))).bind fun t263 => (some t263)) = some r := H; have A12 := Aside0.mk A120; clear A120; obtain ⟨y260, hy260⟩ : ∃ y_ : List Int, y_ = (([4, 4, 1, 2, 1] : List Int)) := ⟨_, rfl⟩; replace H : ((tendrilplain_Ints.f k t257 y260).bind fun t263 => (some t263)) = some r := by first | (rw [hy260]; with_reducible exact H) | (have H2_ := (Option.bind_some _ _).symm.trans H; rw [hy260]; with_reducible exact H2_) | (have H2_ := (Option.bind_some _ _).symm.trans H; with_reducible exact H2_) | with_reducible exact H | (rw [hy260]; exact H) | exact H
         have Ny260 := Aside0.mk hy260; clear hy260; replace H := Option.bind_eq_some_iff.mp H; obtain ⟨t263, A130, H⟩ := H; replace H : (some t263) = some r := H; have A13 := Aside0.mk A130; clear A130; obtain rfl := Option.some.inj H
         go_enter Try.func8, Try.ntmps8
         go_wp2_with (first | ((with_reducible refine gate_dst (N := 8) rfl ?_); (try (refine gate_guard (by rfl) ?_; dsimp only)); refine Kd.N_lit k25 _ 25 ?hg (N' := 8) ?hd (xs := ([(⟨(⟨#[108, 105]⟩ : ByteArray), (⟨#[]⟩ : ByteArray), (⟨#[]⟩ : ByteArray), ([] : List (S69)), ([] : List (S25))⟩ : S25)] : List (S25))) (inner := [.string (⟨#[108, 105]⟩ : ByteArray), .string ⟨#[]⟩, .string ⟨#[]⟩, .slice none 0 0, .slice none 0 0]) (ok := (fun _ => True)) (okp := (fun _ => True)) ?hr ?hp (fun _ hk => hk) ((show ∀ k_, w.heap.size ≤ k_ → (fun _ => True) k_ from fun k_ hk => trivial) _ (Nat.le_refl _)) (Below.refl _ _) (Nat.le_refl _) (by simp) ?_; (case hd => rfl); (case hg => rfl); (case hr => first | (go_simp; done) | (go_simp; rfl)); (case hp => exact (Reps.c5 (show Kd.FK k25 _ _ (⟨(⟨#[108, 105]⟩ : ByteArray), (⟨#[]⟩ : ByteArray), (⟨#[]⟩ : ByteArray), ([] : List (S69)), ([] : List (S25))⟩ : S25) [.string (⟨#[108, 105]⟩ : ByteArray), .string ⟨#[]⟩, .string ⟨#[]⟩, .slice none 0 0, .slice none 0 0] from (k25_mkF _ _ (⟨(⟨#[108, 105]⟩ : ByteArray), (⟨#[]⟩ : ByteArray), (⟨#[]⟩ : ByteArray), ([] : List (S69)), ([] : List (S25))⟩ : S25) (Nat.le_refl _) (Kd.F_nil _ _ _) (Nat.le_refl _) (Kd.F_nil _ _ _))) (Reps.none _ _))); intro v233 w14 ho15 hb hg_ hnew_; clear hg_ hnew_; (first | rw [← Ny232.out] at ho15 | (simp only [Int.reduceToNat] at ho15; rw [← Ny232.out] at ho15)); have n0_ := Aside0.mk (Kd.N_lower ho15 (below_size (by with_reducible repeat first | exact HB.out | apply zA | apply zN | apply zD))); have n1_ := Aside0.mk (below_step (by with_reducible repeat first | exact HB.out | apply zA | apply zN | apply zD) hb); clear HB; have HO234 := n0_; have HB := n1_; clear n0_ n1_; clear hb ho15; obtain ⟨Ao16, co16, eo16⟩ := Kd.N_slice HO234.out; subst eo16) | ((with_reducible refine gate_dst (N := 10) rfl ?_); (try (refine gate_guard (by rfl) ?_; dsimp only)); refine Kd.N_lit k25 _ 25 ?hg (N' := 10) ?hd (xs := ([(⟨(⟨#[108, 105]⟩ : ByteArray), (⟨#[]⟩ : ByteArray), (⟨#[]⟩ : ByteArray), ([] : List (S69)), ([] : List (S25))⟩ : S25), (⟨(⟨#[117, 108]⟩ : ByteArray), (⟨#[]⟩ : ByteArray), (⟨#[]⟩ : ByteArray), ([] : List (S69)), y232⟩ : S25)] : List (S25))) (inner := [.string (⟨#[108, 105]⟩ : ByteArray), .string ⟨#[]⟩, .string ⟨#[]⟩, .slice none 0 0, .slice none 0 0, .string (⟨#[117, 108]⟩ : ByteArray), .string ⟨#[]⟩, .string ⟨#[]⟩, .slice none 0 0, .slice Ao16 y232.length co16]) (ok := (fun _ => True)) (okp := (fun _ => True)) ?hr ?hp (fun _ hk => hk) ((show ∀ k_, w14.heap.size ≤ k_ → (fun _ => True) k_ from fun k_ hk => trivial) _ (Nat.le_refl _)) (Below.refl _ _) (Nat.le_refl _) (by simp) ?_; (case hd => rfl); (case hg => rfl); (case hr => first | (go_simp; done) | (go_simp; rfl)); (case hp => exact (Reps.c5 (show Kd.FK k25 _ _ (⟨(⟨#[108, 105]⟩ : ByteArray), (⟨#[]⟩ : ByteArray), (⟨#[]⟩ : ByteArray), ([] : List (S69)), ([] : List (S25))⟩ : S25) [.string (⟨#[108, 105]⟩ : ByteArray), .string ⟨#[]⟩, .string ⟨#[]⟩, .slice none 0 0, .slice none 0 0] from (k25_mkF _ _ (⟨(⟨#[108, 105]⟩ : ByteArray), (⟨#[]⟩ : ByteArray), (⟨#[]⟩ : ByteArray), ([] : List (S69)), ([] : List (S25))⟩ : S25) (Nat.le_refl _) (Kd.F_nil _ _ _) (Nat.le_refl _) (Kd.F_nil _ _ _))) (Reps.c5 (show Kd.FK k25 _ _ (⟨(⟨#[117, 108]⟩ : ByteArray), (⟨#[]⟩ : ByteArray), (⟨#[]⟩ : ByteArray), ([] : List (S69)), y232⟩ : S25) [.string (⟨#[117, 108]⟩ : ByteArray), .string ⟨#[]⟩, .string ⟨#[]⟩, .slice none 0 0, .slice Ao16 y232.length co16] from (k25_mkF _ _ (⟨(⟨#[117, 108]⟩ : ByteArray), (⟨#[]⟩ : ByteArray), (⟨#[]⟩ : ByteArray), ([] : List (S69)), y232⟩ : S25) (Nat.le_refl _) (Kd.F_nil _ _ _) (Kd.N_reads' (Kd.N_mono (ok' := (fun _ => True)) (HO234.out) (fun k_ hk => trivial))).2.1 (Kd.N_F (Kd.N_mono (ok' := (fun _ => True)) (HO234.out) (fun k_ hk => trivial))))) (Reps.none _ _)))); intro v236 w17 ho18 hb hg_ hnew_; clear hg_ hnew_; (first | rw [← Ny235.out] at ho18 | (simp only [Int.reduceToNat] at ho18; rw [← Ny235.out] at ho18)); have n0_ := Aside0.mk (Kd.N_lower ho18 (below_size (by with_reducible repeat first | exact HB.out | apply zA | apply zN | apply zD))); have n1_ := Aside0.mk (below_step (by with_reducible repeat first | exact HB.out | apply zA | apply zN | apply zD) hb); clear HB; clear HO234; have HO237 := n0_; have HB := n1_; clear n0_ n1_; clear hb ho18; obtain ⟨Ao19, co19, eo19⟩ := Kd.N_slice HO237.out; subst eo19) | ((with_reducible refine gate_dst (N := 1) rfl ?_); (try (refine gate_guard (by rfl) ?_; dsimp only)); refine box_event ?hg (N := 1) ?hd (cs := #[.string ⟨#[]⟩, .string ⟨#[]⟩, .string ⟨#[]⟩, .slice none 0 0, .slice none 0 0]) (t := 25) ?hr ?_; (case hd => rfl); (case hg => rfl); (case hr => first | (go_simp; done) | (go_simp; rfl)); intro gb238 hg w20 hbox hb; have n0_ := Aside0.mk (Kd.N_below (Kd.N_elderB (by (with_reducible repeat (first | apply Kd.N_alloc | apply Kd.N_drewN | apply Kd.N_drew)); exact HO237.out) gb238 (Nat.le_of_eq hg.symm)) hb); have n1_ := Aside0.mk (below_step (by with_reducible repeat first | exact HB.out | apply zA | apply zN | apply zD) hb); have n2_ := Aside0.mk (hbox); have n3_ := Aside0.mk ((by rw [hg]; exact (below_size (by with_reducible repeat first | exact HB.out | apply zA | apply zN | apply zD)) : w.heap.size ≤ gb238)); have n4_ := n3_; clear HO237; clear HB; have HO237 := n0_; have HB := n1_; have BK238 := n2_; have GW238 := n3_; have GE238 := n4_; clear n0_ n1_ n2_ n3_ n4_; clear hb hbox hg; have hcz21_0 : w20.cell? ⟨gb238, 0, none⟩ = some (.string ⟨#[]⟩) := (zC BK238.out 0).trans rfl; have hcz21_1 : w20.cell? ⟨gb238, 1, none⟩ = some (.string ⟨#[]⟩) := (zC BK238.out 1).trans rfl; have hcz21_2 : w20.cell? ⟨gb238, 2, none⟩ = some (.string ⟨#[]⟩) := (zC BK238.out 2).trans rfl; have hcz21_3 : w20.cell? ⟨gb238, 3, none⟩ = some (.slice none 0 0) := (zC BK238.out 3).trans rfl; have hcz21_4 : w20.cell? ⟨gb238, 4, none⟩ = some (.slice none 0 0) := (zC BK238.out 4).trans rfl; have hfz21_0 := zR BK238.out 0; have hfz21_1 := zR BK238.out 1; have hfz21_2 := zR BK238.out 2; have hfz21_3 := zR BK238.out 3; have hfz21_4 := zR BK238.out 4) | ((with_reducible refine gate_callee (f := 9) rfl ?_); refine goesL_ (some 14) rfl rfl Try.func9 (by kernel_rfl) rfl #[.agg #[.string (⟨#[112]⟩ : ByteArray), .string ⟨#[]⟩, .string ⟨#[]⟩, .slice none 0 0, .slice Ao19 y235.length co19]] rfl (by (try simp only [List.map_toArray, List.map_cons, List.map_nil]); first | done | rfl | (simp only [List.length_drop, List.length_take]; rfl)) ?_; (refine (flat_Rows.calls k (⟨#[112]⟩ : ByteArray) (⟨#[]⟩ : ByteArray) (⟨#[]⟩ : ByteArray) _ _ ([] : List (S69)) _ _ y235 t239 t242 _ ?side1 ?side2 ?side3 ?side4 A1.out).mono ?_); (case side1 => exact Kd.C_nil _ _); (case side2 => exact Nat.le_refl _); (case side3 => refine (Kd.N_reads' (e := 25) (base := w.heap.size) (ok := fun k_ => (True ∧ k_ ≠ gb238)) (n := y235.length) (c := co19) ?_).2.2; exact (by (with_reducible repeat (first | apply Kd.N_alloc | apply Kd.N_drewN | apply Kd.N_drew)); exact (Kd.N_mono (Kd.N_far (p := ⟨gb238, 4, none⟩) (Kd.N_far (p := ⟨gb238, 3, none⟩) (Kd.N_far (p := ⟨gb238, 2, none⟩) (Kd.N_far (p := ⟨gb238, 1, none⟩) (Kd.N_far (p := ⟨gb238, 0, none⟩) (Kd.N_mono HO237.out (fun k_ hk => (⟨hk, hk.2⟩ : _ ∧ k_ ≠ gb238))) (fun _ hk => hk.2) (.string (⟨#[112]⟩ : ByteArray))) (fun _ hk => hk.2) (.string ⟨#[]⟩)) (fun _ hk => hk.2) (.string ⟨#[]⟩)) (fun _ hk => hk.2) (.slice none 0 0)) (fun _ hk => hk.2) (.slice Ao19 y235.length co19)) (fun _ h_ => h_.1)))); (case side4 => exact (Kd.N_reads' HO237.out).2.1); rintro e w22 ⟨v240, rfl, ho0, hb⟩; refine ⟨_, rfl, ?_⟩; have n0_ := Aside0.mk (Kd.N_elder' (by (with_reducible repeat (first | apply Kd.N_alloc | apply Kd.N_drewN | apply Kd.N_drew)); exact (Kd.N_mono (Kd.N_far (p := ⟨gb238, 4, none⟩) (Kd.N_far (p := ⟨gb238, 3, none⟩) (Kd.N_far (p := ⟨gb238, 2, none⟩) (Kd.N_far (p := ⟨gb238, 1, none⟩) (Kd.N_far (p := ⟨gb238, 0, none⟩) (Kd.N_mono HO237.out (fun k_ hk => (⟨hk, hk.2⟩ : _ ∧ k_ ≠ gb238))) (fun _ hk => hk.2) (.string (⟨#[112]⟩ : ByteArray))) (fun _ hk => hk.2) (.string ⟨#[]⟩)) (fun _ hk => hk.2) (.string ⟨#[]⟩)) (fun _ hk => hk.2) (.slice none 0 0)) (fun _ hk => hk.2) (.slice Ao19 y235.length co19)) (fun _ h_ => h_.1))) (Kd.N_base ho0) hb); have n1_ := Aside0.mk (Kd.N_lower (Kd.N_mono (ok' := fun k_ => some k_ ≠ (.slice Ao19 y235.length co19 : Value).ownBlock ∧ k_ ≠ gb238) ho0 (fun k_ hk_ => ⟨(Kd.fresh' (Kd.N_lt (by (with_reducible repeat (first | apply Kd.N_alloc | apply Kd.N_drewN | apply Kd.N_drew)); exact (Kd.N_mono (Kd.N_far (p := ⟨gb238, 4, none⟩) (Kd.N_far (p := ⟨gb238, 3, none⟩) (Kd.N_far (p := ⟨gb238, 2, none⟩) (Kd.N_far (p := ⟨gb238, 1, none⟩) (Kd.N_far (p := ⟨gb238, 0, none⟩) (Kd.N_mono HO237.out (fun k_ hk => (⟨hk, hk.2⟩ : _ ∧ k_ ≠ gb238))) (fun _ hk => hk.2) (.string (⟨#[112]⟩ : ByteArray))) (fun _ hk => hk.2) (.string ⟨#[]⟩)) (fun _ hk => hk.2) (.string ⟨#[]⟩)) (fun _ hk => hk.2) (.slice none 0 0)) (fun _ hk => hk.2) (.slice Ao19 y235.length co19)) (fun _ h_ => h_.1)))) k_ hk_), (Kd.freshB (g := gb238) (o := .cells #[.string (⟨#[112]⟩ : ByteArray), .string ⟨#[]⟩, .string ⟨#[]⟩, .slice none 0 0, .slice Ao19 y235.length co19] 25 (0, 0)) (by (with_reducible repeat first | apply zM | apply zE | apply zF); refine zP (cs := #[.string (⟨#[112]⟩ : ByteArray), .string ⟨#[]⟩, .string ⟨#[]⟩, .slice none 0 0, .slice none 0 0]) ?_ 4 _ rfl; (with_reducible repeat first | apply zM | apply zE | apply zF); refine zP (cs := #[.string (⟨#[112]⟩ : ByteArray), .string ⟨#[]⟩, .string ⟨#[]⟩, .slice none 0 0, .slice none 0 0]) ?_ 3 _ rfl; (with_reducible repeat first | apply zM | apply zE | apply zF); refine zP (cs := #[.string (⟨#[112]⟩ : ByteArray), .string ⟨#[]⟩, .string ⟨#[]⟩, .slice none 0 0, .slice none 0 0]) ?_ 2 _ rfl; (with_reducible repeat first | apply zM | apply zE | apply zF); refine zP (cs := #[.string (⟨#[112]⟩ : ByteArray), .string ⟨#[]⟩, .string ⟨#[]⟩, .slice none 0 0, .slice none 0 0]) ?_ 1 _ rfl; (with_reducible repeat first | apply zM | apply zE | apply zF); refine zP (cs := #[.string ⟨#[]⟩, .string ⟨#[]⟩, .string ⟨#[]⟩, .slice none 0 0, .slice none 0 0]) ?_ 0 _ rfl; (with_reducible repeat first | apply zM | apply zE | apply zF); exact BK238.out) k_ hk_)⟩)) (below_size (by with_reducible repeat first | exact HB.out | apply zA | apply zN | apply zD | refine zS ?_ GE238.out))); have n2_ := Aside0.mk (blk_below (g := gb238) (o := .cells #[.string (⟨#[112]⟩ : ByteArray), .string ⟨#[]⟩, .string ⟨#[]⟩, .slice none 0 0, .slice Ao19 y235.length co19] 25 (0, 0)) (by (with_reducible repeat first | apply zM | apply zE | apply zF); refine zP (cs := #[.string (⟨#[112]⟩ : ByteArray), .string ⟨#[]⟩, .string ⟨#[]⟩, .slice none 0 0, .slice none 0 0]) ?_ 4 _ rfl; (with_reducible repeat first | apply zM | apply zE | apply zF); refine zP (cs := #[.string (⟨#[112]⟩ : ByteArray), .string ⟨#[]⟩, .string ⟨#[]⟩, .slice none 0 0, .slice none 0 0]) ?_ 3 _ rfl; (with_reducible repeat first | apply zM | apply zE | apply zF); refine zP (cs := #[.string (⟨#[112]⟩ : ByteArray), .string ⟨#[]⟩, .string ⟨#[]⟩, .slice none 0 0, .slice none 0 0]) ?_ 2 _ rfl; (with_reducible repeat first | apply zM | apply zE | apply zF); refine zP (cs := #[.string (⟨#[112]⟩ : ByteArray), .string ⟨#[]⟩, .string ⟨#[]⟩, .slice none 0 0, .slice none 0 0]) ?_ 1 _ rfl; (with_reducible repeat first | apply zM | apply zE | apply zF); refine zP (cs := #[.string ⟨#[]⟩, .string ⟨#[]⟩, .string ⟨#[]⟩, .slice none 0 0, .slice none 0 0]) ?_ 0 _ rfl; (with_reducible repeat first | apply zM | apply zE | apply zF); exact BK238.out) hb); have n3_ := Aside0.mk (below_step (by with_reducible repeat first | exact HB.out | apply zA | apply zN | apply zD | refine zS ?_ GE238.out) hb); clear HO237; clear BK238; clear HB; have HO237 := n0_; have HO241 := n1_; have BK238 := n2_; have HB := n3_; clear n0_ n1_ n2_ n3_; (try clear hb); (try clear hb2); (try clear hk); (try clear hi); (try clear ho0); obtain ⟨Ao23, co23, eo23⟩ := Kd.N_slice HO241.out; subst eo23) | ((with_reducible refine gate_callee (f := 12) rfl ?_); refine goesL_ (some 19) rfl rfl Try.func12 (by kernel_rfl) rfl #[.slice Ao23 t239.length co23] rfl (by (try simp only [List.map_toArray, List.map_cons, List.map_nil]); first | done | rfl | (simp only [List.length_drop, List.length_take]; rfl)) ?_; (with_reducible refine (flat_Tree.calls k (fun k_ => (some k_ ≠ (.slice Ao19 y235.length co19 : Value).ownBlock ∧ k_ ≠ gb238)) _ _ t239 t243 t244 t245 t246 t249 t252 _ ?side1 A2.out).mono ?_); (case side1 => exact Kd.N_V (HO241.out)); rintro e w24 ⟨v247, v250, rfl, ho0, ho1, hb⟩; refine ⟨_, rfl, ?_⟩; have n0_ := Aside0.mk (Kd.N_mono (Kd.N_told (Kd.N_told (Kd.N_old (by (with_reducible repeat (first | apply Kd.N_alloc | apply Kd.N_drewN | apply Kd.N_drew)); exact HO237.out) hb) (Kd.R_base ho0)) (Kd.R_base ho1)) (fun _ h_ => h_.1)); have n1_ := Aside0.mk (Kd.N_mono (Kd.N_told (Kd.N_told (Kd.N_old (by (with_reducible repeat (first | apply Kd.N_alloc | apply Kd.N_drewN | apply Kd.N_drew)); exact HO241.out) hb) (Kd.R_base ho0)) (Kd.R_base ho1)) (fun _ h_ => h_.1)); have n2_ := Aside0.mk (Kd.R_lower (Kd.R_mono (ok' := fun k_ => True) ho0 (fun _ hk_ => trivial)) (below_size (by with_reducible repeat first | exact HB.out | apply zA | apply zN | apply zD | refine zS ?_ GE238.out))); have n3_ := Aside0.mk (Kd.N_lower (Kd.N_mono (ok' := fun k_ => some k_ ≠ (v247 : Value).ownBlock ∧ some k_ ≠ (.slice Ao19 y235.length co19 : Value).ownBlock ∧ some k_ ≠ (.slice Ao23 t239.length co23 : Value).ownBlock ∧ k_ ≠ gb238) (Kd.R_N (Kd.R_bound ho1)) (fun k_ hk_ => ⟨hk_.1.2, (Kd.fresh' (Kd.N_lt (by (with_reducible repeat (first | apply Kd.N_alloc | apply Kd.N_drewN | apply Kd.N_drew)); exact HO237.out)) k_ hk_.2.1), (Kd.fresh' (Kd.N_lt (by (with_reducible repeat (first | apply Kd.N_alloc | apply Kd.N_drewN | apply Kd.N_drew)); exact HO241.out)) k_ hk_.2.1), (Kd.freshB (g := gb238) (o := .cells #[.string (⟨#[112]⟩ : ByteArray), .string ⟨#[]⟩, .string ⟨#[]⟩, .slice none 0 0, .slice Ao19 y235.length co19] 25 (0, 0)) (by (with_reducible repeat first | apply zM | apply zE | apply zF); exact BK238.out) k_ hk_.2.1)⟩)) (below_size (by with_reducible repeat first | exact HB.out | apply zA | apply zN | apply zD | refine zS ?_ GE238.out))); have n4_ := Aside0.mk (blk_below (g := gb238) (o := .cells #[.string (⟨#[112]⟩ : ByteArray), .string ⟨#[]⟩, .string ⟨#[]⟩, .slice none 0 0, .slice Ao19 y235.length co19] 25 (0, 0)) (by (with_reducible repeat first | apply zM | apply zE | apply zF); exact BK238.out) hb); have n5_ := Aside0.mk (below_step (by with_reducible repeat first | exact HB.out | apply zA | apply zN | apply zD | refine zS ?_ GE238.out) hb); clear HO237; clear HO241; clear BK238; clear HB; have HO237 := n0_; have HO241 := n1_; have HO248 := n2_; have HO251 := n3_; have BK238 := n4_; have HB := n5_; clear n0_ n1_ n2_ n3_ n4_ n5_; (try clear hb); (try clear hb2); (try clear hk); (try clear hi); (try clear ho0); (try clear ho1)) | ((with_reducible refine gate_dst (N := 4) rfl ?_); (try (refine gate_guard (by rfl) ?_; dsimp only)); refine box_event ?hg (N := 4) ?hd (cs := #[.string ⟨#[]⟩, .string ⟨#[]⟩, .string ⟨#[]⟩, .slice none 0 0, .slice none 0 0]) (t := 25) ?hr ?_; (case hd => rfl); (case hg => rfl); (case hr => first | (go_simp; done) | (go_simp; rfl)); intro gb253 hg w25 hbox hb; have n0_ := Aside0.mk (Kd.N_below (Kd.N_elderB (by (with_reducible repeat (first | apply Kd.N_alloc | apply Kd.N_drewN | apply Kd.N_drew)); exact HO237.out) gb253 (Nat.le_of_eq hg.symm)) hb); have n1_ := Aside0.mk (Kd.N_below (Kd.N_elderB (by (with_reducible repeat (first | apply Kd.N_alloc | apply Kd.N_drewN | apply Kd.N_drew)); exact HO241.out) gb253 (Nat.le_of_eq hg.symm)) hb); have n2_ := Aside0.mk (Kd.R_below (by (with_reducible repeat (first | apply Kd.R_alloc | apply Kd.R_drewN | apply Kd.R_drew)); exact HO248.out) hb); have n3_ := Aside0.mk (Kd.N_below (Kd.N_elderB (by (with_reducible repeat (first | apply Kd.N_alloc | apply Kd.N_drewN | apply Kd.N_drew)); exact HO251.out) gb253 (Nat.le_of_eq hg.symm)) hb); have n4_ := Aside0.mk (blk_below (g := gb238) (o := .cells #[.string (⟨#[112]⟩ : ByteArray), .string ⟨#[]⟩, .string ⟨#[]⟩, .slice none 0 0, .slice Ao19 y235.length co19] 25 (0, 0)) (by (with_reducible repeat first | apply zM | apply zE | apply zF); exact BK238.out) hb); have n5_ := Aside0.mk (below_step (by with_reducible repeat first | exact HB.out | apply zA | apply zN | apply zD | refine zS ?_ GE238.out) hb); have n6_ := Aside0.mk (hbox); have n7_ := Aside0.mk ((by rw [hg]; exact (below_size (by with_reducible repeat first | exact HB.out | apply zA | apply zN | apply zD | refine zS ?_ GE238.out)) : w.heap.size ≤ gb253)); have n8_ := n7_; have n9_ := Aside0.mk ((by rw [hg]; exact Nat.ne_of_lt (blk_lt (g := gb238) (o := .cells #[.string (⟨#[112]⟩ : ByteArray), .string ⟨#[]⟩, .string ⟨#[]⟩, .slice none 0 0, .slice Ao19 y235.length co19] 25 (0, 0)) (by (with_reducible repeat first | apply zM | apply zE | apply zF); exact BK238.out)) : gb238 ≠ gb253)); have n10_ := Aside0.mk ((by rw [hg]; exact Nat.ne_of_gt (blk_lt (g := gb238) (o := .cells #[.string (⟨#[112]⟩ : ByteArray), .string ⟨#[]⟩, .string ⟨#[]⟩, .slice none 0 0, .slice Ao19 y235.length co19] 25 (0, 0)) (by (with_reducible repeat first | apply zM | apply zE | apply zF); exact BK238.out)) : gb253 ≠ gb238)); clear HO237; clear HO241; clear HO248; clear HO251; clear BK238; clear HB; have HO237 := n0_; have HO241 := n1_; have HO248 := n2_; have HO251 := n3_; have BK238 := n4_; have HB := n5_; have BK253 := n6_; have GW253 := n7_; have GE253 := n8_; have NB238_253 := n9_; have NB253_238 := n10_; clear n0_ n1_ n2_ n3_ n4_ n5_ n6_ n7_ n8_ n9_ n10_; clear hb hbox hg; have hnb26 := NB253_238.out; have hnc26 := NB238_253.out; have hcz27_0 : w25.cell? ⟨gb253, 0, none⟩ = some (.string ⟨#[]⟩) := (zC BK253.out 0).trans rfl; have hcz27_1 : w25.cell? ⟨gb253, 1, none⟩ = some (.string ⟨#[]⟩) := (zC BK253.out 1).trans rfl; have hcz27_2 : w25.cell? ⟨gb253, 2, none⟩ = some (.string ⟨#[]⟩) := (zC BK253.out 2).trans rfl; have hcz27_3 : w25.cell? ⟨gb253, 3, none⟩ = some (.slice none 0 0) := (zC BK253.out 3).trans rfl; have hcz27_4 : w25.cell? ⟨gb253, 4, none⟩ = some (.slice none 0 0) := (zC BK253.out 4).trans rfl; have hfz27_0 := zR BK253.out 0; have hfz27_1 := zR BK253.out 1; have hfz27_2 := zR BK253.out 2; have hfz27_3 := zR BK253.out 3; have hfz27_4 := zR BK253.out 4; obtain ⟨Ao28, co28, eo28⟩ := Kd.R_slice HO248.out; subst eo28; obtain ⟨Ao29, co29, eo29⟩ := Kd.N_slice HO251.out; subst eo29) | ((with_reducible refine gate_store (t := 25) (p := 4) rfl ?_); refine store_event (t := 25) (p := 4) (v := ?vo_w30) (w1 := (((((w25.setCell ⟨gb253, 0, none⟩ (.string t243)).setCell ⟨gb253, 1, none⟩ (.string t244)).setCell ⟨gb253, 2, none⟩ (.string t245)).setCell ⟨gb253, 3, none⟩ (.slice Ao28 t246.length co28)).setCell ⟨gb253, 4, none⟩ (.slice Ao29 t249.length co29))) ?hg ?ho ?hn ?hr ?_; (case ho => rfl); (case hg => rfl); (case hn => rfl); (case hr => first | (go_simp; done) | (go_simp; rfl)); intro w30 hw; have n0_ : Aside0 (Kd.N k25 25 w30 w.heap.size (fun k_ => some k_ ≠ (.slice Ao23 t239.length co23 : Value).ownBlock ∧ some k_ ≠ (.slice Ao28 t246.length co28 : Value).ownBlock ∧ some k_ ≠ (.slice Ao29 t249.length co29 : Value).ownBlock ∧ k_ ≠ gb238 ∧ k_ ≠ gb253) (.slice Ao19 y235.length co19) y235) := ⟨(by rw [hw]; exact (by (with_reducible repeat (first | apply Kd.N_alloc | apply Kd.N_drewN | apply Kd.N_drew)); exact Kd.N_mono (Kd.N_far (p := ⟨gb253, 4, none⟩) (Kd.N_far (p := ⟨gb253, 3, none⟩) (Kd.N_far (p := ⟨gb253, 2, none⟩) (Kd.N_far (p := ⟨gb253, 1, none⟩) (Kd.N_far (p := ⟨gb253, 0, none⟩) (Kd.N_mono HO237.out (fun k_ hk => (⟨hk, hk.2⟩ : _ ∧ k_ ≠ gb253))) (fun _ hk => hk.2) (.string t243)) (fun _ hk => hk.2) (.string t244)) (fun _ hk => hk.2) (.string t245)) (fun _ hk => hk.2) (.slice Ao28 t246.length co28)) (fun _ hk => hk.2) (.slice Ao29 t249.length co29)) (fun _ hk => ⟨hk.1.1.1.1.2, ⟨hk.1.1.1.2, ⟨hk.1.1.2, ⟨hk.1.1.1.1.1.2, hk.1.2⟩⟩⟩⟩)))⟩; have n1_ : Aside0 (Kd.N k53 53 w30 w.heap.size (fun k_ => some k_ ≠ (.slice Ao19 y235.length co19 : Value).ownBlock ∧ some k_ ≠ (.slice Ao28 t246.length co28 : Value).ownBlock ∧ some k_ ≠ (.slice Ao29 t249.length co29 : Value).ownBlock ∧ k_ ≠ gb238 ∧ k_ ≠ gb253) (.slice Ao23 t239.length co23) t239) := ⟨(by rw [hw]; exact (by (with_reducible repeat (first | apply Kd.N_alloc | apply Kd.N_drewN | apply Kd.N_drew)); exact Kd.N_mono (Kd.N_far (p := ⟨gb253, 4, none⟩) (Kd.N_far (p := ⟨gb253, 3, none⟩) (Kd.N_far (p := ⟨gb253, 2, none⟩) (Kd.N_far (p := ⟨gb253, 1, none⟩) (Kd.N_far (p := ⟨gb253, 0, none⟩) (Kd.N_mono HO241.out (fun k_ hk => (⟨hk, hk.2⟩ : _ ∧ k_ ≠ gb253))) (fun _ hk => hk.2) (.string t243)) (fun _ hk => hk.2) (.string t244)) (fun _ hk => hk.2) (.string t245)) (fun _ hk => hk.2) (.slice Ao28 t246.length co28)) (fun _ hk => hk.2) (.slice Ao29 t249.length co29)) (fun _ hk => ⟨hk.1.1.1.1.1, ⟨hk.1.1.1.2, ⟨hk.1.1.2, ⟨hk.1.1.1.1.2, hk.1.2⟩⟩⟩⟩)))⟩; have n2_ : Aside0 (Kd.R k69 69 w30 w.heap.size (fun _ => True) (.slice Ao28 t246.length co28) t246) := ⟨(by rw [hw]; exact (by (with_reducible repeat (first | apply Kd.R_alloc | apply Kd.R_drewN | apply Kd.R_drew)); exact Kd.R_mono (Kd.R_far (p := ⟨gb253, 4, none⟩) (Kd.R_far (p := ⟨gb253, 3, none⟩) (Kd.R_far (p := ⟨gb253, 2, none⟩) (Kd.R_far (p := ⟨gb253, 1, none⟩) (Kd.R_far (p := ⟨gb253, 0, none⟩) (Kd.R_types HO248.out BK253.out (by decide)) (fun _ hk => hk.2) (.string t243)) (fun _ hk => hk.2) (.string t244)) (fun _ hk => hk.2) (.string t245)) (fun _ hk => hk.2) (.slice Ao28 t246.length co28)) (fun _ hk => hk.2) (.slice Ao29 t249.length co29)) (fun _ hk => trivial)))⟩; have n3_ : Aside0 (Kd.N k25 25 w30 w.heap.size (fun k_ => some k_ ≠ (.slice Ao19 y235.length co19 : Value).ownBlock ∧ some k_ ≠ (.slice Ao23 t239.length co23 : Value).ownBlock ∧ some k_ ≠ (.slice Ao28 t246.length co28 : Value).ownBlock ∧ k_ ≠ gb238 ∧ k_ ≠ gb253) (.slice Ao29 t249.length co29) t249) := ⟨(by rw [hw]; exact (by (with_reducible repeat (first | apply Kd.N_alloc | apply Kd.N_drewN | apply Kd.N_drew)); exact Kd.N_mono (Kd.N_far (p := ⟨gb253, 4, none⟩) (Kd.N_far (p := ⟨gb253, 3, none⟩) (Kd.N_far (p := ⟨gb253, 2, none⟩) (Kd.N_far (p := ⟨gb253, 1, none⟩) (Kd.N_far (p := ⟨gb253, 0, none⟩) (Kd.N_mono HO251.out (fun k_ hk => (⟨hk, hk.2⟩ : _ ∧ k_ ≠ gb253))) (fun _ hk => hk.2) (.string t243)) (fun _ hk => hk.2) (.string t244)) (fun _ hk => hk.2) (.string t245)) (fun _ hk => hk.2) (.slice Ao28 t246.length co28)) (fun _ hk => hk.2) (.slice Ao29 t249.length co29)) (fun _ hk => ⟨hk.1.1.2.1, ⟨hk.1.1.2.2.1, ⟨hk.1.1.1, ⟨hk.1.1.2.2.2, hk.1.2⟩⟩⟩⟩)))⟩; have n4_ : Aside0 (w30.heap[gb238]? = some (.cells #[.string (⟨#[112]⟩ : ByteArray), .string ⟨#[]⟩, .string ⟨#[]⟩, .slice none 0 0, .slice Ao19 y235.length co19] 25 (0, 0))) := ⟨(by rw [hw]; exact (by (with_reducible repeat first | apply zM | apply zE | apply zF); refine zG ?_ NB238_253.out _; (with_reducible repeat first | apply zM | apply zE | apply zF); refine zG ?_ NB238_253.out _; (with_reducible repeat first | apply zM | apply zE | apply zF); refine zG ?_ NB238_253.out _; (with_reducible repeat first | apply zM | apply zE | apply zF); refine zG ?_ NB238_253.out _; (with_reducible repeat first | apply zM | apply zE | apply zF); refine zG ?_ NB238_253.out _; (with_reducible repeat first | apply zM | apply zE | apply zF); exact BK238.out))⟩; have n5_ : Aside0 (w30.heap[gb253]? = some (.cells #[.string t243, .string t244, .string t245, .slice Ao28 t246.length co28, .slice Ao29 t249.length co29] 25 (0, 0))) := ⟨(by rw [hw]; exact (by (with_reducible repeat first | apply zM | apply zE | apply zF); refine zP (cs := #[.string t243, .string t244, .string t245, .slice Ao28 t246.length co28, .slice none 0 0]) ?_ 4 _ rfl; (with_reducible repeat first | apply zM | apply zE | apply zF); refine zP (cs := #[.string t243, .string t244, .string t245, .slice none 0 0, .slice none 0 0]) ?_ 3 _ rfl; (with_reducible repeat first | apply zM | apply zE | apply zF); refine zP (cs := #[.string t243, .string t244, .string ⟨#[]⟩, .slice none 0 0, .slice none 0 0]) ?_ 2 _ rfl; (with_reducible repeat first | apply zM | apply zE | apply zF); refine zP (cs := #[.string t243, .string ⟨#[]⟩, .string ⟨#[]⟩, .slice none 0 0, .slice none 0 0]) ?_ 1 _ rfl; (with_reducible repeat first | apply zM | apply zE | apply zF); refine zP (cs := #[.string ⟨#[]⟩, .string ⟨#[]⟩, .string ⟨#[]⟩, .slice none 0 0, .slice none 0 0]) ?_ 0 _ rfl; (with_reducible repeat first | apply zM | apply zE | apply zF); exact BK253.out))⟩; have n6_ : Aside0 (Below w.heap.size w w30) := ⟨(by rw [hw]; exact (by with_reducible repeat first | exact HB.out | apply zA | apply zN | apply zD | refine zS ?_ GE238.out | refine zS ?_ GE253.out))⟩; clear hw; clear HO237; clear HO241; clear HO248; clear HO251; clear BK238; clear BK253; clear HB; have HO237 := n0_; have HO241 := n1_; have HO248 := n2_; have HO251 := n3_; have BK238 := n4_; have BK253 := n5_; have HB := n6_; clear n0_ n1_ n2_ n3_ n4_ n5_ n6_; have p254 : 0 ≤ (3 : Int) := (by omega); have q254 : 3 < (t239.length : Int) := of_decide_eq_true (by assumption); obtain ⟨ad254, A254_5, c254_5, e254, hx254_0, hx254_1, hx254_2, hx254_3, hx254_4, hx254_5, hl254_5, hi254_5⟩ := at_T53 (Kd.N_reads' HO241.out).2.2 3 p254 q254; cases e254; obtain ⟨ce254, hce254, hMe254, hcc254⟩ := Kd.N_get HO241.out z53 3 p254 (by first | exact q254 | exact of_decide_eq_true (by assumption) | (have e_ := (Kd.N_reads' HO241.out).1; omega)); obtain ⟨ua254_5, uc254_5, rfl, ul254_5, ge254_5⟩ := k53_openF hMe254; have hv254_5 := hcc254 5 _ rfl; rw [add_field _ _ 5 (by omega)] at hv254_5; replace hv254_5 := Option.some.inj (hv254_5.symm.trans hx254_5); injection hv254_5 with hva_ hvn_ hvc_; rw [hva_] at ge254_5; rw [hvc_] at ul254_5; have HL254_5 := Aside0.mk (show Kd.V k69 69 _ w.heap.size _ _ ((rd_T53 t239 3).f5) from Kd.V_mk ul254_5 ge254_5); clear hva_ hvn_ hvc_ ge254_5 ul254_5; clear hcc254 hce254; (try simp only [show (3 : Int).toNat = 3 from rfl, Nat.reduceMul, Nat.reduceEqDiff, Go.Addr.add, ↓reduceIte] at hx254_0); (try simp only [show (3 : Int).toNat = 3 from rfl, Nat.reduceMul, Nat.reduceEqDiff, Go.Addr.add, ↓reduceIte] at hx254_1); (try simp only [show (3 : Int).toNat = 3 from rfl, Nat.reduceMul, Nat.reduceEqDiff, Go.Addr.add, ↓reduceIte] at hx254_2); (try simp only [show (3 : Int).toNat = 3 from rfl, Nat.reduceMul, Nat.reduceEqDiff, Go.Addr.add, ↓reduceIte] at hx254_3); (try simp only [show (3 : Int).toNat = 3 from rfl, Nat.reduceMul, Nat.reduceEqDiff, Go.Addr.add, ↓reduceIte] at hx254_4); (try simp only [show (3 : Int).toNat = 3 from rfl, Nat.reduceMul, Nat.reduceEqDiff, Go.Addr.add, ↓reduceIte] at hx254_5); have qi254 : (3 < t239.length) = True := eq_true (by omega); (try rw [show ((3 : Int)).toNat = 3 from rfl] at hx254_0); (try rw [show 3 * 6 = 18 from rfl] at hx254_0); (try rw [show ((3 : Int)).toNat = 3 from rfl] at hx254_1); (try rw [show 3 * 6 = 18 from rfl] at hx254_1); (try rw [show ((3 : Int)).toNat = 3 from rfl] at hx254_2); (try rw [show 3 * 6 = 18 from rfl] at hx254_2); (try rw [show ((3 : Int)).toNat = 3 from rfl] at hx254_3); (try rw [show 3 * 6 = 18 from rfl] at hx254_3); (try rw [show ((3 : Int)).toNat = 3 from rfl] at hx254_4); (try rw [show 3 * 6 = 18 from rfl] at hx254_4); (try rw [show ((3 : Int)).toNat = 3 from rfl] at hx254_5); (try rw [show 3 * 6 = 18 from rfl] at hx254_5); have HR254_5 := Aside0.mk hi254_5; have HC254_5 := Aside0.mk hl254_5; clear hi254_5 hl254_5; replace p254 := eq_true p254; replace q254 := eq_true q254; have p255 : 0 ≤ (2 : Int) := (by omega); have q255 : 2 < (t239.length : Int) := of_decide_eq_true (by assumption); obtain ⟨ad255, A255_5, c255_5, e255, hx255_0, hx255_1, hx255_2, hx255_3, hx255_4, hx255_5, hl255_5, hi255_5⟩ := at_T53 (Kd.N_reads' HO241.out).2.2 2 p255 q255; obtain rfl : ad254 = ad255 := (by injection e255); obtain ⟨ce255, hce255, hMe255, hcc255⟩ := Kd.N_get HO241.out z53 2 p255 (by first | exact q255 | exact of_decide_eq_true (by assumption) | (have e_ := (Kd.N_reads' HO241.out).1; omega)); obtain ⟨ua255_5, uc255_5, rfl, ul255_5, ge255_5⟩ := k53_openF hMe255; have hv255_5 := hcc255 5 _ rfl; rw [add_field _ _ 5 (by omega)] at hv255_5; replace hv255_5 := Option.some.inj (hv255_5.symm.trans hx255_5); injection hv255_5 with hva_ hvn_ hvc_; rw [hva_] at ge255_5; rw [hvc_] at ul255_5; have HL255_5 := Aside0.mk (show Kd.V k69 69 _ w.heap.size _ _ ((rd_T53 t239 2).f5) from Kd.V_mk ul255_5 ge255_5); clear hva_ hvn_ hvc_ ge255_5 ul255_5; clear hcc255 hce255; (try simp only [show (2 : Int).toNat = 2 from rfl, Nat.reduceMul, Nat.reduceEqDiff, Go.Addr.add, ↓reduceIte] at hx255_0); (try simp only [show (2 : Int).toNat = 2 from rfl, Nat.reduceMul, Nat.reduceEqDiff, Go.Addr.add, ↓reduceIte] at hx255_1); (try simp only [show (2 : Int).toNat = 2 from rfl, Nat.reduceMul, Nat.reduceEqDiff, Go.Addr.add, ↓reduceIte] at hx255_2); (try simp only [show (2 : Int).toNat = 2 from rfl, Nat.reduceMul, Nat.reduceEqDiff, Go.Addr.add, ↓reduceIte] at hx255_3); (try simp only [show (2 : Int).toNat = 2 from rfl, Nat.reduceMul, Nat.reduceEqDiff, Go.Addr.add, ↓reduceIte] at hx255_4); (try simp only [show (2 : Int).toNat = 2 from rfl, Nat.reduceMul, Nat.reduceEqDiff, Go.Addr.add, ↓reduceIte] at hx255_5); have qi255 : (2 < t239.length) = True := eq_true (by omega); (try rw [show ((2 : Int)).toNat = 2 from rfl] at hx255_0); (try rw [show 2 * 6 = 12 from rfl] at hx255_0); (try rw [show ((2 : Int)).toNat = 2 from rfl] at hx255_1); (try rw [show 2 * 6 = 12 from rfl] at hx255_1); (try rw [show ((2 : Int)).toNat = 2 from rfl] at hx255_2); (try rw [show 2 * 6 = 12 from rfl] at hx255_2); (try rw [show ((2 : Int)).toNat = 2 from rfl] at hx255_3); (try rw [show 2 * 6 = 12 from rfl] at hx255_3); (try rw [show ((2 : Int)).toNat = 2 from rfl] at hx255_4); (try rw [show 2 * 6 = 12 from rfl] at hx255_4); (try rw [show ((2 : Int)).toNat = 2 from rfl] at hx255_5); (try rw [show 2 * 6 = 12 from rfl] at hx255_5); have HR255_5 := Aside0.mk hi255_5; have HC255_5 := Aside0.mk hl255_5; clear hi255_5 hl255_5; replace p255 := eq_true p255; replace q255 := eq_true q255; have hcz31_0 : w30.cell? ⟨gb253, 0, none⟩ = some (.string t243) := (zC BK253.out 0).trans rfl; have hcz31_1 : w30.cell? ⟨gb253, 1, none⟩ = some (.string t244) := (zC BK253.out 1).trans rfl; have hcz31_2 : w30.cell? ⟨gb253, 2, none⟩ = some (.string t245) := (zC BK253.out 2).trans rfl; have hcz31_3 : w30.cell? ⟨gb253, 3, none⟩ = some (.slice Ao28 t246.length co28) := (zC BK253.out 3).trans rfl; have hcz31_4 : w30.cell? ⟨gb253, 4, none⟩ = some (.slice Ao29 t249.length co29) := (zC BK253.out 4).trans rfl; have hfz31_0 := zR BK253.out 0; have hfz31_1 := zR BK253.out 1; have hfz31_2 := zR BK253.out 2; have hfz31_3 := zR BK253.out 3; have hfz31_4 := zR BK253.out 4; have hcz32_0 : w30.cell? ⟨gb238, 0, none⟩ = some (.string (⟨#[112]⟩ : ByteArray)) := (zC BK238.out 0).trans rfl; have hcz32_1 : w30.cell? ⟨gb238, 1, none⟩ = some (.string ⟨#[]⟩) := (zC BK238.out 1).trans rfl; have hcz32_2 : w30.cell? ⟨gb238, 2, none⟩ = some (.string ⟨#[]⟩) := (zC BK238.out 2).trans rfl; have hcz32_3 : w30.cell? ⟨gb238, 3, none⟩ = some (.slice none 0 0) := (zC BK238.out 3).trans rfl; have hcz32_4 : w30.cell? ⟨gb238, 4, none⟩ = some (.slice Ao19 y235.length co19) := (zC BK238.out 4).trans rfl; have hfz32_0 := zR BK238.out 0; have hfz32_1 := zR BK238.out 1; have hfz32_2 := zR BK238.out 2; have hfz32_3 := zR BK238.out 3; have hfz32_4 := zR BK238.out 4) | (go_at_call 13; (refine (tendrilplain_Nodes.calls k t243 t244 t245 _ _ t246 _ _ t249 (⟨#[112]⟩ : ByteArray) (⟨#[]⟩ : ByteArray) (⟨#[]⟩ : ByteArray) _ _ ([] : List (S69)) _ _ y235 true _ ?side1 ?side2 ?side3 ?side4 ?side5 ?side6 ?side7 ?side8 A10.out).mono ?_); (case side1 => repeat (first | exact (Kd.R_reads' HO248.out).2.2 | (with_reducible refine Kd.C_alloc ?_ _) | (with_reducible refine Kd.C_drewN ?_ _) | (with_reducible refine Kd.C_drew ?_))); (case side2 => exact (Kd.R_reads' HO248.out).2.1); (case side3 => repeat (first | exact (Kd.N_reads' HO251.out).2.2 | (with_reducible refine Kd.C_alloc ?_ _) | (with_reducible refine Kd.C_drewN ?_ _) | (with_reducible refine Kd.C_drew ?_))); (case side4 => exact (Kd.N_reads' HO251.out).2.1); (case side5 => exact Kd.C_nil _ _); (case side6 => exact Nat.le_refl _); (case side7 => repeat (first | exact (Kd.N_reads' HO237.out).2.2 | (with_reducible refine Kd.C_alloc ?_ _) | (with_reducible refine Kd.C_drewN ?_ _) | (with_reducible refine Kd.C_drew ?_))); (case side8 => exact (Kd.N_reads' HO237.out).2.1); rintro e w33 ⟨rfl, hb⟩; have n0_ := Aside0.mk (Kd.N_below (by (with_reducible repeat (first | apply Kd.N_alloc | apply Kd.N_drewN | apply Kd.N_drew)); exact HO237.out) hb); have n1_ := Aside0.mk (Kd.N_below (by (with_reducible repeat (first | apply Kd.N_alloc | apply Kd.N_drewN | apply Kd.N_drew)); exact HO241.out) hb); have n2_ := Aside0.mk (Kd.R_below (by (with_reducible repeat (first | apply Kd.R_alloc | apply Kd.R_drewN | apply Kd.R_drew)); exact HO248.out) hb); have n3_ := Aside0.mk (Kd.N_below (by (with_reducible repeat (first | apply Kd.N_alloc | apply Kd.N_drewN | apply Kd.N_drew)); exact HO251.out) hb); have n4_ := Aside0.mk (Kd.V_below (by (with_reducible repeat (first | apply Kd.V_alloc | apply Kd.V_drewN | apply Kd.V_drew)); exact HL254_5.out) hb); have n5_ := Aside0.mk (Kd.V_below (by (with_reducible repeat (first | apply Kd.V_alloc | apply Kd.V_drewN | apply Kd.V_drew)); exact HL255_5.out) hb); have n6_ := Aside0.mk (blk_below (g := gb238) (o := .cells #[.string (⟨#[112]⟩ : ByteArray), .string ⟨#[]⟩, .string ⟨#[]⟩, .slice none 0 0, .slice Ao19 y235.length co19] 25 (0, 0)) (by (with_reducible repeat first | apply zM | apply zE | apply zF); exact BK238.out) hb); have n7_ := Aside0.mk (blk_below (g := gb253) (o := .cells #[.string t243, .string t244, .string t245, .slice Ao28 t246.length co28, .slice Ao29 t249.length co29] 25 (0, 0)) (by (with_reducible repeat first | apply zM | apply zE | apply zF); exact BK253.out) hb); have n8_ := Aside0.mk (Kd.C_below (by repeat (first | (with_reducible exact HR254_5.out) | (with_reducible refine Kd.C_alloc ?_ _) | (with_reducible refine Kd.C_drewN ?_ _) | (with_reducible refine Kd.C_drew ?_) | exact HR254_5.out)) hb); have n9_ := Aside0.mk (Kd.C_below (by repeat (first | (with_reducible exact HR255_5.out) | (with_reducible refine Kd.C_alloc ?_ _) | (with_reducible refine Kd.C_drewN ?_ _) | (with_reducible refine Kd.C_drew ?_) | exact HR255_5.out)) hb); have n10_ := Aside0.mk (below_step (by with_reducible repeat first | exact HB.out | apply zA | apply zN | apply zD | refine zS ?_ GE238.out | refine zS ?_ GE253.out) hb); clear HO237; clear HO241; clear HO248; clear HO251; clear HL254_5; clear HL255_5; clear BK238; clear BK253; clear HR254_5; clear HR255_5; clear HB; have HO237 := n0_; have HO241 := n1_; have HO248 := n2_; have HO251 := n3_; have HL254_5 := n4_; have HL255_5 := n5_; have BK238 := n6_; have BK253 := n7_; have HR254_5 := n8_; have HR255_5 := n9_; have HB := n10_; clear n0_ n1_ n2_ n3_ n4_ n5_ n6_ n7_ n8_ n9_ n10_; (try clear hb); (try clear hb2); (try clear hk); (try clear hi)) | (go_at_call 17; (with_reducible refine (flat_Spans.calls k _ _ t239 t257 _ ?side1 ?side2 A12.out).mono ?_); (case side1 => repeat (first | exact (Kd.N_reads' HO241.out).2.2 | (with_reducible refine Kd.C_alloc ?_ _) | (with_reducible refine Kd.C_drewN ?_ _) | (with_reducible refine Kd.C_drew ?_))); (case side2 => exact (Kd.N_reads' HO241.out).2.1); rintro e w34 ⟨v258, rfl, ho0, hb⟩; have n0_ := Aside0.mk (Kd.N_elder' (by (with_reducible repeat (first | apply Kd.N_alloc | apply Kd.N_drewN | apply Kd.N_drew)); exact HO237.out) (Kd.R_base ho0) hb); have n1_ := Aside0.mk (Kd.N_elder' (by (with_reducible repeat (first | apply Kd.N_alloc | apply Kd.N_drewN | apply Kd.N_drew)); exact HO241.out) (Kd.R_base ho0) hb); have n2_ := Aside0.mk (Kd.R_below (by (with_reducible repeat (first | apply Kd.R_alloc | apply Kd.R_drewN | apply Kd.R_drew)); exact HO248.out) hb); have n3_ := Aside0.mk (Kd.N_elder' (by (with_reducible repeat (first | apply Kd.N_alloc | apply Kd.N_drewN | apply Kd.N_drew)); exact HO251.out) (Kd.R_base ho0) hb); have n4_ := Aside0.mk (Kd.V_elder' (by (with_reducible repeat (first | apply Kd.V_alloc | apply Kd.V_drewN | apply Kd.V_drew)); exact HL254_5.out) (Kd.R_base ho0) hb); have n5_ := Aside0.mk (Kd.V_elder' (by (with_reducible repeat (first | apply Kd.V_alloc | apply Kd.V_drewN | apply Kd.V_drew)); exact HL255_5.out) (Kd.R_base ho0) hb); have n6_ := Aside0.mk (Kd.R_lower ho0 (below_size (by with_reducible repeat first | exact HB.out | apply zA | apply zN | apply zD | refine zS ?_ GE238.out | refine zS ?_ GE253.out))); have n7_ := Aside0.mk (blk_below (g := gb238) (o := .cells #[.string (⟨#[112]⟩ : ByteArray), .string ⟨#[]⟩, .string ⟨#[]⟩, .slice none 0 0, .slice Ao19 y235.length co19] 25 (0, 0)) (by (with_reducible repeat first | apply zM | apply zE | apply zF); exact BK238.out) hb); have n8_ := Aside0.mk (blk_below (g := gb253) (o := .cells #[.string t243, .string t244, .string t245, .slice Ao28 t246.length co28, .slice Ao29 t249.length co29] 25 (0, 0)) (by (with_reducible repeat first | apply zM | apply zE | apply zF); exact BK253.out) hb); have n9_ := Aside0.mk (Kd.C_below (by repeat (first | (with_reducible exact HR254_5.out) | (with_reducible refine Kd.C_alloc ?_ _) | (with_reducible refine Kd.C_drewN ?_ _) | (with_reducible refine Kd.C_drew ?_) | exact HR254_5.out)) hb); have n10_ := Aside0.mk (Kd.C_below (by repeat (first | (with_reducible exact HR255_5.out) | (with_reducible refine Kd.C_alloc ?_ _) | (with_reducible refine Kd.C_drewN ?_ _) | (with_reducible refine Kd.C_drew ?_) | exact HR255_5.out)) hb); have n11_ := Aside0.mk (below_step (by with_reducible repeat first | exact HB.out | apply zA | apply zN | apply zD | refine zS ?_ GE238.out | refine zS ?_ GE253.out) hb); clear HO237; clear HO241; clear HO248; clear HO251; clear HL254_5; clear HL255_5; clear BK238; clear BK253; clear HR254_5; clear HR255_5; clear HB; have HO237 := n0_; have HO241 := n1_; have HO248 := n2_; have HO251 := n3_; have HL254_5 := n4_; have HL255_5 := n5_; have HO259 := n6_; have BK238 := n7_; have BK253 := n8_; have HR254_5 := n9_; have HR255_5 := n10_; have HB := n11_; clear n0_ n1_ n2_ n3_ n4_ n5_ n6_ n7_ n8_ n9_ n10_ n11_; (try clear hb); (try clear hb2); (try clear hk); (try clear hi); (try clear ho0)) | ((with_reducible refine gate_dst (N := 55) rfl ?_); (try (refine gate_guard (by rfl) ?_; dsimp only)); refine Kd.R_lit (Kd.int .i64) _ 3 ?hg (N := 55) ?hd (xs := ([4, 4, 1, 2, 1] : List Int)) (inner := [.int .i64 4, .int .i64 4, .int .i64 1, .int .i64 2, .int .i64 1]) (ok := fun _ => True) (okp := fun _ => True) ?hr ?hp (fun _ hk => hk) trivial (Below.refl _ _) (Nat.le_refl _) (by simp) ?_; (case hd => rfl); (case hg => rfl); (case hr => first | (go_simp; done) | (go_simp; rfl)); (case hp => exact (Reps.one (show Kd.M (Kd.int .i64) _ _ _ 4 [.int .i64 4] from rfl) (Reps.one (show Kd.M (Kd.int .i64) _ _ _ 4 [.int .i64 4] from rfl) (Reps.one (show Kd.M (Kd.int .i64) _ _ _ 1 [.int .i64 1] from rfl) (Reps.one (show Kd.M (Kd.int .i64) _ _ _ 2 [.int .i64 2] from rfl) (Reps.one (show Kd.M (Kd.int .i64) _ _ _ 1 [.int .i64 1] from rfl) (Reps.none _ _))))))); intro v261 w35 ho36 hb hg_ hnew_; clear hg_ hnew_; (first | rw [← Ny260.out] at ho36 | (simp only [Int.reduceToNat] at ho36; rw [← Ny260.out] at ho36)); have n0_ := Aside0.mk (Kd.N_elder' (by (with_reducible repeat (first | apply Kd.N_alloc | apply Kd.N_drewN | apply Kd.N_drew)); exact HO237.out) (Kd.R_base ho36) hb); have n1_ := Aside0.mk (Kd.N_elder' (by (with_reducible repeat (first | apply Kd.N_alloc | apply Kd.N_drewN | apply Kd.N_drew)); exact HO241.out) (Kd.R_base ho36) hb); have n2_ := Aside0.mk (Kd.R_below (by (with_reducible repeat (first | apply Kd.R_alloc | apply Kd.R_drewN | apply Kd.R_drew)); exact HO248.out) hb); have n3_ := Aside0.mk (Kd.N_elder' (by (with_reducible repeat (first | apply Kd.N_alloc | apply Kd.N_drewN | apply Kd.N_drew)); exact HO251.out) (Kd.R_base ho36) hb); have n4_ := Aside0.mk (Kd.V_elder' (by (with_reducible repeat (first | apply Kd.V_alloc | apply Kd.V_drewN | apply Kd.V_drew)); exact HL254_5.out) (Kd.R_base ho36) hb); have n5_ := Aside0.mk (Kd.V_elder' (by (with_reducible repeat (first | apply Kd.V_alloc | apply Kd.V_drewN | apply Kd.V_drew)); exact HL255_5.out) (Kd.R_base ho36) hb); have n6_ := Aside0.mk (Kd.R_elder' (by (with_reducible repeat (first | apply Kd.R_alloc | apply Kd.R_drewN | apply Kd.R_drew)); exact HO259.out) (Kd.R_base ho36) hb); have n7_ := Aside0.mk (Kd.R_lower (Kd.R_new' ho36 (Kd.R_lt (by (with_reducible repeat (first | apply Kd.R_alloc | apply Kd.R_drewN | apply Kd.R_drew)); exact HO259.out))) (below_size (by with_reducible repeat first | exact HB.out | apply zA | apply zN | apply zD | refine zS ?_ GE238.out | refine zS ?_ GE253.out))); have n8_ := Aside0.mk (blk_below (g := gb238) (o := .cells #[.string (⟨#[112]⟩ : ByteArray), .string ⟨#[]⟩, .string ⟨#[]⟩, .slice none 0 0, .slice Ao19 y235.length co19] 25 (0, 0)) (by (with_reducible repeat first | apply zM | apply zE | apply zF); exact BK238.out) hb); have n9_ := Aside0.mk (blk_below (g := gb253) (o := .cells #[.string t243, .string t244, .string t245, .slice Ao28 t246.length co28, .slice Ao29 t249.length co29] 25 (0, 0)) (by (with_reducible repeat first | apply zM | apply zE | apply zF); exact BK253.out) hb); have n10_ := Aside0.mk (Kd.C_below (by repeat (first | (with_reducible exact HR254_5.out) | (with_reducible refine Kd.C_alloc ?_ _) | (with_reducible refine Kd.C_drewN ?_ _) | (with_reducible refine Kd.C_drew ?_) | exact HR254_5.out)) hb); have n11_ := Aside0.mk (Kd.C_below (by repeat (first | (with_reducible exact HR255_5.out) | (with_reducible refine Kd.C_alloc ?_ _) | (with_reducible refine Kd.C_drewN ?_ _) | (with_reducible refine Kd.C_drew ?_) | exact HR255_5.out)) hb); have n12_ := Aside0.mk (below_step (by with_reducible repeat first | exact HB.out | apply zA | apply zN | apply zD | refine zS ?_ GE238.out | refine zS ?_ GE253.out) hb); clear HO237; clear HO241; clear HO248; clear HO251; clear HL254_5; clear HL255_5; clear HO259; clear BK238; clear BK253; clear HR254_5; clear HR255_5; clear HB; have HO237 := n0_; have HO241 := n1_; have HO248 := n2_; have HO251 := n3_; have HL254_5 := n4_; have HL255_5 := n5_; have HO259 := n6_; have HO262 := n7_; have BK238 := n8_; have BK253 := n9_; have HR254_5 := n10_; have HR255_5 := n11_; have HB := n12_; clear n0_ n1_ n2_ n3_ n4_ n5_ n6_ n7_ n8_ n9_ n10_ n11_ n12_; clear hb ho36; obtain ⟨Ao37, co37, eo37⟩ := Kd.R_slice HO259.out; subst eo37; obtain ⟨Ao38, co38, eo38⟩ := Kd.R_slice HO262.out; subst eo38) | (go_at_call 20; (with_reducible refine (tendrilplain_Ints.calls k _ _ t257 _ _ y260 t263 _ ?side1 ?side2 ?side3 ?side4 A13.out).mono ?_); (case side1 => repeat (first | exact (Kd.R_reads' HO259.out).2.2 | (with_reducible refine Kd.C_alloc ?_ _) | (with_reducible refine Kd.C_drewN ?_ _) | (with_reducible refine Kd.C_drew ?_))); (case side2 => exact (Kd.R_reads' HO259.out).2.1); (case side3 => repeat (first | exact (Kd.R_reads' HO262.out).2.2 | (with_reducible refine Kd.C_alloc ?_ _) | (with_reducible refine Kd.C_drewN ?_ _) | (with_reducible refine Kd.C_drew ?_))); (case side4 => exact (Kd.R_reads' HO262.out).2.1); rintro e w' ⟨rfl, ⟨nd, rfl⟩⟩))
         go_ret
         exact ⟨by first | rfl | (simp [errW_none, errW_some] <;> rfl) | (simp [*, errW_none, errW_some] <;> rfl), by with_reducible repeat first | exact HB.out | apply zA | apply zN | apply zD | refine zS ?_ GE238.out | refine zS ?_ GE253.out⟩
        ·
         replace c11 := Bool.eq_false_iff.mpr c11; subst c11; have H1 : (some false) = some r := by rw [if_neg (show ¬ (false = true) by decide)] at H; exact H
         clear H; have H := H1; clear H1; exact absurd ((Option.some.inj H).trans HR_.out) (by decide)
       ·
        rw [if_neg c9] at H
        have c9b0 : (((rd_T53 t239 2).f1) == 1) = false := beq_eq_false_iff_ne.mpr c9; have c9b1 : (((rd_T53 t239 2).f1) != 1) = true := bne_iff_ne.mpr c9; exact absurd ((Option.some.inj H).trans HR_.out) (by decide)
      ·
       rw [if_neg c8] at H
       exact absurd H (by simp)
     ·
      rw [if_neg c7] at H
      have c7b0 : (((rd_T53 t239 3).f1) == 3) = false := beq_eq_false_iff_ne.mpr c7; have c7b1 : (((rd_T53 t239 3).f1) != 3) = true := bne_iff_ne.mpr c7; exact absurd ((Option.some.inj H).trans HR_.out) (by decide)
    ·
     rw [if_neg c6] at H
     exact absurd H (by simp)
   ·
    rw [if_neg c5] at H
    have c5b0 : ((t239.length : Int) == 4) = false := beq_eq_false_iff_ne.mpr c5; have c5b1 : ((t239.length : Int) != 4) = true := bne_iff_ne.mpr c5; exact absurd ((Option.some.inj H).trans HR_.out) (by decide)
  ·
   rw [if_neg c4] at H
   have c4b0 : (t252 == 0) = false := beq_eq_false_iff_ne.mpr c4; have c4b1 : (t252 != 0) = true := bne_iff_ne.mpr c4; exact absurd ((Option.some.inj H).trans HR_.out) (by decide)
 ·
  rw [if_neg c3] at H
  have c3b0 : (t242 == 0) = false := beq_eq_false_iff_ne.mpr c3
  have c3b1 : (t242 != 0) = true := bne_iff_ne.mpr c3
  exact absurd ((Option.some.inj H).trans HR_.out) (by decide)
-- NOT PRINTED: function 48 (tendrilref11_below)
end Go.Proofs.Ytcebfldagnjddaa.G
