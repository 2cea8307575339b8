-- Written by gp.py (wip/gen) for this claim: pure functions and contracts, out of the translation; not trusted: Lean checks it.
import Derived.Test.YtcebfldagnjddaaGx0
import Derived.Test.YtcebfldagnjddaaGx2
namespace Go.Proofs.Ytcebfldagnjddaa.G
open Go.RowKit Go.Proofs.YtcebfldagnjddaaW.PrintWords Go.Proofs.YtcebfldagnjddaaW.PrintLast Go.Proofs.YtcebfldagnjddaaW.PrintMore
attribute [local go_sem] max2_int min2_int max_two min_two max_three min_three max_four min_four   -- for this text's walks alone
set_option linter.unusedVariables false
set_option linter.unusedSimpArgs false
open Go.Proofs.YtcebfldagnjddaaW.PrintWords renaming below_alloc → zA, pw_below_drewN → zN, below_drew1 → zD, below_set → zS, blk_drewN → zM, blk_drew → zE, blk_alloc → zF, blk_far → zG, blk_put → zP, blk_cell → zC, blk_frozen → zR
/-! ### attrs_Check: function 57 -/
mutual
def attrs_Check.l0 : Nat → List (S69) → List (S69) → Int → Int → Option (Int × Int)
 | 0, _, _, _, _ => none
 | k + 1, x0, x7, x8, x9 => if x9 < x8 then (if 0 ≤ x9 then (if x9 < (x7.length : Int) then (if x9 = 64 then (if 12 = 0 then (attrs_Check.l0 k x0 x7 x8 (wrap64 (x9 + 1))) else (some (x9, 12))) else ((chars_Name.f k ((rd_T69 x7 x9).f0)).bind fun t109 => (if t109 = true then ((chars_Fits.f ((rd_T69 x7 x9).f1)).bind fun t110 => (if t110 = true then (if x9 > 0 then (if 0 ≤ (wrap64 (x9 - 1)) then (if (wrap64 (x9 - 1)) < (x0.length : Int) then (attrs_Check.j1 k x0 x9 0 x7 x8 x9 (((rd_T69 x0 (wrap64 (x9 - 1))).f0).toList == ((rd_T69 x7 x9).f0).toList) ((rd_T69 x7 x9).f0) ((rd_T69 x7 x9).f1)) else (none)) else (none)) else (attrs_Check.j1 k x0 x9 0 x7 x8 x9 false ((rd_T69 x7 x9).f0) ((rd_T69 x7 x9).f1))) else (if 3 = 0 then (attrs_Check.l0 k x0 x7 x8 (wrap64 (x9 + 1))) else (some (x9, 3))))) else (if 8 = 0 then (attrs_Check.l0 k x0 x7 x8 (wrap64 (x9 + 1))) else (some (x9, 8)))))) else (none)) else (none)) else (some (0, 0))
def attrs_Check.j1 : Nat → List (S69) → Int → Int → List (S69) → Int → Int → Bool → ByteArray → ByteArray → Option (Int × Int)
 | 0, _, _, _, _, _, _, _, _, _ => none
 | k + 1, x0, x4, x6, x7, x8, x9, x27, x109000, x109001 => if x27 = true then (if 10 = 0 then (attrs_Check.l0 k x0 x7 x8 (wrap64 (x9 + 1))) else (some (x4, 10))) else (if x4 > 0 then (if 0 ≤ (wrap64 (x4 - 1)) then (if (wrap64 (x4 - 1)) < (x0.length : Int) then (attrs_Check.j2 k x0 x4 x6 x7 x8 x9 (Op.bytesLess x109000.toList (((rd_T69 x0 (wrap64 (x4 - 1))).f0).toList))) else (none)) else (none)) else (attrs_Check.j2 k x0 x4 x6 x7 x8 x9 false))
def attrs_Check.j2 : Nat → List (S69) → Int → Int → List (S69) → Int → Int → Bool → Option (Int × Int)
 | 0, _, _, _, _, _, _, _ => none
 | k + 1, x0, x4, x6, x7, x8, x9, x41 => if x41 = true then (if 9 = 0 then (attrs_Check.l0 k x0 x7 x8 (wrap64 (x9 + 1))) else (some (x4, 9))) else (if x6 = 0 then (attrs_Check.l0 k x0 x7 x8 (wrap64 (x9 + 1))) else (some (x4, x6)))
end
def attrs_Check.f (k : Nat) (l0 : List (S69)) : Option (Int × Int) := attrs_Check.l0 k l0 l0 (l0.length : Int) 0
theorem attrs_Check.mono_l : ∀ k, (∀ y0 y1 y2 y3, LeO (attrs_Check.l0 k y0 y1 y2 y3) (attrs_Check.l0 (k + 1) y0 y1 y2 y3)) ∧ (∀ y0 y1 y2 y3 y4 y5 y6 y7 y8, LeO (attrs_Check.j1 k y0 y1 y2 y3 y4 y5 y6 y7 y8) (attrs_Check.j1 (k + 1) y0 y1 y2 y3 y4 y5 y6 y7 y8)) ∧ (∀ y0 y1 y2 y3 y4 y5 y6, LeO (attrs_Check.j2 k y0 y1 y2 y3 y4 y5 y6) (attrs_Check.j2 (k + 1) y0 y1 y2 y3 y4 y5 y6))
 | 0 => ⟨fun _ _ _ _ r h => by simp [attrs_Check.l0] at h, fun _ _ _ _ _ _ _ _ _ r h => by simp [attrs_Check.j1] at h, fun _ _ _ _ _ _ _ r h => by simp [attrs_Check.j2] at h⟩
 | k + 1 => by
  obtain ⟨ih0, ih1, ih2⟩ := attrs_Check.mono_l k
  refine ⟨?_, ?_, ?_⟩
  ·
   intro y0 y1 y2 y3; unfold attrs_Check.l0
   repeat' first
   | (with_reducible exact ih0 _ _ _ _)
   | (with_reducible exact ih1 _ _ _ _ _ _ _ _ _)
   | (with_reducible exact ih2 _ _ _ _ _ _ _)
   | (with_reducible exact chars_Name.mono _ _)
   | (with_reducible exact LeO.refl _)
   | (with_reducible exact LeO.none _)
   | (with_reducible refine LeO.ite ?_ ?_)
   | (with_reducible refine LeO.bind ?_ (fun _ => ?_))
  ·
   intro y0 y1 y2 y3 y4 y5 y6 y7 y8; unfold attrs_Check.j1
   repeat' first
   | (with_reducible exact ih0 _ _ _ _)
   | (with_reducible exact ih1 _ _ _ _ _ _ _ _ _)
   | (with_reducible exact ih2 _ _ _ _ _ _ _)
   | (with_reducible exact chars_Name.mono _ _)
   | (with_reducible exact LeO.refl _)
   | (with_reducible exact LeO.none _)
   | (with_reducible refine LeO.ite ?_ ?_)
   | (with_reducible refine LeO.bind ?_ (fun _ => ?_))
  ·
   intro y0 y1 y2 y3 y4 y5 y6; unfold attrs_Check.j2
   repeat' first
   | (with_reducible exact ih0 _ _ _ _)
   | (with_reducible exact ih1 _ _ _ _ _ _ _ _ _)
   | (with_reducible exact ih2 _ _ _ _ _ _ _)
   | (with_reducible exact chars_Name.mono _ _)
   | (with_reducible exact LeO.refl _)
   | (with_reducible exact LeO.none _)
   | (with_reducible refine LeO.ite ?_ ?_)
   | (with_reducible refine LeO.bind ?_ (fun _ => ?_))
theorem attrs_Check.mono : ∀ a0 k, LeO (attrs_Check.f k a0) (attrs_Check.f (k + 1) a0) := by
 intro a0 k
 obtain ⟨ih0, ih1, ih2⟩ := attrs_Check.mono_l k
 unfold attrs_Check.f
 repeat' first
   | (with_reducible exact ih0 _ _ _ _)
   | (with_reducible exact ih1 _ _ _ _ _ _ _ _ _)
   | (with_reducible exact ih2 _ _ _ _ _ _ _)
   | (with_reducible exact chars_Name.mono _ _)
   | (with_reducible exact LeO.refl _)
   | (with_reducible exact LeO.none _)
   | (with_reducible refine LeO.ite ?_ ?_)
   | (with_reducible refine LeO.bind ?_ (fun _ => ?_))
set_option maxHeartbeats 8000000 in
set_option maxRecDepth 100000 in
theorem attrs_Check.calls (k : Nat) (A0 : Option Addr) (c0 : Nat) (l0 : List (S69)) (r1 : Int) (r2 : Int) (w : World) (hr0 : Kd.C k69 w A0 l0.length l0) (hc0 : l0.length ≤ c0) (h : attrs_Check.f k l0 = some (r1, r2)) :
  Calls Try.prog 57 #[.slice A0 l0.length c0] w fun e w' => e = .returned (.tuple #[.int .i64 r1, .int .i64 r2]) ∧ Below w.heap.size w w' := by
 have hu69 := Try.underlying69
 have HR0 := Aside0.mk hr0
 have HC0 := Aside0.mk hc0
 clear hr0 hc0
 have HB := Aside0.mk (Below.refl w.heap.size w)
 have H : (attrs_Check.l0 k l0 l0 (l0.length : Int) 0) = some (r1, r2) := h
 clear h
 have H' := Aside0.mk H
 clear H
 go_enter Try.func57, Try.ntmps57
 go_wp2
 repeat (go_quiet (fail); try go_wp2)
 go_loopg [9] k (fun kq v9 w' => ∃ (x9_1 : Int), v9 = .int .i64 x9_1 ∧ Aside0 (attrs_Check.l0 kq l0 l0 (l0.length : Int) x9_1 = some (r1, r2)) ∧ Aside0 (kq ≤ k) ∧ Aside0 (Below w.heap.size w w'))
 case atStart => exact ⟨(0), (by first | rfl | (simp; done) | (simp [*]; done)), H', ⟨Nat.le_refl _⟩, ⟨by with_reducible repeat first | exact HB.out | apply zA | apply zN | apply zD⟩⟩
 case round =>
  clear H'
  obtain ⟨x9_1, rfl, HA, HK1, HB⟩ := hrel
  cases gk with
  | zero => exact absurd HA.out (by simp [attrs_Check.l0])
  | succ k1 =>
   have H := HA.out; clear HA
   simp only [attrs_Check.l0] at H
   by_cases c2 : x9_1 < (l0.length : Int)
   ·
    rw [if_pos c2] at H
    have c2b0 : decide (x9_1 < (l0.length : Int)) = true := decide_eq_true c2; clear c2
    by_cases c3 : 0 ≤ x9_1
    ·
     rw [if_pos c3] at H
     have c3b0 : decide (0 ≤ x9_1) = true := decide_eq_true c3; clear c3
     by_cases c4 : x9_1 < (l0.length : Int)
     ·
      rw [if_pos c4] at H
      have c4b0 : decide (x9_1 < (l0.length : Int)) = true := decide_eq_true c4; clear c4
      by_cases c5 : x9_1 = 64
      ·
       rw [if_pos c5] at H
       have c5b0 : (x9_1 == 64) = true := beq_iff_eq.mpr c5; have c5b1 : (x9_1 != 64) = false := bne_eq_false_iff_eq.mpr c5; clear c5
       by_cases c6 : 12 = 0
       ·
        exact absurd c6 (by decide)
       ·
        rw [if_neg c6] at H
        have c6b0 : (12 == 0) = false := beq_eq_false_iff_ne.mpr c6; have c6b1 : (12 != 0) = true := bne_iff_ne.mpr c6
        simp only [Option.some.injEq, Prod.mk.injEq] at H
        obtain ⟨rfl, rfl⟩ := H; have p107 : 0 ≤ (x9_1 : Int) := of_decide_eq_true (by assumption); have q107 : x9_1 < (l0.length : Int) := of_decide_eq_true (by assumption); obtain ⟨ad107, e107, hx107_0, hx107_1⟩ := at_T69 HR0.out x9_1 p107 q107; cases e107; replace hx107_0 := zB HB hx107_0; replace hx107_1 := zB HB hx107_1; replace p107 := eq_true p107; replace q107 := eq_true q107
        go_wp2_with (first | ((with_reducible refine gate_dst (N := 5) rfl ?_); refine box_event ?hg (N := 5) ?hd (cs := #[.string ⟨#[]⟩, .string ⟨#[]⟩]) (t := 69) ?hr ?_; (case hd => rfl); (case hg => rfl); (case hr => first | (go_simp; done) | (go_simp; rfl)); intro gb108 hg w9 hbox hb; have n0_ := Aside0.mk (below_step (by with_reducible repeat first | exact HB.out | apply zA | apply zN | apply zD) hb); have n1_ := Aside0.mk (hbox); have n2_ := Aside0.mk ((by rw [hg]; exact (below_size (by with_reducible repeat first | exact HB.out | apply zA | apply zN | apply zD)) : w.heap.size ≤ gb108)); have n3_ := n2_; clear HB; have HB := n0_; have BK108 := n1_; have GW108 := n2_; have GE108 := n3_; clear n0_ n1_ n2_ n3_; clear hb hbox hg; have hcz10_0 : w9.cell? ⟨gb108, 0, none⟩ = some (.string ⟨#[]⟩) := (zC BK108.out 0).trans rfl; have hcz10_1 : w9.cell? ⟨gb108, 1, none⟩ = some (.string ⟨#[]⟩) := (zC BK108.out 1).trans rfl; have hfz10_0 := zR BK108.out 0; have hfz10_1 := zR BK108.out 1))
        repeat (go_quiet (first | ((with_reducible refine gate_dst (N := 5) rfl ?_); refine box_event ?hg (N := 5) ?hd (cs := #[.string ⟨#[]⟩, .string ⟨#[]⟩]) (t := 69) ?hr ?_; (case hd => rfl); (case hg => rfl); (case hr => first | (go_simp; done) | (go_simp; rfl)); intro gb108 hg w9 hbox hb; have n0_ := Aside0.mk (below_step (by with_reducible repeat first | exact HB.out | apply zA | apply zN | apply zD) hb); have n1_ := Aside0.mk (hbox); have n2_ := Aside0.mk ((by rw [hg]; exact (below_size (by with_reducible repeat first | exact HB.out | apply zA | apply zN | apply zD)) : w.heap.size ≤ gb108)); have n3_ := n2_; clear HB; have HB := n0_; have BK108 := n1_; have GW108 := n2_; have GE108 := n3_; clear n0_ n1_ n2_ n3_; clear hb hbox hg; have hcz10_0 : w9.cell? ⟨gb108, 0, none⟩ = some (.string ⟨#[]⟩) := (zC BK108.out 0).trans rfl; have hcz10_1 : w9.cell? ⟨gb108, 1, none⟩ = some (.string ⟨#[]⟩) := (zC BK108.out 1).trans rfl; have hfz10_0 := zR BK108.out 0; have hfz10_1 := zR BK108.out 1)); try go_wp2_with (first | ((with_reducible refine gate_dst (N := 5) rfl ?_); refine box_event ?hg (N := 5) ?hd (cs := #[.string ⟨#[]⟩, .string ⟨#[]⟩]) (t := 69) ?hr ?_; (case hd => rfl); (case hg => rfl); (case hr => first | (go_simp; done) | (go_simp; rfl)); intro gb108 hg w9 hbox hb; have n0_ := Aside0.mk (below_step (by with_reducible repeat first | exact HB.out | apply zA | apply zN | apply zD) hb); have n1_ := Aside0.mk (hbox); have n2_ := Aside0.mk ((by rw [hg]; exact (below_size (by with_reducible repeat first | exact HB.out | apply zA | apply zN | apply zD)) : w.heap.size ≤ gb108)); have n3_ := n2_; clear HB; have HB := n0_; have BK108 := n1_; have GW108 := n2_; have GE108 := n3_; clear n0_ n1_ n2_ n3_; clear hb hbox hg; have hcz10_0 : w9.cell? ⟨gb108, 0, none⟩ = some (.string ⟨#[]⟩) := (zC BK108.out 0).trans rfl; have hcz10_1 : w9.cell? ⟨gb108, 1, none⟩ = some (.string ⟨#[]⟩) := (zC BK108.out 1).trans rfl; have hfz10_0 := zR BK108.out 0; have hfz10_1 := zR BK108.out 1)))
        go_ret2
        exact ⟨by first | rfl | (simp [errW_none, errW_some] <;> rfl) | (simp [*, errW_none, errW_some] <;> rfl), by with_reducible repeat first | exact HB.out | apply zA | apply zN | apply zD | refine zS ?_ GE108.out⟩
      ·
       rw [if_neg c5] at H
       have c5b0 : (x9_1 == 64) = false := beq_eq_false_iff_ne.mpr c5; have c5b1 : (x9_1 != 64) = true := bne_iff_ne.mpr c5; replace H := Option.bind_eq_some_iff.mp H; obtain ⟨t109, A110, H⟩ := H; replace H : (if t109 = true then ((chars_Fits.f ((rd_T69 l0 x9_1).f1)).bind fun t110 => (if t110 = true then (if x9_1 > 0 then (if 0 ≤ (wrap64 (x9_1 - 1)) then (if (wrap64 (x9_1 - 1)) < (l0.length : Int) then (attrs_Check.j1 k1 l0 x9_1 0 l0 (l0.length : Int) x9_1 (((rd_T69 l0 (wrap64 (x9_1 - 1))).f0).toList == ((rd_T69 l0 x9_1).f0).toList) ((rd_T69 l0 x9_1).f0) ((rd_T69 l0 x9_1).f1)) else (none)) else (none)) else (attrs_Check.j1 k1 l0 x9_1 0 l0 (l0.length : Int) x9_1 false ((rd_T69 l0 x9_1).f0) ((rd_T69 l0 x9_1).f1))) else (if 3 = 0 then (attrs_Check.l0 k1 l0 l0 (l0.length : Int) (wrap64 (x9_1 + 1))) else (some (x9_1, 3))))) else (if 8 = 0 then (attrs_Check.l0 k1 l0 l0 (l0.length : Int) (wrap64 (x9_1 + 1))) else (some (x9_1, 8)))) = some (r1, r2) := H; have A11 := Aside0.mk A110; clear A110
       by_cases c12 : t109 = true
       ·
        subst c12; have H1 : ((chars_Fits.f ((rd_T69 l0 x9_1).f1)).bind fun t110 => (if t110 = true then (if x9_1 > 0 then (if 0 ≤ (wrap64 (x9_1 - 1)) then (if (wrap64 (x9_1 - 1)) < (l0.length : Int) then (attrs_Check.j1 k1 l0 x9_1 0 l0 (l0.length : Int) x9_1 (((rd_T69 l0 (wrap64 (x9_1 - 1))).f0).toList == ((rd_T69 l0 x9_1).f0).toList) ((rd_T69 l0 x9_1).f0) ((rd_T69 l0 x9_1).f1)) else (none)) else (none)) else (attrs_Check.j1 k1 l0 x9_1 0 l0 (l0.length : Int) x9_1 false ((rd_T69 l0 x9_1).f0) ((rd_T69 l0 x9_1).f1))) else (if 3 = 0 then (attrs_Check.l0 k1 l0 l0 (l0.length : Int) (wrap64 (x9_1 + 1))) else (some (x9_1, 3))))) = some (r1, r2) := by rw [if_pos rfl] at H; exact H
        clear H; have H := H1; clear H1; replace H := Option.bind_eq_some_iff.mp H; obtain ⟨t110, A130, H⟩ := H; replace H : (if t110 = true then (if x9_1 > 0 then (if 0 ≤ (wrap64 (x9_1 - 1)) then (if (wrap64 (x9_1 - 1)) < (l0.length : Int) then (attrs_Check.j1 k1 l0 x9_1 0 l0 (l0.length : Int) x9_1 (((rd_T69 l0 (wrap64 (x9_1 - 1))).f0).toList == ((rd_T69 l0 x9_1).f0).toList) ((rd_T69 l0 x9_1).f0) ((rd_T69 l0 x9_1).f1)) else (none)) else (none)) else (attrs_Check.j1 k1 l0 x9_1 0 l0 (l0.length : Int) x9_1 false ((rd_T69 l0 x9_1).f0) ((rd_T69 l0 x9_1).f1))) else (if 3 = 0 then (attrs_Check.l0 k1 l0 l0 (l0.length : Int) (wrap64 (x9_1 + 1))) else (some (x9_1, 3)))) = some (r1, r2) := H; have A13 := Aside0.mk A130; clear A130
        by_cases c14 : t110 = true
        ·
         subst c14; have H1 : (if x9_1 > 0 then (if 0 ≤ (wrap64 (x9_1 - 1)) then (if (wrap64 (x9_1 - 1)) < (l0.length : Int) then (attrs_Check.j1 k1 l0 x9_1 0 l0 (l0.length : Int) x9_1 (((rd_T69 l0 (wrap64 (x9_1 - 1))).f0).toList == ((rd_T69 l0 x9_1).f0).toList) ((rd_T69 l0 x9_1).f0) ((rd_T69 l0 x9_1).f1)) else (none)) else (none)) else (attrs_Check.j1 k1 l0 x9_1 0 l0 (l0.length : Int) x9_1 false ((rd_T69 l0 x9_1).f0) ((rd_T69 l0 x9_1).f1))) = some (r1, r2) := by rw [if_pos rfl] at H; exact H
         clear H; have H := H1; clear H1; have HC15 := Aside0.mk H; clear H; have p107 : 0 ≤ (x9_1 : Int) := of_decide_eq_true (by assumption); have q107 : x9_1 < (l0.length : Int) := of_decide_eq_true (by assumption); obtain ⟨ad107, e107, hx107_0, hx107_1⟩ := at_T69 HR0.out x9_1 p107 q107; cases e107; replace hx107_0 := zB HB hx107_0; replace hx107_1 := zB HB hx107_1; replace p107 := eq_true p107; replace q107 := eq_true q107
         go_upto_region 11 with (first | ((with_reducible refine gate_dst (N := 5) rfl ?_); refine box_event ?hg (N := 5) ?hd (cs := #[.string ⟨#[]⟩, .string ⟨#[]⟩]) (t := 69) ?hr ?_; (case hd => rfl); (case hg => rfl); (case hr => first | (go_simp; done) | (go_simp; rfl)); intro gb108 hg w16 hbox hb; have n0_ := Aside0.mk (below_step (by with_reducible repeat first | exact HB.out | apply zA | apply zN | apply zD) hb); have n1_ := Aside0.mk (hbox); have n2_ := Aside0.mk ((by rw [hg]; exact (below_size (by with_reducible repeat first | exact HB.out | apply zA | apply zN | apply zD)) : w.heap.size ≤ gb108)); have n3_ := n2_; clear HB; have HB := n0_; have BK108 := n1_; have GW108 := n2_; have GE108 := n3_; clear n0_ n1_ n2_ n3_; clear hb hbox hg; have hcz17_0 : w16.cell? ⟨gb108, 0, none⟩ = some (.string ⟨#[]⟩) := (zC BK108.out 0).trans rfl; have hcz17_1 : w16.cell? ⟨gb108, 1, none⟩ = some (.string ⟨#[]⟩) := (zC BK108.out 1).trans rfl; have hfz17_0 := zR BK108.out 0; have hfz17_1 := zR BK108.out 1) | (go_at_call 59; (with_reducible refine (chars_Name.calls k1 ((rd_T69 l0 x9_1).f0) true _ A11.out).mono ?_); rintro e w' ⟨rfl, ⟨nd, rfl⟩⟩; (try first | exact ⟨rfl, _, World.drewN_drewN _ _ _⟩ | exact ⟨rfl, _, Eq.trans (World.drewN_drewN _ _ _) (congrArg (World.drewN _) (Nat.add_assoc _ _ _))⟩)) | (go_at_call 56; (with_reducible refine (chars_Fits.calls ((rd_T69 l0 x9_1).f1) true _ A13.out).mono ?_); rintro e w' ⟨rfl, ⟨nd, rfl⟩⟩; (try first | exact ⟨rfl, _, World.drewN_drewN _ _ _⟩ | exact ⟨rfl, _, Eq.trans (World.drewN_drewN _ _ _) (congrArg (World.drewN _) (Nat.add_assoc _ _ _))⟩)))
         repeat (go_quiet (first | ((with_reducible refine gate_dst (N := 5) rfl ?_); refine box_event ?hg (N := 5) ?hd (cs := #[.string ⟨#[]⟩, .string ⟨#[]⟩]) (t := 69) ?hr ?_; (case hd => rfl); (case hg => rfl); (case hr => first | (go_simp; done) | (go_simp; rfl)); intro gb108 hg w16 hbox hb; have n0_ := Aside0.mk (below_step (by with_reducible repeat first | exact HB.out | apply zA | apply zN | apply zD) hb); have n1_ := Aside0.mk (hbox); have n2_ := Aside0.mk ((by rw [hg]; exact (below_size (by with_reducible repeat first | exact HB.out | apply zA | apply zN | apply zD)) : w.heap.size ≤ gb108)); have n3_ := n2_; clear HB; have HB := n0_; have BK108 := n1_; have GW108 := n2_; have GE108 := n3_; clear n0_ n1_ n2_ n3_; clear hb hbox hg; have hcz17_0 : w16.cell? ⟨gb108, 0, none⟩ = some (.string ⟨#[]⟩) := (zC BK108.out 0).trans rfl; have hcz17_1 : w16.cell? ⟨gb108, 1, none⟩ = some (.string ⟨#[]⟩) := (zC BK108.out 1).trans rfl; have hfz17_0 := zR BK108.out 0; have hfz17_1 := zR BK108.out 1) | (go_at_call 59; (with_reducible refine (chars_Name.calls k1 ((rd_T69 l0 x9_1).f0) true _ A11.out).mono ?_); rintro e w' ⟨rfl, ⟨nd, rfl⟩⟩; (try first | exact ⟨rfl, _, World.drewN_drewN _ _ _⟩ | exact ⟨rfl, _, Eq.trans (World.drewN_drewN _ _ _) (congrArg (World.drewN _) (Nat.add_assoc _ _ _))⟩)) | (go_at_call 56; (with_reducible refine (chars_Fits.calls ((rd_T69 l0 x9_1).f1) true _ A13.out).mono ?_); rintro e w' ⟨rfl, ⟨nd, rfl⟩⟩; (try first | exact ⟨rfl, _, World.drewN_drewN _ _ _⟩ | exact ⟨rfl, _, Eq.trans (World.drewN_drewN _ _ _) (congrArg (World.drewN _) (Nat.add_assoc _ _ _))⟩))); go_upto_region 11 with (first | ((with_reducible refine gate_dst (N := 5) rfl ?_); refine box_event ?hg (N := 5) ?hd (cs := #[.string ⟨#[]⟩, .string ⟨#[]⟩]) (t := 69) ?hr ?_; (case hd => rfl); (case hg => rfl); (case hr => first | (go_simp; done) | (go_simp; rfl)); intro gb108 hg w16 hbox hb; have n0_ := Aside0.mk (below_step (by with_reducible repeat first | exact HB.out | apply zA | apply zN | apply zD) hb); have n1_ := Aside0.mk (hbox); have n2_ := Aside0.mk ((by rw [hg]; exact (below_size (by with_reducible repeat first | exact HB.out | apply zA | apply zN | apply zD)) : w.heap.size ≤ gb108)); have n3_ := n2_; clear HB; have HB := n0_; have BK108 := n1_; have GW108 := n2_; have GE108 := n3_; clear n0_ n1_ n2_ n3_; clear hb hbox hg; have hcz17_0 : w16.cell? ⟨gb108, 0, none⟩ = some (.string ⟨#[]⟩) := (zC BK108.out 0).trans rfl; have hcz17_1 : w16.cell? ⟨gb108, 1, none⟩ = some (.string ⟨#[]⟩) := (zC BK108.out 1).trans rfl; have hfz17_0 := zR BK108.out 0; have hfz17_1 := zR BK108.out 1) | (go_at_call 59; (with_reducible refine (chars_Name.calls k1 ((rd_T69 l0 x9_1).f0) true _ A11.out).mono ?_); rintro e w' ⟨rfl, ⟨nd, rfl⟩⟩; (try first | exact ⟨rfl, _, World.drewN_drewN _ _ _⟩ | exact ⟨rfl, _, Eq.trans (World.drewN_drewN _ _ _) (congrArg (World.drewN _) (Nat.add_assoc _ _ _))⟩)) | (go_at_call 56; (with_reducible refine (chars_Fits.calls ((rd_T69 l0 x9_1).f1) true _ A13.out).mono ?_); rintro e w' ⟨rfl, ⟨nd, rfl⟩⟩; (try first | exact ⟨rfl, _, World.drewN_drewN _ _ _⟩ | exact ⟨rfl, _, Eq.trans (World.drewN_drewN _ _ _) (congrArg (World.drewN _) (Nat.add_assoc _ _ _))⟩))))
         (try simp only [Act.put, List.setIfInBounds_toArray, List.set_cons_zero, List.set_cons_succ])
         go_cut [27] (fun v27 wc => ∃ (kq : Nat) (x27_14 : Bool), v27 = .bool x27_14 ∧ Aside0 (attrs_Check.j1 kq l0 x9_1 0 l0 (l0.length : Int) x9_1 x27_14 ((rd_T69 l0 x9_1).f0) ((rd_T69 l0 x9_1).f1) = some (r1, r2)) ∧ Aside0 (kq ≤ k1) ∧ Aside0 (wc.heap[gb108]? = some (.cells #[.string ((rd_T69 l0 x9_1).f0), .string ((rd_T69 l0 x9_1).f1)] 69 (0, 0))) ∧ Aside0 (Below w.heap.size w wc))
         case first =>
          have H := HC15.out; clear HC15
          by_cases c18 : x9_1 > 0
          ·
           rw [if_pos c18] at H
           have c18b0 : decide (0 < x9_1) = true := decide_eq_true c18; clear c18
           (first | rw [c18b0] | (simp only [i64_w, i32_w]; rw [c18b0]) | skip)
           obtain ⟨ji19, hji19⟩ : ∃ j_ : Int, (wrap64 (x9_1 - 1)) = j_ := ⟨_, rfl⟩; replace H : (if 0 ≤ (ji19) then (if (ji19) < (l0.length : Int) then (attrs_Check.j1 k1 l0 x9_1 0 l0 (l0.length : Int) x9_1 (((rd_T69 l0 (ji19)).f0).toList == ((rd_T69 l0 x9_1).f0).toList) ((rd_T69 l0 x9_1).f0) ((rd_T69 l0 x9_1).f1)) else (none)) else (none)) = some (r1, r2) := by first | (rw [hji19] at H; exact H) | (simp only [hji19] at H ⊢; exact H)
           have hji19w : (IntKind.i64.wrap (x9_1 - 1)) = ji19 := (i64_w _).trans hji19
           by_cases c20 : 0 ≤ (ji19)
           ·
            rw [if_pos c20] at H
            have c20b0 : decide (0 ≤ (ji19)) = true := decide_eq_true c20; clear c20
            by_cases c21 : (ji19) < (l0.length : Int)
            ·
             rw [if_pos c21] at H
             have c21b0 : decide ((ji19) < (l0.length : Int)) = true := decide_eq_true c21; clear c21; have H' := Aside0.mk H; clear H; have p111 : 0 ≤ ((ji19) : Int) := of_decide_eq_true (by assumption); have q111 : (ji19) < (l0.length : Int) := of_decide_eq_true (by assumption); obtain ⟨ad111, e111, hx111_0, hx111_1⟩ := at_T69 HR0.out (ji19) p111 q111; obtain rfl : ad107 = ad111 := (by injection e111); have hn111_0 : ad107.block ≠ gb108 := Nat.ne_of_lt (Nat.lt_of_lt_of_le (by have := World.block_lt_of_cell? _ _ hx111_0; first | rwa [add_block] at this | exact this) GW108.out); have hn111_1 : ad107.block ≠ gb108 := Nat.ne_of_lt (Nat.lt_of_lt_of_le (by have := World.block_lt_of_cell? _ _ hx111_0; first | rwa [add_block] at this | exact this) GW108.out); replace hx111_0 := zB HB hx111_0; replace hx111_1 := zB HB hx111_1; replace hx111_0 := (cell_far (p := ⟨gb108, 0, none⟩) (by first | exact zX hn111_0 | exact hn111_0) (.string ((rd_T69 l0 x9_1).f0))).trans hx111_0; replace hx111_1 := (cell_far (p := ⟨gb108, 0, none⟩) (by first | exact zX hn111_0 | exact hn111_0) (.string ((rd_T69 l0 x9_1).f0))).trans hx111_1; replace hx111_0 := (cell_far (p := ⟨gb108, 1, none⟩) (by first | exact zX hn111_1 | exact hn111_1) (.string ((rd_T69 l0 x9_1).f1))).trans hx111_0; replace hx111_1 := (cell_far (p := ⟨gb108, 1, none⟩) (by first | exact zX hn111_1 | exact hn111_1) (.string ((rd_T69 l0 x9_1).f1))).trans hx111_1
             (try have hy111_0 := fun (n_ : Nat) => (show ((((w16.drewN n_).setCell ⟨gb108, 0, none⟩ (.string ((rd_T69 l0 x9_1).f0))).setCell ⟨gb108, 1, none⟩ (.string ((rd_T69 l0 x9_1).f1)))).cell? _ = some _ from hx111_0))
             (try have hy111_1 := fun (n_ : Nat) => (show ((((w16.drewN n_).setCell ⟨gb108, 0, none⟩ (.string ((rd_T69 l0 x9_1).f0))).setCell ⟨gb108, 1, none⟩ (.string ((rd_T69 l0 x9_1).f1)))).cell? _ = some _ from hx111_1))
             clear hn111_0; clear hn111_1; replace p111 := eq_true p111; replace q111 := eq_true q111; have hcz22_0 : w16.cell? ⟨gb108, 0, none⟩ = some (.string ⟨#[]⟩) := (zC BK108.out 0).trans rfl; have hcz22_1 : w16.cell? ⟨gb108, 1, none⟩ = some (.string ⟨#[]⟩) := (zC BK108.out 1).trans rfl; have hfz22_0 := zR BK108.out 0; have hfz22_1 := zR BK108.out 1
             go_wp2
             repeat (go_quiet (fail); try go_wp2)
             go_meet
             case rel => exact ⟨_, ((((rd_T69 l0 (ji19)).f0).toList == ((rd_T69 l0 x9_1).f0).toList)), (by first | rfl | (simp; done) | (simp only [← hji19] <;> (first | rfl | simp)) | (simp [*]; done)), H', ⟨by have := HK1.out; first | omega | exact Nat.le_refl _⟩, ⟨by (with_reducible repeat first | apply zM | apply zE | apply zF); refine zP (cs := #[.string ((rd_T69 l0 x9_1).f0), .string ⟨#[]⟩]) ?_ 1 _ rfl; (with_reducible repeat first | apply zM | apply zE | apply zF); refine zP (cs := #[.string ⟨#[]⟩, .string ⟨#[]⟩]) ?_ 0 _ rfl; (with_reducible repeat first | apply zM | apply zE | apply zF); exact BK108.out⟩, ⟨by with_reducible repeat first | exact HB.out | apply zA | apply zN | apply zD | refine zS ?_ GE108.out⟩⟩
            ·
             rw [if_neg c21] at H
             exact absurd H (by simp)
           ·
            rw [if_neg c20] at H
            exact absurd H (by simp)
          ·
           rw [if_neg c18] at H
           have c18b0 : decide (0 < x9_1) = false := decide_eq_false c18; clear c18
           (first | rw [c18b0] | (simp only [i64_w, i32_w]; rw [c18b0]) | skip)
           have H' := Aside0.mk H; clear H
           go_wp2
           repeat (go_quiet (fail); try go_wp2)
           go_meet
           case rel => exact ⟨_, (false), (by first | rfl | (simp; done) | (simp [*]; done)), H', ⟨by have := HK1.out; first | omega | exact Nat.le_refl _⟩, ⟨by (with_reducible repeat first | apply zM | apply zE | apply zF); refine zP (cs := #[.string ((rd_T69 l0 x9_1).f0), .string ⟨#[]⟩]) ?_ 1 _ rfl; (with_reducible repeat first | apply zM | apply zE | apply zF); refine zP (cs := #[.string ⟨#[]⟩, .string ⟨#[]⟩]) ?_ 0 _ rfl; (with_reducible repeat first | apply zM | apply zE | apply zF); exact BK108.out⟩, ⟨by with_reducible repeat first | exact HB.out | apply zA | apply zN | apply zD | refine zS ?_ GE108.out⟩⟩
         case rest =>
          clear HC15
          try clear c1
          try clear p1
          try clear q1
          try clear hx1
          try clear c2
          try clear c2b0
          try clear p2
          try clear c3
          try clear c3b0
          try clear c4
          try clear c4b0
          try clear c5
          try clear c5b0
          try clear c5b1
          try clear c6
          try clear c6b0
          try clear c6b1
          try clear p6
          try clear p10
          try clear q10
          try clear hx10
          try clear p11
          try clear q11
          try clear hx11
          try clear c12
          try clear c14
          try clear c18
          try clear c18b0
          try clear c20
          try clear c20b0
          try clear c21
          try clear c21b0
          try clear hx107_0
          try clear hx107_1
          try clear hx111_0
          try clear hx111_1
          try clear p107
          try clear p111
          try clear q107
          try clear q111
          obtain ⟨kq, x27_14, rfl, HA, HJ14, BK108, HB⟩ := hcut; cases kq with
          | zero => exact absurd HA.out (by simp [attrs_Check.j1])
          | succ kj14 =>
           have H := HA.out; clear HA
           simp only [attrs_Check.j1] at H
           by_cases c23 : x27_14 = true
           ·
            subst c23; have H1 : (if 10 = 0 then (attrs_Check.l0 kj14 l0 l0 (l0.length : Int) (wrap64 (x9_1 + 1))) else (some (x9_1, 10))) = some (r1, r2) := by rw [if_pos rfl] at H; exact H
            clear H; have H := H1; clear H1
            by_cases c24 : 10 = 0
            ·
             exact absurd c24 (by decide)
            ·
             rw [if_neg c24] at H
             have c24b0 : (10 == 0) = false := beq_eq_false_iff_ne.mpr c24; have c24b1 : (10 != 0) = true := bne_iff_ne.mpr c24
             simp only [Option.some.injEq, Prod.mk.injEq] at H
             obtain ⟨rfl, rfl⟩ := H
             go_wp2
             repeat (go_quiet (fail); try go_wp2)
             go_ret2
             exact ⟨by first | rfl | (simp [errW_none, errW_some] <;> rfl) | (simp [*, errW_none, errW_some] <;> rfl), by with_reducible repeat first | exact HB.out | apply zA | apply zN | apply zD | refine zS ?_ GE108.out⟩
           ·
            replace c23 := Bool.eq_false_iff.mpr c23; subst c23; have H1 : (if x9_1 > 0 then (if 0 ≤ (wrap64 (x9_1 - 1)) then (if (wrap64 (x9_1 - 1)) < (l0.length : Int) then (attrs_Check.j2 kj14 l0 x9_1 0 l0 (l0.length : Int) x9_1 (Op.bytesLess ((rd_T69 l0 x9_1).f0).toList (((rd_T69 l0 (wrap64 (x9_1 - 1))).f0).toList))) else (none)) else (none)) else (attrs_Check.j2 kj14 l0 x9_1 0 l0 (l0.length : Int) x9_1 false)) = some (r1, r2) := by rw [if_neg (show ¬ (false = true) by decide)] at H; exact H
            clear H; have H := H1; clear H1; have HC25 := Aside0.mk H; clear H
            go_upto_region 13 with (fail)
            repeat (go_quiet (fail); go_upto_region 13 with (fail))
            go_cut [41] (fun v41 wc => ∃ (kq : Nat) (x41_24 : Bool), v41 = .bool x41_24 ∧ Aside0 (attrs_Check.j2 kq l0 x9_1 0 l0 (l0.length : Int) x9_1 x41_24 = some (r1, r2)) ∧ Aside0 (kq ≤ kj14) ∧ Aside0 (wc.heap[gb108]? = some (.cells #[.string ((rd_T69 l0 x9_1).f0), .string ((rd_T69 l0 x9_1).f1)] 69 (0, 0))) ∧ Aside0 (Below w.heap.size w wc))
            case first =>
             have H := HC25.out; clear HC25
             by_cases c26 : x9_1 > 0
             ·
              rw [if_pos c26] at H
              have c26b0 : decide (0 < x9_1) = true := decide_eq_true c26; clear c26
              (first | rw [c26b0] | (simp only [i64_w, i32_w]; rw [c26b0]) | skip)
              obtain ⟨ji27, hji27⟩ : ∃ j_ : Int, (wrap64 (x9_1 - 1)) = j_ := ⟨_, rfl⟩; replace H : (if 0 ≤ (ji27) then (if (ji27) < (l0.length : Int) then (attrs_Check.j2 kj14 l0 x9_1 0 l0 (l0.length : Int) x9_1 (Op.bytesLess ((rd_T69 l0 x9_1).f0).toList (((rd_T69 l0 (ji27)).f0).toList))) else (none)) else (none)) = some (r1, r2) := by first | (rw [hji27] at H; exact H) | (simp only [hji27] at H ⊢; exact H)
              have hji27w : (IntKind.i64.wrap (x9_1 - 1)) = ji27 := (i64_w _).trans hji27
              by_cases c28 : 0 ≤ (ji27)
              ·
               rw [if_pos c28] at H
               have c28b0 : decide (0 ≤ (ji27)) = true := decide_eq_true c28; clear c28
               by_cases c29 : (ji27) < (l0.length : Int)
               ·
                rw [if_pos c29] at H
                have c29b0 : decide ((ji27) < (l0.length : Int)) = true := decide_eq_true c29; clear c29; have H' := Aside0.mk H; clear H; have p112 : 0 ≤ ((ji27) : Int) := of_decide_eq_true (by assumption); have q112 : (ji27) < (l0.length : Int) := of_decide_eq_true (by assumption); obtain ⟨ad112, e112, hx112_0, hx112_1⟩ := at_T69 HR0.out (ji27) p112 q112; obtain rfl : ad107 = ad112 := (by injection e112); replace hx112_0 := zB HB hx112_0; replace hx112_1 := zB HB hx112_1; replace p112 := eq_true p112; replace q112 := eq_true q112; have hcz30_0 : wc.cell? ⟨gb108, 0, none⟩ = some (.string ((rd_T69 l0 x9_1).f0)) := (zC BK108.out 0).trans rfl; have hcz30_1 : wc.cell? ⟨gb108, 1, none⟩ = some (.string ((rd_T69 l0 x9_1).f1)) := (zC BK108.out 1).trans rfl; have hfz30_0 := zR BK108.out 0; have hfz30_1 := zR BK108.out 1
                go_wp2
                repeat (go_quiet (fail); try go_wp2)
                go_meet
                case rel => exact ⟨_, ((Op.bytesLess ((rd_T69 l0 x9_1).f0).toList (((rd_T69 l0 (ji27)).f0).toList))), (by first | rfl | (simp; done) | (simp only [← hji27] <;> (first | rfl | simp)) | (simp [*]; done)), H', ⟨by have := HK1.out; have := HJ14.out; first | omega | exact Nat.le_refl _⟩, ⟨by (with_reducible repeat first | apply zM | apply zE | apply zF); exact BK108.out⟩, ⟨by with_reducible repeat first | exact HB.out | apply zA | apply zN | apply zD | refine zS ?_ GE108.out⟩⟩
               ·
                rw [if_neg c29] at H
                exact absurd H (by simp)
              ·
               rw [if_neg c28] at H
               exact absurd H (by simp)
             ·
              rw [if_neg c26] at H
              have c26b0 : decide (0 < x9_1) = false := decide_eq_false c26; clear c26
              (first | rw [c26b0] | (simp only [i64_w, i32_w]; rw [c26b0]) | skip)
              have H' := Aside0.mk H; clear H
              go_wp2
              repeat (go_quiet (fail); try go_wp2)
              go_meet
              case rel => exact ⟨_, (false), (by first | rfl | (simp; done) | (simp [*]; done)), H', ⟨by have := HK1.out; have := HJ14.out; first | omega | exact Nat.le_refl _⟩, ⟨by (with_reducible repeat first | apply zM | apply zE | apply zF); exact BK108.out⟩, ⟨by with_reducible repeat first | exact HB.out | apply zA | apply zN | apply zD | refine zS ?_ GE108.out⟩⟩
            case rest =>
             clear HC25
             try clear c1
             try clear p1
             try clear q1
             try clear hx1
             try clear c2
             try clear c2b0
             try clear p2
             try clear c3
             try clear c3b0
             try clear c4
             try clear c4b0
             try clear c5
             try clear c5b0
             try clear c5b1
             try clear c6
             try clear c6b0
             try clear c6b1
             try clear p6
             try clear p10
             try clear q10
             try clear hx10
             try clear p11
             try clear q11
             try clear hx11
             try clear c12
             try clear c14
             try clear c18
             try clear c18b0
             try clear c20
             try clear c20b0
             try clear c21
             try clear c21b0
             try clear c23
             try clear c24
             try clear c24b0
             try clear c24b1
             try clear c26
             try clear c26b0
             try clear c28
             try clear c28b0
             try clear c29
             try clear c29b0
             try clear hx107_0
             try clear hx107_1
             try clear hx111_0
             try clear hx111_1
             try clear hx112_0
             try clear hx112_1
             try clear p1
             try clear p10
             try clear p107
             try clear p11
             try clear p111
             try clear p112
             try clear p2
             try clear p6
             try clear q1
             try clear q10
             try clear q107
             try clear q11
             try clear q111
             try clear q112
             obtain ⟨kq, x41_24, rfl, HA, HJ24, BK108, HB⟩ := hcut; cases kq with
             | zero => exact absurd HA.out (by simp [attrs_Check.j2])
             | succ kj24 =>
              have H := HA.out; clear HA
              simp only [attrs_Check.j2] at H
              by_cases c31 : x41_24 = true
              ·
               subst c31; have H1 : (if 9 = 0 then (attrs_Check.l0 kj24 l0 l0 (l0.length : Int) (wrap64 (x9_1 + 1))) else (some (x9_1, 9))) = some (r1, r2) := by rw [if_pos rfl] at H; exact H
               clear H; have H := H1; clear H1
               by_cases c32 : 9 = 0
               ·
                exact absurd c32 (by decide)
               ·
                rw [if_neg c32] at H
                have c32b0 : (9 == 0) = false := beq_eq_false_iff_ne.mpr c32; have c32b1 : (9 != 0) = true := bne_iff_ne.mpr c32
                simp only [Option.some.injEq, Prod.mk.injEq] at H
                obtain ⟨rfl, rfl⟩ := H
                go_wp2
                repeat (go_quiet (fail); try go_wp2)
                go_ret2
                exact ⟨by first | rfl | (simp [errW_none, errW_some] <;> rfl) | (simp [*, errW_none, errW_some] <;> rfl), by with_reducible repeat first | exact HB.out | apply zA | apply zN | apply zD | refine zS ?_ GE108.out⟩
              ·
               replace c31 := Bool.eq_false_iff.mpr c31; subst c31; have H1 : (if 0 = 0 then (attrs_Check.l0 kj24 l0 l0 (l0.length : Int) (wrap64 (x9_1 + 1))) else (some (x9_1, 0))) = some (r1, r2) := by rw [if_neg (show ¬ (false = true) by decide)] at H; exact H
               clear H; have H := H1; clear H1
               by_cases c33 : 0 = 0
               ·
                rw [if_pos c33] at H
                have c33b0 : (0 == 0) = true := beq_iff_eq.mpr c33; have c33b1 : (0 != 0) = false := bne_eq_false_iff_eq.mpr c33; clear c33; have H' := Aside0.mk H; clear H
                go_wp2
                repeat (go_quiet (fail); try go_wp2)
                go_roundg kj24
                case measure => have := HK1.out; have := HJ14.out; have := HJ24.out; omega
                case rel => exact ⟨(wrap64 (x9_1 + 1)), (by first | rfl | (simp; done) | (simp [*]; done)), H', ⟨by have := HK1.out; have := HJ14.out; have := HJ24.out; omega⟩, ⟨by with_reducible repeat first | exact HB.out | apply zA | apply zN | apply zD | refine zS ?_ GE108.out⟩⟩
               ·
                exact absurd (by decide) c33
        ·
         replace c14 := Bool.eq_false_iff.mpr c14; subst c14; have H1 : (if 3 = 0 then (attrs_Check.l0 k1 l0 l0 (l0.length : Int) (wrap64 (x9_1 + 1))) else (some (x9_1, 3))) = some (r1, r2) := by rw [if_neg (show ¬ (false = true) by decide)] at H; exact H
         clear H; have H := H1; clear H1
         by_cases c34 : 3 = 0
         ·
          exact absurd c34 (by decide)
         ·
          rw [if_neg c34] at H
          have c34b0 : (3 == 0) = false := beq_eq_false_iff_ne.mpr c34; have c34b1 : (3 != 0) = true := bne_iff_ne.mpr c34
          simp only [Option.some.injEq, Prod.mk.injEq] at H
          obtain ⟨rfl, rfl⟩ := H; have p107 : 0 ≤ (x9_1 : Int) := of_decide_eq_true (by assumption); have q107 : x9_1 < (l0.length : Int) := of_decide_eq_true (by assumption); obtain ⟨ad107, e107, hx107_0, hx107_1⟩ := at_T69 HR0.out x9_1 p107 q107; cases e107; replace hx107_0 := zB HB hx107_0; replace hx107_1 := zB HB hx107_1; replace p107 := eq_true p107; replace q107 := eq_true q107
          go_wp2_with (first | ((with_reducible refine gate_dst (N := 5) rfl ?_); refine box_event ?hg (N := 5) ?hd (cs := #[.string ⟨#[]⟩, .string ⟨#[]⟩]) (t := 69) ?hr ?_; (case hd => rfl); (case hg => rfl); (case hr => first | (go_simp; done) | (go_simp; rfl)); intro gb108 hg w37 hbox hb; have n0_ := Aside0.mk (below_step (by with_reducible repeat first | exact HB.out | apply zA | apply zN | apply zD) hb); have n1_ := Aside0.mk (hbox); have n2_ := Aside0.mk ((by rw [hg]; exact (below_size (by with_reducible repeat first | exact HB.out | apply zA | apply zN | apply zD)) : w.heap.size ≤ gb108)); have n3_ := n2_; clear HB; have HB := n0_; have BK108 := n1_; have GW108 := n2_; have GE108 := n3_; clear n0_ n1_ n2_ n3_; clear hb hbox hg; have hcz38_0 : w37.cell? ⟨gb108, 0, none⟩ = some (.string ⟨#[]⟩) := (zC BK108.out 0).trans rfl; have hcz38_1 : w37.cell? ⟨gb108, 1, none⟩ = some (.string ⟨#[]⟩) := (zC BK108.out 1).trans rfl; have hfz38_0 := zR BK108.out 0; have hfz38_1 := zR BK108.out 1) | (go_at_call 59; (with_reducible refine (chars_Name.calls k1 ((rd_T69 l0 x9_1).f0) true _ A11.out).mono ?_); rintro e w' ⟨rfl, ⟨nd, rfl⟩⟩; (try first | exact ⟨rfl, _, World.drewN_drewN _ _ _⟩ | exact ⟨rfl, _, Eq.trans (World.drewN_drewN _ _ _) (congrArg (World.drewN _) (Nat.add_assoc _ _ _))⟩)) | (go_at_call 56; (with_reducible refine (chars_Fits.calls ((rd_T69 l0 x9_1).f1) false _ A13.out).mono ?_); rintro e w' ⟨rfl, ⟨nd, rfl⟩⟩; (try first | exact ⟨rfl, _, World.drewN_drewN _ _ _⟩ | exact ⟨rfl, _, Eq.trans (World.drewN_drewN _ _ _) (congrArg (World.drewN _) (Nat.add_assoc _ _ _))⟩)))
          repeat (go_quiet (first | ((with_reducible refine gate_dst (N := 5) rfl ?_); refine box_event ?hg (N := 5) ?hd (cs := #[.string ⟨#[]⟩, .string ⟨#[]⟩]) (t := 69) ?hr ?_; (case hd => rfl); (case hg => rfl); (case hr => first | (go_simp; done) | (go_simp; rfl)); intro gb108 hg w37 hbox hb; have n0_ := Aside0.mk (below_step (by with_reducible repeat first | exact HB.out | apply zA | apply zN | apply zD) hb); have n1_ := Aside0.mk (hbox); have n2_ := Aside0.mk ((by rw [hg]; exact (below_size (by with_reducible repeat first | exact HB.out | apply zA | apply zN | apply zD)) : w.heap.size ≤ gb108)); have n3_ := n2_; clear HB; have HB := n0_; have BK108 := n1_; have GW108 := n2_; have GE108 := n3_; clear n0_ n1_ n2_ n3_; clear hb hbox hg; have hcz38_0 : w37.cell? ⟨gb108, 0, none⟩ = some (.string ⟨#[]⟩) := (zC BK108.out 0).trans rfl; have hcz38_1 : w37.cell? ⟨gb108, 1, none⟩ = some (.string ⟨#[]⟩) := (zC BK108.out 1).trans rfl; have hfz38_0 := zR BK108.out 0; have hfz38_1 := zR BK108.out 1) | (go_at_call 59; (with_reducible refine (chars_Name.calls k1 ((rd_T69 l0 x9_1).f0) true _ A11.out).mono ?_); rintro e w' ⟨rfl, ⟨nd, rfl⟩⟩; (try first | exact ⟨rfl, _, World.drewN_drewN _ _ _⟩ | exact ⟨rfl, _, Eq.trans (World.drewN_drewN _ _ _) (congrArg (World.drewN _) (Nat.add_assoc _ _ _))⟩)) | (go_at_call 56; (with_reducible refine (chars_Fits.calls ((rd_T69 l0 x9_1).f1) false _ A13.out).mono ?_); rintro e w' ⟨rfl, ⟨nd, rfl⟩⟩; (try first | exact ⟨rfl, _, World.drewN_drewN _ _ _⟩ | exact ⟨rfl, _, Eq.trans (World.drewN_drewN _ _ _) (congrArg (World.drewN _) (Nat.add_assoc _ _ _))⟩))); try go_wp2_with (first | ((with_reducible refine gate_dst (N := 5) rfl ?_); refine box_event ?hg (N := 5) ?hd (cs := #[.string ⟨#[]⟩, .string ⟨#[]⟩]) (t := 69) ?hr ?_; (case hd => rfl); (case hg => rfl); (case hr => first | (go_simp; done) | (go_simp; rfl)); intro gb108 hg w37 hbox hb; have n0_ := Aside0.mk (below_step (by with_reducible repeat first | exact HB.out | apply zA | apply zN | apply zD) hb); have n1_ := Aside0.mk (hbox); have n2_ := Aside0.mk ((by rw [hg]; exact (below_size (by with_reducible repeat first | exact HB.out | apply zA | apply zN | apply zD)) : w.heap.size ≤ gb108)); have n3_ := n2_; clear HB; have HB := n0_; have BK108 := n1_; have GW108 := n2_; have GE108 := n3_; clear n0_ n1_ n2_ n3_; clear hb hbox hg; have hcz38_0 : w37.cell? ⟨gb108, 0, none⟩ = some (.string ⟨#[]⟩) := (zC BK108.out 0).trans rfl; have hcz38_1 : w37.cell? ⟨gb108, 1, none⟩ = some (.string ⟨#[]⟩) := (zC BK108.out 1).trans rfl; have hfz38_0 := zR BK108.out 0; have hfz38_1 := zR BK108.out 1) | (go_at_call 59; (with_reducible refine (chars_Name.calls k1 ((rd_T69 l0 x9_1).f0) true _ A11.out).mono ?_); rintro e w' ⟨rfl, ⟨nd, rfl⟩⟩; (try first | exact ⟨rfl, _, World.drewN_drewN _ _ _⟩ | exact ⟨rfl, _, Eq.trans (World.drewN_drewN _ _ _) (congrArg (World.drewN _) (Nat.add_assoc _ _ _))⟩)) | (go_at_call 56; (with_reducible refine (chars_Fits.calls ((rd_T69 l0 x9_1).f1) false _ A13.out).mono ?_); rintro e w' ⟨rfl, ⟨nd, rfl⟩⟩; (try first | exact ⟨rfl, _, World.drewN_drewN _ _ _⟩ | exact ⟨rfl, _, Eq.trans (World.drewN_drewN _ _ _) (congrArg (World.drewN _) (Nat.add_assoc _ _ _))⟩))))
          go_ret2
          exact ⟨by first | rfl | (simp [errW_none, errW_some] <;> rfl) | (simp [*, errW_none, errW_some] <;> rfl), by with_reducible repeat first | exact HB.out | apply zA | apply zN | apply zD | refine zS ?_ GE108.out⟩
       ·
        replace c12 := Bool.eq_false_iff.mpr c12; subst c12; have H1 : (if 8 = 0 then (attrs_Check.l0 k1 l0 l0 (l0.length : Int) (wrap64 (x9_1 + 1))) else (some (x9_1, 8))) = some (r1, r2) := by rw [if_neg (show ¬ (false = true) by decide)] at H; exact H
        clear H; have H := H1; clear H1
        by_cases c39 : 8 = 0
        ·
         exact absurd c39 (by decide)
        ·
         rw [if_neg c39] at H
         have c39b0 : (8 == 0) = false := beq_eq_false_iff_ne.mpr c39; have c39b1 : (8 != 0) = true := bne_iff_ne.mpr c39
         simp only [Option.some.injEq, Prod.mk.injEq] at H
         obtain ⟨rfl, rfl⟩ := H; have p107 : 0 ≤ (x9_1 : Int) := of_decide_eq_true (by assumption); have q107 : x9_1 < (l0.length : Int) := of_decide_eq_true (by assumption); obtain ⟨ad107, e107, hx107_0, hx107_1⟩ := at_T69 HR0.out x9_1 p107 q107; cases e107; replace hx107_0 := zB HB hx107_0; replace hx107_1 := zB HB hx107_1; replace p107 := eq_true p107; replace q107 := eq_true q107
         go_wp2_with (first | ((with_reducible refine gate_dst (N := 5) rfl ?_); refine box_event ?hg (N := 5) ?hd (cs := #[.string ⟨#[]⟩, .string ⟨#[]⟩]) (t := 69) ?hr ?_; (case hd => rfl); (case hg => rfl); (case hr => first | (go_simp; done) | (go_simp; rfl)); intro gb108 hg w42 hbox hb; have n0_ := Aside0.mk (below_step (by with_reducible repeat first | exact HB.out | apply zA | apply zN | apply zD) hb); have n1_ := Aside0.mk (hbox); have n2_ := Aside0.mk ((by rw [hg]; exact (below_size (by with_reducible repeat first | exact HB.out | apply zA | apply zN | apply zD)) : w.heap.size ≤ gb108)); have n3_ := n2_; clear HB; have HB := n0_; have BK108 := n1_; have GW108 := n2_; have GE108 := n3_; clear n0_ n1_ n2_ n3_; clear hb hbox hg; have hcz43_0 : w42.cell? ⟨gb108, 0, none⟩ = some (.string ⟨#[]⟩) := (zC BK108.out 0).trans rfl; have hcz43_1 : w42.cell? ⟨gb108, 1, none⟩ = some (.string ⟨#[]⟩) := (zC BK108.out 1).trans rfl; have hfz43_0 := zR BK108.out 0; have hfz43_1 := zR BK108.out 1) | (go_at_call 59; (with_reducible refine (chars_Name.calls k1 ((rd_T69 l0 x9_1).f0) false _ A11.out).mono ?_); rintro e w' ⟨rfl, ⟨nd, rfl⟩⟩; (try first | exact ⟨rfl, _, World.drewN_drewN _ _ _⟩ | exact ⟨rfl, _, Eq.trans (World.drewN_drewN _ _ _) (congrArg (World.drewN _) (Nat.add_assoc _ _ _))⟩)))
         repeat (go_quiet (first | ((with_reducible refine gate_dst (N := 5) rfl ?_); refine box_event ?hg (N := 5) ?hd (cs := #[.string ⟨#[]⟩, .string ⟨#[]⟩]) (t := 69) ?hr ?_; (case hd => rfl); (case hg => rfl); (case hr => first | (go_simp; done) | (go_simp; rfl)); intro gb108 hg w42 hbox hb; have n0_ := Aside0.mk (below_step (by with_reducible repeat first | exact HB.out | apply zA | apply zN | apply zD) hb); have n1_ := Aside0.mk (hbox); have n2_ := Aside0.mk ((by rw [hg]; exact (below_size (by with_reducible repeat first | exact HB.out | apply zA | apply zN | apply zD)) : w.heap.size ≤ gb108)); have n3_ := n2_; clear HB; have HB := n0_; have BK108 := n1_; have GW108 := n2_; have GE108 := n3_; clear n0_ n1_ n2_ n3_; clear hb hbox hg; have hcz43_0 : w42.cell? ⟨gb108, 0, none⟩ = some (.string ⟨#[]⟩) := (zC BK108.out 0).trans rfl; have hcz43_1 : w42.cell? ⟨gb108, 1, none⟩ = some (.string ⟨#[]⟩) := (zC BK108.out 1).trans rfl; have hfz43_0 := zR BK108.out 0; have hfz43_1 := zR BK108.out 1) | (go_at_call 59; (with_reducible refine (chars_Name.calls k1 ((rd_T69 l0 x9_1).f0) false _ A11.out).mono ?_); rintro e w' ⟨rfl, ⟨nd, rfl⟩⟩; (try first | exact ⟨rfl, _, World.drewN_drewN _ _ _⟩ | exact ⟨rfl, _, Eq.trans (World.drewN_drewN _ _ _) (congrArg (World.drewN _) (Nat.add_assoc _ _ _))⟩))); try go_wp2_with (first | ((with_reducible refine gate_dst (N := 5) rfl ?_); refine box_event ?hg (N := 5) ?hd (cs := #[.string ⟨#[]⟩, .string ⟨#[]⟩]) (t := 69) ?hr ?_; (case hd => rfl); (case hg => rfl); (case hr => first | (go_simp; done) | (go_simp; rfl)); intro gb108 hg w42 hbox hb; have n0_ := Aside0.mk (below_step (by with_reducible repeat first | exact HB.out | apply zA | apply zN | apply zD) hb); have n1_ := Aside0.mk (hbox); have n2_ := Aside0.mk ((by rw [hg]; exact (below_size (by with_reducible repeat first | exact HB.out | apply zA | apply zN | apply zD)) : w.heap.size ≤ gb108)); have n3_ := n2_; clear HB; have HB := n0_; have BK108 := n1_; have GW108 := n2_; have GE108 := n3_; clear n0_ n1_ n2_ n3_; clear hb hbox hg; have hcz43_0 : w42.cell? ⟨gb108, 0, none⟩ = some (.string ⟨#[]⟩) := (zC BK108.out 0).trans rfl; have hcz43_1 : w42.cell? ⟨gb108, 1, none⟩ = some (.string ⟨#[]⟩) := (zC BK108.out 1).trans rfl; have hfz43_0 := zR BK108.out 0; have hfz43_1 := zR BK108.out 1) | (go_at_call 59; (with_reducible refine (chars_Name.calls k1 ((rd_T69 l0 x9_1).f0) false _ A11.out).mono ?_); rintro e w' ⟨rfl, ⟨nd, rfl⟩⟩; (try first | exact ⟨rfl, _, World.drewN_drewN _ _ _⟩ | exact ⟨rfl, _, Eq.trans (World.drewN_drewN _ _ _) (congrArg (World.drewN _) (Nat.add_assoc _ _ _))⟩))))
         go_ret2
         exact ⟨by first | rfl | (simp [errW_none, errW_some] <;> rfl) | (simp [*, errW_none, errW_some] <;> rfl), by with_reducible repeat first | exact HB.out | apply zA | apply zN | apply zD | refine zS ?_ GE108.out⟩
     ·
      rw [if_neg c4] at H
      exact absurd H (by simp)
    ·
     rw [if_neg c3] at H
     exact absurd H (by simp)
   ·
    rw [if_neg c2] at H
    have c2b0 : decide (x9_1 < (l0.length : Int)) = false := decide_eq_false c2; clear c2
    simp only [Option.some.injEq, Prod.mk.injEq] at H
    obtain ⟨rfl, rfl⟩ := H
    go_wp2
    repeat (go_quiet (fail); try go_wp2)
    go_ret2
    exact ⟨by first | rfl | (simp [errW_none, errW_some] <;> rfl) | (simp [*, errW_none, errW_some] <;> rfl), by with_reducible repeat first | exact HB.out | apply zA | apply zN | apply zD⟩
/-! ### vtree_wrong: function 52 -/
def vtree_wrong.f (k : Nat) (a0_0 : ByteArray) (a0_1 : ByteArray) (a0_2 : ByteArray) (l0_3 : List (S69)) (l0_4 : List (S25)) : Option (Int) := (chars_Tag.f k a0_0).bind fun t114 => (if t114 = true then ((chars_Fits.f a0_1).bind fun t115 => (if t115 = true then ((chars_Fits.f a0_2).bind fun t116 => (if t116 = true then ((attrs_Check.f k l0_3).bind fun bt117 => (some bt117.2)) else (some 3))) else (some 3))) else (some 7))
theorem vtree_wrong.mono : ∀ a0 a1 a2 a3 a4 k, LeO (vtree_wrong.f k a0 a1 a2 a3 a4) (vtree_wrong.f (k + 1) a0 a1 a2 a3 a4) := by
  intro a0 a1 a2 a3 a4 k
  unfold vtree_wrong.f
  repeat' first
      | (with_reducible exact attrs_Check.mono _ _)
      | (with_reducible exact chars_Tag.mono _ _)
      | (with_reducible exact LeO.refl _)
      | (with_reducible exact LeO.none _)
      | (with_reducible refine LeO.ite ?_ ?_)
      | (with_reducible refine LeO.bind ?_ (fun _ => ?_))
set_option maxHeartbeats 8000000 in
set_option maxRecDepth 100000 in
theorem vtree_wrong.calls (k : Nat) (a0_0 : ByteArray) (a0_1 : ByteArray) (a0_2 : ByteArray) (A0_3 : Option Addr) (c0_3 : Nat) (l0_3 : List (S69)) (A0_4 : Option Addr) (c0_4 : Nat) (l0_4 : List (S25)) (r : Int) (w : World) (hr0_3 : Kd.C k69 w A0_3 l0_3.length l0_3) (hc0_3 : l0_3.length ≤ c0_3) (hr0_4 : Kd.C k25 w A0_4 l0_4.length l0_4) (hc0_4 : l0_4.length ≤ c0_4) (h : vtree_wrong.f k a0_0 a0_1 a0_2 l0_3 l0_4 = some r) :
    Calls Try.prog 52 #[.agg #[.string a0_0, .string a0_1, .string a0_2, .slice A0_3 l0_3.length c0_3, .slice A0_4 l0_4.length c0_4]] w fun e w' => e = .returned (.int .i64 r) ∧ Below w.heap.size w w' := by
  have hu25 := Try.underlying25
  have HR0_3 := Aside0.mk hr0_3
  have HC0_3 := Aside0.mk hc0_3
  clear hr0_3 hc0_3
  have HR0_4 := Aside0.mk hr0_4
  have HC0_4 := Aside0.mk hc0_4
  clear hr0_4 hc0_4
  have HB := Aside0.mk (Below.refl w.heap.size w)
  have H : ((chars_Tag.f k a0_0).bind fun t114 => (if t114 = true then ((chars_Fits.f a0_1).bind fun t115 => (if t115 = true then ((chars_Fits.f a0_2).bind fun t116 => (if t116 = true then ((attrs_Check.f k l0_3).bind fun bt117 => (some bt117.2)) else (some 3))) else (some 3))) else (some 7))) = some r := h
  clear h
  replace H := Option.bind_eq_some_iff.mp H
  obtain ⟨t114, A20, H⟩ := H
  replace H : (if t114 = true then ((chars_Fits.f a0_1).bind fun t115 => (if t115 = true then ((chars_Fits.f a0_2).bind fun t116 => (if t116 = true then ((attrs_Check.f k l0_3).bind fun bt117 => (some bt117.2)) else (some 3))) else (some 3))) else (some 7)) = some r := H
  have A2 := Aside0.mk A20
  clear A20
  by_cases c3 : t114 = true
  · subst c3
    have H1 : ((chars_Fits.f a0_1).bind fun t115 => (if t115 = true then ((chars_Fits.f a0_2).bind fun t116 => (if t116 = true then ((attrs_Check.f k l0_3).bind fun bt117 => (some bt117.2)) else (some 3))) else (some 3))) = some r := by rw [if_pos rfl] at H; exact H
    clear H; have H := H1; clear H1; replace H := Option.bind_eq_some_iff.mp H; obtain ⟨t115, A40, H⟩ := H; replace H : (if t115 = true then ((chars_Fits.f a0_2).bind fun t116 => (if t116 = true then ((attrs_Check.f k l0_3).bind fun bt117 => (some bt117.2)) else (some 3))) else (some 3)) = some r := H; have A4 := Aside0.mk A40; clear A40
    by_cases c5 : t115 = true
    · subst c5
      have H1 : ((chars_Fits.f a0_2).bind fun t116 => (if t116 = true then ((attrs_Check.f k l0_3).bind fun bt117 => (some bt117.2)) else (some 3))) = some r := by rw [if_pos rfl] at H; exact H
      clear H; have H := H1; clear H1; replace H := Option.bind_eq_some_iff.mp H; obtain ⟨t116, A60, H⟩ := H; replace H : (if t116 = true then ((attrs_Check.f k l0_3).bind fun bt117 => (some bt117.2)) else (some 3)) = some r := H; have A6 := Aside0.mk A60; clear A60
      by_cases c7 : t116 = true
      · subst c7
        have H1 : ((attrs_Check.f k l0_3).bind fun bt117 => (some bt117.2)) = some r := by rw [if_pos rfl] at H; exact H
        clear H; have H := H1; clear H1; replace H := Option.bind_eq_some_iff.mp H; obtain ⟨⟨t117, t118⟩, A80, H⟩ := H; replace H : (some t118) = some r := H; have A8 := Aside0.mk A80; clear A80; obtain rfl := Option.some.inj H
        go_enter Try.func52, Try.ntmps52
        go_wp2_with (first | ((with_reducible refine gate_dst (N := 1) rfl ?_); refine box_event ?hg (N := 1) ?hd (cs := #[.string a0_0, .string a0_1, .string a0_2, .slice A0_3 l0_3.length c0_3, .slice A0_4 l0_4.length c0_4]) (t := 25) ?hr ?_; (case hd => rfl); (case hg => rfl); (case hr => first | (go_simp; done) | (go_simp; rfl)); intro gb113 hg w9 hbox hb; have n0_ := Aside0.mk (below_step (by with_reducible repeat first | exact HB.out | apply below_alloc | apply pw_below_drewN | apply below_drew1) hb); have n1_ := Aside0.mk (hbox); have n2_ := Aside0.mk ((by rw [hg]; exact (below_size (by with_reducible repeat first | exact HB.out | apply below_alloc | apply pw_below_drewN | apply below_drew1)) : w.heap.size ≤ gb113)); have n3_ := n2_; clear HB; have HB := n0_; have BK113 := n1_; have GW113 := n2_; have GE113 := n3_; clear n0_ n1_ n2_ n3_; clear hb hbox hg; have hcz10_0 : w9.cell? ⟨gb113, 0, none⟩ = some (.string a0_0) := (blk_cell BK113.out 0).trans rfl; have hcz10_1 : w9.cell? ⟨gb113, 1, none⟩ = some (.string a0_1) := (blk_cell BK113.out 1).trans rfl; have hcz10_2 : w9.cell? ⟨gb113, 2, none⟩ = some (.string a0_2) := (blk_cell BK113.out 2).trans rfl; have hcz10_3 : w9.cell? ⟨gb113, 3, none⟩ = some (.slice A0_3 l0_3.length c0_3) := (blk_cell BK113.out 3).trans rfl; have hcz10_4 : w9.cell? ⟨gb113, 4, none⟩ = some (.slice A0_4 l0_4.length c0_4) := (blk_cell BK113.out 4).trans rfl; have hfz10_0 := blk_frozen BK113.out 0; have hfz10_1 := blk_frozen BK113.out 1; have hfz10_2 := blk_frozen BK113.out 2; have hfz10_3 := blk_frozen BK113.out 3; have hfz10_4 := blk_frozen BK113.out 4) | ((with_reducible refine gate_callee (f := 55) rfl ?_); refine goesL_ (some 8) rfl rfl Try.func55 (by kernel_rfl) rfl #[.string a0_0] rfl (by (try simp only [List.map_toArray, List.map_cons, List.map_nil]); first | done | rfl | (simp only [List.length_drop, List.length_take]; rfl)) ?_; (with_reducible refine (chars_Tag.calls k a0_0 true _ A2.out).mono ?_); rintro e w' ⟨rfl, ⟨nd, rfl⟩⟩; refine ⟨_, rfl, ?_⟩) | ((with_reducible refine gate_callee (f := 56) rfl ?_); refine goesL_ (some 13) rfl rfl Try.func56 (by kernel_rfl) rfl #[.string a0_1] rfl (by (try simp only [List.map_toArray, List.map_cons, List.map_nil]); first | done | rfl | (simp only [List.length_drop, List.length_take]; rfl)) ?_; (with_reducible refine (chars_Fits.calls a0_1 true _ A4.out).mono ?_); rintro e w' ⟨rfl, ⟨nd, rfl⟩⟩; refine ⟨_, rfl, ?_⟩) | (go_at_call 56; (with_reducible refine (chars_Fits.calls a0_2 true _ A6.out).mono ?_); rintro e w' ⟨rfl, ⟨nd, rfl⟩⟩) | ((with_reducible refine gate_callee (f := 57) rfl ?_); refine goesL_ (some 24) rfl rfl Try.func57 (by kernel_rfl) rfl #[.slice A0_3 l0_3.length c0_3] rfl (by (try simp only [List.map_toArray, List.map_cons, List.map_nil]); first | done | rfl | (simp only [List.length_drop, List.length_take]; rfl)) ?_; (with_reducible refine (attrs_Check.calls k _ _ l0_3 t117 t118 _ ?side1 ?side2 A8.out).mono ?_); (case side1 => repeat (first | exact (Kd.C_below HR0_3.out (by with_reducible repeat first | exact HB.out | apply below_alloc | apply pw_below_drewN | apply below_drew1 | refine below_set ?_ GE113.out)) | (with_reducible refine Kd.C_alloc ?_ _) | (with_reducible refine Kd.C_drewN ?_ _) | (with_reducible refine Kd.C_drew ?_))); (case side2 => exact HC0_3.out); rintro e w11 ⟨rfl, hb⟩; refine ⟨_, rfl, ?_⟩; have n0_ := Aside0.mk (blk_below (g := gb113) (o := .cells #[.string a0_0, .string a0_1, .string a0_2, .slice A0_3 l0_3.length c0_3, .slice A0_4 l0_4.length c0_4] 25 (0, 0)) (by (with_reducible repeat (first | refine blk_drewN ?_ _ | refine blk_drew ?_ | refine blk_alloc ?_ _)); exact BK113.out) hb); have n1_ := Aside0.mk (below_step (by with_reducible repeat first | exact HB.out | apply below_alloc | apply pw_below_drewN | apply below_drew1 | refine below_set ?_ GE113.out) hb); clear BK113; clear HB; have BK113 := n0_; have HB := n1_; clear n0_ n1_; (try clear hb); (try clear hb2); (try clear hk); (try clear hi)))
        go_ret
        exact ⟨by first | rfl | (simp [errW_none, errW_some] <;> rfl) | (simp [*, errW_none, errW_some] <;> rfl), by with_reducible repeat first | exact HB.out | apply below_alloc | apply pw_below_drewN | apply below_drew1 | refine below_set ?_ GE113.out⟩
      · replace c7 := Bool.eq_false_iff.mpr c7
        subst c7; have H1 : (some 3) = some r := by rw [if_neg (show ¬ (false = true) by decide)] at H; exact H
        clear H; have H := H1; clear H1; obtain rfl := Option.some.inj H
        go_enter Try.func52, Try.ntmps52
        go_wp2_with (first | ((with_reducible refine gate_dst (N := 1) rfl ?_); refine box_event ?hg (N := 1) ?hd (cs := #[.string a0_0, .string a0_1, .string a0_2, .slice A0_3 l0_3.length c0_3, .slice A0_4 l0_4.length c0_4]) (t := 25) ?hr ?_; (case hd => rfl); (case hg => rfl); (case hr => first | (go_simp; done) | (go_simp; rfl)); intro gb113 hg w12 hbox hb; have n0_ := Aside0.mk (below_step (by with_reducible repeat first | exact HB.out | apply below_alloc | apply pw_below_drewN | apply below_drew1) hb); have n1_ := Aside0.mk (hbox); have n2_ := Aside0.mk ((by rw [hg]; exact (below_size (by with_reducible repeat first | exact HB.out | apply below_alloc | apply pw_below_drewN | apply below_drew1)) : w.heap.size ≤ gb113)); have n3_ := n2_; clear HB; have HB := n0_; have BK113 := n1_; have GW113 := n2_; have GE113 := n3_; clear n0_ n1_ n2_ n3_; clear hb hbox hg; have hcz13_0 : w12.cell? ⟨gb113, 0, none⟩ = some (.string a0_0) := (blk_cell BK113.out 0).trans rfl; have hcz13_1 : w12.cell? ⟨gb113, 1, none⟩ = some (.string a0_1) := (blk_cell BK113.out 1).trans rfl; have hcz13_2 : w12.cell? ⟨gb113, 2, none⟩ = some (.string a0_2) := (blk_cell BK113.out 2).trans rfl; have hcz13_3 : w12.cell? ⟨gb113, 3, none⟩ = some (.slice A0_3 l0_3.length c0_3) := (blk_cell BK113.out 3).trans rfl; have hcz13_4 : w12.cell? ⟨gb113, 4, none⟩ = some (.slice A0_4 l0_4.length c0_4) := (blk_cell BK113.out 4).trans rfl; have hfz13_0 := blk_frozen BK113.out 0; have hfz13_1 := blk_frozen BK113.out 1; have hfz13_2 := blk_frozen BK113.out 2; have hfz13_3 := blk_frozen BK113.out 3; have hfz13_4 := blk_frozen BK113.out 4) | ((with_reducible refine gate_callee (f := 55) rfl ?_); refine goesL_ (some 8) rfl rfl Try.func55 (by kernel_rfl) rfl #[.string a0_0] rfl (by (try simp only [List.map_toArray, List.map_cons, List.map_nil]); first | done | rfl | (simp only [List.length_drop, List.length_take]; rfl)) ?_; (with_reducible refine (chars_Tag.calls k a0_0 true _ A2.out).mono ?_); rintro e w' ⟨rfl, ⟨nd, rfl⟩⟩; refine ⟨_, rfl, ?_⟩) | ((with_reducible refine gate_callee (f := 56) rfl ?_); refine goesL_ (some 13) rfl rfl Try.func56 (by kernel_rfl) rfl #[.string a0_1] rfl (by (try simp only [List.map_toArray, List.map_cons, List.map_nil]); first | done | rfl | (simp only [List.length_drop, List.length_take]; rfl)) ?_; (with_reducible refine (chars_Fits.calls a0_1 true _ A4.out).mono ?_); rintro e w' ⟨rfl, ⟨nd, rfl⟩⟩; refine ⟨_, rfl, ?_⟩) | (go_at_call 56; (with_reducible refine (chars_Fits.calls a0_2 false _ A6.out).mono ?_); rintro e w' ⟨rfl, ⟨nd, rfl⟩⟩))
        go_ret
        exact ⟨by first | rfl | (simp [errW_none, errW_some] <;> rfl) | (simp [*, errW_none, errW_some] <;> rfl), by with_reducible repeat first | exact HB.out | apply below_alloc | apply pw_below_drewN | apply below_drew1 | refine below_set ?_ GE113.out⟩
    · replace c5 := Bool.eq_false_iff.mpr c5
      subst c5; have H1 : (some 3) = some r := by rw [if_neg (show ¬ (false = true) by decide)] at H; exact H
      clear H; have H := H1; clear H1; obtain rfl := Option.some.inj H
      go_enter Try.func52, Try.ntmps52
      go_wp2_with (first | ((with_reducible refine gate_dst (N := 1) rfl ?_); refine box_event ?hg (N := 1) ?hd (cs := #[.string a0_0, .string a0_1, .string a0_2, .slice A0_3 l0_3.length c0_3, .slice A0_4 l0_4.length c0_4]) (t := 25) ?hr ?_; (case hd => rfl); (case hg => rfl); (case hr => first | (go_simp; done) | (go_simp; rfl)); intro gb113 hg w14 hbox hb; have n0_ := Aside0.mk (below_step (by with_reducible repeat first | exact HB.out | apply below_alloc | apply pw_below_drewN | apply below_drew1) hb); have n1_ := Aside0.mk (hbox); have n2_ := Aside0.mk ((by rw [hg]; exact (below_size (by with_reducible repeat first | exact HB.out | apply below_alloc | apply pw_below_drewN | apply below_drew1)) : w.heap.size ≤ gb113)); have n3_ := n2_; clear HB; have HB := n0_; have BK113 := n1_; have GW113 := n2_; have GE113 := n3_; clear n0_ n1_ n2_ n3_; clear hb hbox hg; have hcz15_0 : w14.cell? ⟨gb113, 0, none⟩ = some (.string a0_0) := (blk_cell BK113.out 0).trans rfl; have hcz15_1 : w14.cell? ⟨gb113, 1, none⟩ = some (.string a0_1) := (blk_cell BK113.out 1).trans rfl; have hcz15_2 : w14.cell? ⟨gb113, 2, none⟩ = some (.string a0_2) := (blk_cell BK113.out 2).trans rfl; have hcz15_3 : w14.cell? ⟨gb113, 3, none⟩ = some (.slice A0_3 l0_3.length c0_3) := (blk_cell BK113.out 3).trans rfl; have hcz15_4 : w14.cell? ⟨gb113, 4, none⟩ = some (.slice A0_4 l0_4.length c0_4) := (blk_cell BK113.out 4).trans rfl; have hfz15_0 := blk_frozen BK113.out 0; have hfz15_1 := blk_frozen BK113.out 1; have hfz15_2 := blk_frozen BK113.out 2; have hfz15_3 := blk_frozen BK113.out 3; have hfz15_4 := blk_frozen BK113.out 4) | ((with_reducible refine gate_callee (f := 55) rfl ?_); refine goesL_ (some 8) rfl rfl Try.func55 (by kernel_rfl) rfl #[.string a0_0] rfl (by (try simp only [List.map_toArray, List.map_cons, List.map_nil]); first | done | rfl | (simp only [List.length_drop, List.length_take]; rfl)) ?_; (with_reducible refine (chars_Tag.calls k a0_0 true _ A2.out).mono ?_); rintro e w' ⟨rfl, ⟨nd, rfl⟩⟩; refine ⟨_, rfl, ?_⟩) | ((with_reducible refine gate_callee (f := 56) rfl ?_); refine goesL_ (some 13) rfl rfl Try.func56 (by kernel_rfl) rfl #[.string a0_1] rfl (by (try simp only [List.map_toArray, List.map_cons, List.map_nil]); first | done | rfl | (simp only [List.length_drop, List.length_take]; rfl)) ?_; (with_reducible refine (chars_Fits.calls a0_1 false _ A4.out).mono ?_); rintro e w' ⟨rfl, ⟨nd, rfl⟩⟩; refine ⟨_, rfl, ?_⟩))
      go_ret
      exact ⟨by first | rfl | (simp [errW_none, errW_some] <;> rfl) | (simp [*, errW_none, errW_some] <;> rfl), by with_reducible repeat first | exact HB.out | apply below_alloc | apply pw_below_drewN | apply below_drew1 | refine below_set ?_ GE113.out⟩
  · replace c3 := Bool.eq_false_iff.mpr c3
    subst c3; have H1 : (some 7) = some r := by rw [if_neg (show ¬ (false = true) by decide)] at H; exact H
    clear H; have H := H1; clear H1; obtain rfl := Option.some.inj H
    go_enter Try.func52, Try.ntmps52
    go_wp2_with (first | ((with_reducible refine gate_dst (N := 1) rfl ?_); refine box_event ?hg (N := 1) ?hd (cs := #[.string a0_0, .string a0_1, .string a0_2, .slice A0_3 l0_3.length c0_3, .slice A0_4 l0_4.length c0_4]) (t := 25) ?hr ?_; (case hd => rfl); (case hg => rfl); (case hr => first | (go_simp; done) | (go_simp; rfl)); intro gb113 hg w16 hbox hb; have n0_ := Aside0.mk (below_step (by with_reducible repeat first | exact HB.out | apply below_alloc | apply pw_below_drewN | apply below_drew1) hb); have n1_ := Aside0.mk (hbox); have n2_ := Aside0.mk ((by rw [hg]; exact (below_size (by with_reducible repeat first | exact HB.out | apply below_alloc | apply pw_below_drewN | apply below_drew1)) : w.heap.size ≤ gb113)); have n3_ := n2_; clear HB; have HB := n0_; have BK113 := n1_; have GW113 := n2_; have GE113 := n3_; clear n0_ n1_ n2_ n3_; clear hb hbox hg; have hcz17_0 : w16.cell? ⟨gb113, 0, none⟩ = some (.string a0_0) := (blk_cell BK113.out 0).trans rfl; have hcz17_1 : w16.cell? ⟨gb113, 1, none⟩ = some (.string a0_1) := (blk_cell BK113.out 1).trans rfl; have hcz17_2 : w16.cell? ⟨gb113, 2, none⟩ = some (.string a0_2) := (blk_cell BK113.out 2).trans rfl; have hcz17_3 : w16.cell? ⟨gb113, 3, none⟩ = some (.slice A0_3 l0_3.length c0_3) := (blk_cell BK113.out 3).trans rfl; have hcz17_4 : w16.cell? ⟨gb113, 4, none⟩ = some (.slice A0_4 l0_4.length c0_4) := (blk_cell BK113.out 4).trans rfl; have hfz17_0 := blk_frozen BK113.out 0; have hfz17_1 := blk_frozen BK113.out 1; have hfz17_2 := blk_frozen BK113.out 2; have hfz17_3 := blk_frozen BK113.out 3; have hfz17_4 := blk_frozen BK113.out 4) | ((with_reducible refine gate_callee (f := 55) rfl ?_); refine goesL_ (some 8) rfl rfl Try.func55 (by kernel_rfl) rfl #[.string a0_0] rfl (by (try simp only [List.map_toArray, List.map_cons, List.map_nil]); first | done | rfl | (simp only [List.length_drop, List.length_take]; rfl)) ?_; (with_reducible refine (chars_Tag.calls k a0_0 false _ A2.out).mono ?_); rintro e w' ⟨rfl, ⟨nd, rfl⟩⟩; refine ⟨_, rfl, ?_⟩))
    go_ret
    exact ⟨by first | rfl | (simp [errW_none, errW_some] <;> rfl) | (simp [*, errW_none, errW_some] <;> rfl), by with_reducible repeat first | exact HB.out | apply below_alloc | apply pw_below_drewN | apply below_drew1 | refine below_set ?_ GE113.out⟩
end Go.Proofs.Ytcebfldagnjddaa.G
