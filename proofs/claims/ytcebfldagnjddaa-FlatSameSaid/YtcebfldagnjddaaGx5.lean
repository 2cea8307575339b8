-- Written by gp.py (wip/gen) for this claim: pure functions and contracts, out of the translation; not trusted: Lean checks it.
import Derived.Test.YtcebfldagnjddaaGx0
namespace Go.Proofs.Ytcebfldagnjddaa.G
open Go.RowKit Go.Proofs.YtcebfldagnjddaaW.PrintWords Go.Proofs.YtcebfldagnjddaaW.PrintLast Go.Proofs.YtcebfldagnjddaaW.PrintMore
attribute [local go_sem] max2_int min2_int max_two min_two max_three min_three max_four min_four   -- for this text's walks alone
set_option linter.unusedVariables false
set_option linter.unusedSimpArgs false

open Go.Proofs.YtcebfldagnjddaaW.PrintWords renaming below_alloc → zA, pw_below_drewN → zN, below_drew1 → zD, below_set → zS, blk_drewN → zM, blk_drew → zE, blk_alloc → zF, blk_far → zG, blk_put → zP, blk_cell → zC, blk_frozen → zR
/-! ### flat_formed: function 33 -/
mutual
def flat_formed.l0 : Nat → List (S53) → List (S53) → Int → Int → Option (Bool)
 | 0, _, _, _, _ => none
 | k + 1, x0, x6, x7, x8 => if x8 < x7 then (if 0 ≤ x8 then (if x8 < (x6.length : Int) then (flat_formed.l1 k x0 x8 x8 x6 x7 x8 ((rd_T53 x6 x8).f0) ((rd_T53 x6 x8).f1) ((rd_T53 x6 x8).f2) ((rd_T53 x6 x8).f3) ((rd_T53 x6 x8).f4) ((rd_T53 x6 x8).f5)) else (none)) else (none)) else (some true)
def flat_formed.l1 : Nat → List (S53) → Int → Int → List (S53) → Int → Int → Int → Int → ByteArray → ByteArray → ByteArray → List (S69) → Option (Bool)
 | 0, _, _, _, _, _, _, _, _, _, _, _, _ => none
 | k + 1, x0, x3, x5, x6, x7, x8, x133000, x133001, x133002, x133003, x133004, x133005 => if x5 = 0 then (if x5 = x133001 then (if ((x5 == 0) != (x3 == 0)) = true then (some false) else (flat_formed.l0 k x0 x6 x7 (wrap64 (x8 + 1)))) else (some false)) else (if x5 = x133001 then (if ((x5 == 0) != (x3 == 0)) = true then (some false) else (flat_formed.l0 k x0 x6 x7 (wrap64 (x8 + 1)))) else (if 0 ≤ (wrap64 (x5 - 1)) then (if (wrap64 (x5 - 1)) < (x0.length : Int) then (flat_formed.l1 k x0 x3 ((rd_T53 x0 (wrap64 (x5 - 1))).f1) x6 x7 x8 x133000 x133001 x133002 x133003 x133004 x133005) else (none)) else (none)))
end
def flat_formed.f (k : Nat) (l0 : List (S53)) : Option (Bool) := flat_formed.l0 k l0 l0 (l0.length : Int) 0
theorem flat_formed.mono_l : ∀ k, (∀ y0 y1 y2 y3, LeO (flat_formed.l0 k y0 y1 y2 y3) (flat_formed.l0 (k + 1) y0 y1 y2 y3)) ∧ (∀ y0 y1 y2 y3 y4 y5 y6 y7 y8 y9 y10 y11, LeO (flat_formed.l1 k y0 y1 y2 y3 y4 y5 y6 y7 y8 y9 y10 y11) (flat_formed.l1 (k + 1) y0 y1 y2 y3 y4 y5 y6 y7 y8 y9 y10 y11))
 | 0 => ⟨fun _ _ _ _ r h => by simp [flat_formed.l0] at h, fun _ _ _ _ _ _ _ _ _ _ _ _ r h => by simp [flat_formed.l1] at h⟩
 | k + 1 => by
  obtain ⟨ih0, ih1⟩ := flat_formed.mono_l k
  refine ⟨?_, ?_⟩
  ·
   intro y0 y1 y2 y3
   unfold flat_formed.l0
   repeat' first
   | (with_reducible exact ih0 _ _ _ _)
   | (with_reducible exact ih1 _ _ _ _ _ _ _ _ _ _ _ _)
   | (with_reducible exact LeO.refl _)
   | (with_reducible exact LeO.none _)
   | (with_reducible refine LeO.ite ?_ ?_)
   | (with_reducible refine LeO.bind ?_ (fun _ => ?_))
   | exact ih0 _ _ _ _
   | exact ih1 _ _ _ _ _ _ _ _ _ _ _ _
   | exact LeO.none _
   | refine LeO.ite ?_ ?_
   | refine LeO.bind ?_ (fun _ => ?_)
  ·
   intro y0 y1 y2 y3 y4 y5 y6 y7 y8 y9 y10 y11
   unfold flat_formed.l1
   repeat' first
   | (with_reducible exact ih0 _ _ _ _)
   | (with_reducible exact ih1 _ _ _ _ _ _ _ _ _ _ _ _)
   | (with_reducible exact LeO.refl _)
   | (with_reducible exact LeO.none _)
   | (with_reducible refine LeO.ite ?_ ?_)
   | (with_reducible refine LeO.bind ?_ (fun _ => ?_))
   | exact ih0 _ _ _ _
   | exact ih1 _ _ _ _ _ _ _ _ _ _ _ _
   | exact LeO.none _
   | refine LeO.ite ?_ ?_
   | refine LeO.bind ?_ (fun _ => ?_)
theorem flat_formed.mono : ∀ a0 k, LeO (flat_formed.f k a0) (flat_formed.f (k + 1) a0) := by
 intro a0 k
 obtain ⟨ih0, ih1⟩ := flat_formed.mono_l k
 unfold flat_formed.f
 repeat' first
   | (with_reducible exact ih0 _ _ _ _)
   | (with_reducible exact ih1 _ _ _ _ _ _ _ _ _ _ _ _)
   | (with_reducible exact LeO.refl _)
   | (with_reducible exact LeO.none _)
   | (with_reducible refine LeO.ite ?_ ?_)
   | (with_reducible refine LeO.bind ?_ (fun _ => ?_))
   | exact ih0 _ _ _ _
   | exact ih1 _ _ _ _ _ _ _ _ _ _ _ _
   | exact LeO.none _
   | refine LeO.ite ?_ ?_
   | refine LeO.bind ?_ (fun _ => ?_)
set_option maxHeartbeats 8000000 in
set_option maxRecDepth 100000 in
theorem flat_formed.calls (k : Nat) (A0 : Option Addr) (c0 : Nat) (l0 : List (S53)) (r : Bool) (w : World) (hr0 : Kd.C k53 w A0 l0.length l0) (hc0 : l0.length ≤ c0) (h : flat_formed.f k l0 = some r) :
  Calls Try.prog 33 #[.slice A0 l0.length c0] w fun e w' => e = .returned (.bool r) ∧ Below w.heap.size w w' := by
 have hu53 := Try.underlying53
 have HR0 := Aside0.mk hr0
 have HC0 := Aside0.mk hc0
 clear hr0 hc0
 have HB := Aside0.mk (Below.refl w.heap.size w)
 have H : (flat_formed.l0 k l0 l0 (l0.length : Int) 0) = some r := h
 clear h
 have H' := Aside0.mk H
 clear H
 go_enter Try.func33, Try.ntmps33
 go_wp2
 go_loopg [8] k (fun kq v8 w' => ∃ (x8_1 : Int), v8 = .int .i64 x8_1 ∧ Aside0 (flat_formed.l0 kq l0 l0 (l0.length : Int) x8_1 = some r) ∧ Aside0 (kq ≤ k) ∧ Aside0 (Below w.heap.size w w'))
 case atStart => exact ⟨(0), (by first | rfl | (simp; done) | (simp [*]; done)), H', ⟨Nat.le_refl _⟩, ⟨by repeat (first | (with_reducible first | exact HB.out | apply zA | apply zN | apply zD) | exact HB.out)⟩⟩
 case round =>
  clear H'
  obtain ⟨x8_1, rfl, HA, HK1, HB⟩ := hrel
  cases gk with
  | zero => exact absurd HA.out (by simp [flat_formed.l0])
  | succ k1 =>
   have H := HA.out
   clear HA
   simp only [flat_formed.l0] at H
   by_cases c2 : x8_1 < (l0.length : Int)
   ·
    rw [if_pos c2] at H
    have c2b0 : decide (x8_1 < (l0.length : Int)) = true := decide_eq_true c2
    clear c2
    by_cases c3 : 0 ≤ x8_1
    ·
     rw [if_pos c3] at H
     have c3b0 : decide (0 ≤ x8_1) = true := decide_eq_true c3
     clear c3
     by_cases c4 : x8_1 < (l0.length : Int)
     ·
      rw [if_pos c4] at H
      have c4b0 : decide (x8_1 < (l0.length : Int)) = true := decide_eq_true c4
      clear c4
      have H' := Aside0.mk H
      clear H
      have p131 : 0 ≤ (x8_1 : Int) := of_decide_eq_true (by first | (with_reducible assumption) | assumption)
      have q131 : x8_1 < (l0.length : Int) := of_decide_eq_true (by first | (with_reducible assumption) | assumption)
      obtain ⟨ad131, A131_5, c131_5, e131, hx131_0, hx131_1, hx131_2, hx131_3, hx131_4, hx131_5, hl131_5, hi131_5⟩ := at_T53 HR0.out x8_1 p131 q131
      cases e131
      replace hx131_0 := (HB.out.cell (World.block_lt_of_cell? w _ hx131_0)).trans hx131_0
      replace hx131_1 := (HB.out.cell (World.block_lt_of_cell? w _ hx131_1)).trans hx131_1
      replace hx131_2 := (HB.out.cell (World.block_lt_of_cell? w _ hx131_2)).trans hx131_2
      replace hx131_3 := (HB.out.cell (World.block_lt_of_cell? w _ hx131_3)).trans hx131_3
      replace hx131_4 := (HB.out.cell (World.block_lt_of_cell? w _ hx131_4)).trans hx131_4
      replace hx131_5 := (HB.out.cell (World.block_lt_of_cell? w _ hx131_5)).trans hx131_5
      have HR131_5 := Aside0.mk hi131_5
      have HC131_5 := Aside0.mk hl131_5
      clear hi131_5 hl131_5
      replace p131 := eq_true p131
      replace q131 := eq_true q131
      go_wp2_with (first | ((with_reducible refine gate_dst (N := 4) rfl ?_); refine box_event ?hg (N := 4) ?hd (cs := #[.int .i64 0, .int .i64 0, .string (⟨#[]⟩ : ByteArray), .string (⟨#[]⟩ : ByteArray), .string (⟨#[]⟩ : ByteArray), .slice none 0 0]) (t := 53) ?hr ?_; (case hd => rfl); (case hg => rfl); (case hr => first | (go_simp; done) | (go_simp; rfl)); intro gb132 hg w5 hbox hb; have n0_ := Aside0.mk (below_step (by repeat (first | (with_reducible first | exact HB.out | apply zA | apply zN | apply zD) | exact HB.out)) hb); have n1_ := Aside0.mk (hbox); have n2_ := Aside0.mk ((by rw [hg]; exact (below_size (by repeat (first | (with_reducible first | exact HB.out | apply zA | apply zN | apply zD) | exact HB.out))) : w.heap.size ≤ gb132)); have n3_ := Aside0.mk ((by rw [hg]; exact (below_size (by repeat (first | (with_reducible first | exact HB.out | apply zA | apply zN | apply zD) | exact HB.out))) : w.heap.size ≤ gb132)); clear HB; have HB := n0_; have BK132 := n1_; have GW132 := n2_; have GE132 := n3_; clear n0_ n1_ n2_ n3_; clear hb hbox hg; have hcz6_0 : w5.cell? ⟨gb132, 0, none⟩ = some (.int .i64 0) := (zC BK132.out 0).trans rfl; have hcz6_1 : w5.cell? ⟨gb132, 1, none⟩ = some (.int .i64 0) := (zC BK132.out 1).trans rfl; have hcz6_2 : w5.cell? ⟨gb132, 2, none⟩ = some (.string (⟨#[]⟩ : ByteArray)) := (zC BK132.out 2).trans rfl; have hcz6_3 : w5.cell? ⟨gb132, 3, none⟩ = some (.string (⟨#[]⟩ : ByteArray)) := (zC BK132.out 3).trans rfl; have hcz6_4 : w5.cell? ⟨gb132, 4, none⟩ = some (.string (⟨#[]⟩ : ByteArray)) := (zC BK132.out 4).trans rfl; have hcz6_5 : w5.cell? ⟨gb132, 5, none⟩ = some (.slice none 0 0) := (zC BK132.out 5).trans rfl; have hfz6_0 := zR BK132.out 0; have hfz6_1 := zR BK132.out 1; have hfz6_2 := zR BK132.out 2; have hfz6_3 := zR BK132.out 3; have hfz6_4 := zR BK132.out 4; have hfz6_5 := zR BK132.out 5))
      go_loopg [5] k1 (fun kq v5 w' => ∃ (x5_2 : Int), v5 = .int .i64 x5_2 ∧ Aside0 (flat_formed.l1 kq l0 x8_1 x5_2 l0 (l0.length : Int) x8_1 ((rd_T53 l0 x8_1).f0) ((rd_T53 l0 x8_1).f1) ((rd_T53 l0 x8_1).f2) ((rd_T53 l0 x8_1).f3) ((rd_T53 l0 x8_1).f4) ((rd_T53 l0 x8_1).f5) = some r) ∧ Aside0 (kq ≤ k1) ∧ Aside0 (w'.heap[gb132]? = some (.cells #[.int .i64 ((rd_T53 l0 x8_1).f0), .int .i64 ((rd_T53 l0 x8_1).f1), .string ((rd_T53 l0 x8_1).f2), .string ((rd_T53 l0 x8_1).f3), .string ((rd_T53 l0 x8_1).f4), (.slice A131_5 ((rd_T53 l0 x8_1).f5).length c131_5)] 53 (0, 0))) ∧ Aside0 (Below w.heap.size w w'))
      case atStart => exact ⟨(x8_1), (by first | rfl | (simp; done) | (simp [*]; done)), H', ⟨Nat.le_refl _⟩, ⟨by (with_reducible repeat first | apply zM | apply zE | apply zF); refine zP (cs := #[.int .i64 ((rd_T53 l0 x8_1).f0), .int .i64 ((rd_T53 l0 x8_1).f1), .string ((rd_T53 l0 x8_1).f2), .string ((rd_T53 l0 x8_1).f3), .string ((rd_T53 l0 x8_1).f4), .slice none 0 0]) ?_ 5 _ rfl; (with_reducible repeat first | apply zM | apply zE | apply zF); refine zP (cs := #[.int .i64 ((rd_T53 l0 x8_1).f0), .int .i64 ((rd_T53 l0 x8_1).f1), .string ((rd_T53 l0 x8_1).f2), .string ((rd_T53 l0 x8_1).f3), .string (⟨#[]⟩ : ByteArray), .slice none 0 0]) ?_ 4 _ rfl; (with_reducible repeat first | apply zM | apply zE | apply zF); refine zP (cs := #[.int .i64 ((rd_T53 l0 x8_1).f0), .int .i64 ((rd_T53 l0 x8_1).f1), .string ((rd_T53 l0 x8_1).f2), .string (⟨#[]⟩ : ByteArray), .string (⟨#[]⟩ : ByteArray), .slice none 0 0]) ?_ 3 _ rfl; (with_reducible repeat first | apply zM | apply zE | apply zF); refine zP (cs := #[.int .i64 ((rd_T53 l0 x8_1).f0), .int .i64 ((rd_T53 l0 x8_1).f1), .string (⟨#[]⟩ : ByteArray), .string (⟨#[]⟩ : ByteArray), .string (⟨#[]⟩ : ByteArray), .slice none 0 0]) ?_ 2 _ rfl; (with_reducible repeat first | apply zM | apply zE | apply zF); refine zP (cs := #[.int .i64 ((rd_T53 l0 x8_1).f0), .int .i64 0, .string (⟨#[]⟩ : ByteArray), .string (⟨#[]⟩ : ByteArray), .string (⟨#[]⟩ : ByteArray), .slice none 0 0]) ?_ 1 _ rfl; (with_reducible repeat first | apply zM | apply zE | apply zF); refine zP (cs := #[.int .i64 0, .int .i64 0, .string (⟨#[]⟩ : ByteArray), .string (⟨#[]⟩ : ByteArray), .string (⟨#[]⟩ : ByteArray), .slice none 0 0]) ?_ 0 _ rfl; (with_reducible repeat first | apply zM | apply zE | apply zF); exact BK132.out⟩, ⟨by repeat (first | (with_reducible first | exact HB.out | apply zA | apply zN | apply zD | refine zS ?_ GE132.out) | exact HB.out)⟩⟩
      case round =>
       clear H'
       try clear c1
       try clear p1
       try clear q1
       try clear hx1
       try clear c2
       try clear c2b0
       try clear p2
       try clear c3
       try clear c3b0
       try clear c4
       try clear c4b0
       try clear hx131_0
       try clear hx131_1
       try clear hx131_2
       try clear hx131_3
       try clear hx131_4
       try clear hx131_5
       try clear p131
       try clear q131
       (try clear BK132)
       obtain ⟨x5_2, rfl, HA, HK2, BK132, HB⟩ := hrel
       cases gk with
       | zero => exact absurd HA.out (by simp [flat_formed.l1])
       | succ k2 =>
        have H := HA.out
        clear HA
        simp only [flat_formed.l1] at H
        by_cases c7 : x5_2 = 0
        ·
         rw [if_pos c7] at H
         have c7b0 : (x5_2 == 0) = true := beq_iff_eq.mpr c7
         have c7b1 : (x5_2 != 0) = false := bne_eq_false_iff_eq.mpr c7
         clear c7
         by_cases c8 : x5_2 = ((rd_T53 l0 x8_1).f1)
         ·
          rw [if_pos c8] at H
          have c8b0 : (x5_2 == ((rd_T53 l0 x8_1).f1)) = true := beq_iff_eq.mpr c8
          have c8b1 : (x5_2 != ((rd_T53 l0 x8_1).f1)) = false := bne_eq_false_iff_eq.mpr c8
          clear c8
          by_cases c9 : ((x5_2 == 0) != (x8_1 == 0)) = true
          ·
           rw [if_pos c9] at H
           have c9b0 : ((x5_2 == 0) != (x8_1 == 0)) = true := c9
           (try (have c9b8 : (x8_1 == 0) = false := by (have h_ := c9b0; rw [c7b0] at h_; revert h_; cases (x8_1 == 0) <;> decide)))
           (try (have c9b9 : (x8_1 == 0) = true := by (have h_ := c9b0; rw [c7b0] at h_; revert h_; cases (x8_1 == 0) <;> decide)))
           (try (have c9b1 : decide ((x5_2 == 0) = (x8_1 == 0)) = false := by simpa using c9))
           (try (have c9b2 : ((x5_2 == 0) == (x8_1 == 0)) = false := by simpa using c9))
           (try (have c9b3 : ¬ ((x5_2 == 0) = (x8_1 == 0)) := by simpa using c9))
           clear c9
           obtain rfl := Option.some.inj H
           have hcz10_0 : wr.cell? ⟨gb132, 0, none⟩ = some (.int .i64 ((rd_T53 l0 x8_1).f0)) := (zC BK132.out 0).trans rfl
           have hcz10_1 : wr.cell? ⟨gb132, 1, none⟩ = some (.int .i64 ((rd_T53 l0 x8_1).f1)) := (zC BK132.out 1).trans rfl
           have hcz10_2 : wr.cell? ⟨gb132, 2, none⟩ = some (.string ((rd_T53 l0 x8_1).f2)) := (zC BK132.out 2).trans rfl
           have hcz10_3 : wr.cell? ⟨gb132, 3, none⟩ = some (.string ((rd_T53 l0 x8_1).f3)) := (zC BK132.out 3).trans rfl
           have hcz10_4 : wr.cell? ⟨gb132, 4, none⟩ = some (.string ((rd_T53 l0 x8_1).f4)) := (zC BK132.out 4).trans rfl
           have hcz10_5 : wr.cell? ⟨gb132, 5, none⟩ = some (.slice A131_5 ((rd_T53 l0 x8_1).f5).length c131_5) := (zC BK132.out 5).trans rfl
           have hfz10_0 := zR BK132.out 0
           have hfz10_1 := zR BK132.out 1
           have hfz10_2 := zR BK132.out 2
           have hfz10_3 := zR BK132.out 3
           have hfz10_4 := zR BK132.out 4
           have hfz10_5 := zR BK132.out 5
           go_wp2
           go_ret
           exact ⟨by first | rfl | (simp [errW_none, errW_some] <;> rfl) | (simp [*, errW_none, errW_some] <;> rfl), by repeat (first | (with_reducible first | exact HB.out | apply zA | apply zN | apply zD | refine zS ?_ GE132.out) | exact HB.out)⟩
          ·
           rw [if_neg c9] at H
           have c9b0 : ((x5_2 == 0) != (x8_1 == 0)) = false := by simpa using c9
           (try (have c9b8 : (x8_1 == 0) = false := by (have h_ := c9b0; rw [c7b0] at h_; revert h_; cases (x8_1 == 0) <;> decide)))
           (try (have c9b9 : (x8_1 == 0) = true := by (have h_ := c9b0; rw [c7b0] at h_; revert h_; cases (x8_1 == 0) <;> decide)))
           (try (have c9b1 : decide ((x5_2 == 0) = (x8_1 == 0)) = true := by simpa using c9))
           (try (have c9b2 : ((x5_2 == 0) == (x8_1 == 0)) = true := by simpa using c9))
           clear c9
           have H' := Aside0.mk H
           clear H
           have hcz11_0 : wr.cell? ⟨gb132, 0, none⟩ = some (.int .i64 ((rd_T53 l0 x8_1).f0)) := (zC BK132.out 0).trans rfl
           have hcz11_1 : wr.cell? ⟨gb132, 1, none⟩ = some (.int .i64 ((rd_T53 l0 x8_1).f1)) := (zC BK132.out 1).trans rfl
           have hcz11_2 : wr.cell? ⟨gb132, 2, none⟩ = some (.string ((rd_T53 l0 x8_1).f2)) := (zC BK132.out 2).trans rfl
           have hcz11_3 : wr.cell? ⟨gb132, 3, none⟩ = some (.string ((rd_T53 l0 x8_1).f3)) := (zC BK132.out 3).trans rfl
           have hcz11_4 : wr.cell? ⟨gb132, 4, none⟩ = some (.string ((rd_T53 l0 x8_1).f4)) := (zC BK132.out 4).trans rfl
           have hcz11_5 : wr.cell? ⟨gb132, 5, none⟩ = some (.slice A131_5 ((rd_T53 l0 x8_1).f5).length c131_5) := (zC BK132.out 5).trans rfl
           have hfz11_0 := zR BK132.out 0
           have hfz11_1 := zR BK132.out 1
           have hfz11_2 := zR BK132.out 2
           have hfz11_3 := zR BK132.out 3
           have hfz11_4 := zR BK132.out 4
           have hfz11_5 := zR BK132.out 5
           go_wp2
           go_roundg k2
           case measure => have := HK1.out; have := HK2.out; omega
           case rel => exact ⟨(wrap64 (x8_1 + 1)), (by first | rfl | (simp; done) | (simp [*]; done)), H', ⟨by have := HK1.out; have := HK2.out; omega⟩, ⟨by repeat (first | (with_reducible first | exact HB.out | apply zA | apply zN | apply zD | refine zS ?_ GE132.out) | exact HB.out)⟩⟩
         ·
          rw [if_neg c8] at H
          have c8b0 : (x5_2 == ((rd_T53 l0 x8_1).f1)) = false := beq_eq_false_iff_ne.mpr c8
          have c8b1 : (x5_2 != ((rd_T53 l0 x8_1).f1)) = true := bne_iff_ne.mpr c8
          obtain rfl := Option.some.inj H
          have hcz12_0 : wr.cell? ⟨gb132, 0, none⟩ = some (.int .i64 ((rd_T53 l0 x8_1).f0)) := (zC BK132.out 0).trans rfl
          have hcz12_1 : wr.cell? ⟨gb132, 1, none⟩ = some (.int .i64 ((rd_T53 l0 x8_1).f1)) := (zC BK132.out 1).trans rfl
          have hcz12_2 : wr.cell? ⟨gb132, 2, none⟩ = some (.string ((rd_T53 l0 x8_1).f2)) := (zC BK132.out 2).trans rfl
          have hcz12_3 : wr.cell? ⟨gb132, 3, none⟩ = some (.string ((rd_T53 l0 x8_1).f3)) := (zC BK132.out 3).trans rfl
          have hcz12_4 : wr.cell? ⟨gb132, 4, none⟩ = some (.string ((rd_T53 l0 x8_1).f4)) := (zC BK132.out 4).trans rfl
          have hcz12_5 : wr.cell? ⟨gb132, 5, none⟩ = some (.slice A131_5 ((rd_T53 l0 x8_1).f5).length c131_5) := (zC BK132.out 5).trans rfl
          have hfz12_0 := zR BK132.out 0
          have hfz12_1 := zR BK132.out 1
          have hfz12_2 := zR BK132.out 2
          have hfz12_3 := zR BK132.out 3
          have hfz12_4 := zR BK132.out 4
          have hfz12_5 := zR BK132.out 5
          go_wp2
          go_ret
          exact ⟨by first | rfl | (simp [errW_none, errW_some] <;> rfl) | (simp [*, errW_none, errW_some] <;> rfl), by repeat (first | (with_reducible first | exact HB.out | apply zA | apply zN | apply zD | refine zS ?_ GE132.out) | exact HB.out)⟩
        ·
         rw [if_neg c7] at H
         have c7b0 : (x5_2 == 0) = false := beq_eq_false_iff_ne.mpr c7
         have c7b1 : (x5_2 != 0) = true := bne_iff_ne.mpr c7
         by_cases c13 : x5_2 = ((rd_T53 l0 x8_1).f1)
         ·
          rw [if_pos c13] at H
          have c13b0 : (x5_2 == ((rd_T53 l0 x8_1).f1)) = true := beq_iff_eq.mpr c13
          have c13b1 : (x5_2 != ((rd_T53 l0 x8_1).f1)) = false := bne_eq_false_iff_eq.mpr c13
          clear c13
          by_cases c14 : ((x5_2 == 0) != (x8_1 == 0)) = true
          ·
           rw [if_pos c14] at H
           have c14b0 : ((x5_2 == 0) != (x8_1 == 0)) = true := c14
           (try (have c14b8 : (x8_1 == 0) = false := by (have h_ := c14b0; rw [c7b0] at h_; revert h_; cases (x8_1 == 0) <;> decide)))
           (try (have c14b9 : (x8_1 == 0) = true := by (have h_ := c14b0; rw [c7b0] at h_; revert h_; cases (x8_1 == 0) <;> decide)))
           (try (have c14b1 : decide ((x5_2 == 0) = (x8_1 == 0)) = false := by simpa using c14))
           (try (have c14b2 : ((x5_2 == 0) == (x8_1 == 0)) = false := by simpa using c14))
           (try (have c14b3 : ¬ ((x5_2 == 0) = (x8_1 == 0)) := by simpa using c14))
           clear c14
           obtain rfl := Option.some.inj H
           have hcz15_0 : wr.cell? ⟨gb132, 0, none⟩ = some (.int .i64 ((rd_T53 l0 x8_1).f0)) := (zC BK132.out 0).trans rfl
           have hcz15_1 : wr.cell? ⟨gb132, 1, none⟩ = some (.int .i64 ((rd_T53 l0 x8_1).f1)) := (zC BK132.out 1).trans rfl
           have hcz15_2 : wr.cell? ⟨gb132, 2, none⟩ = some (.string ((rd_T53 l0 x8_1).f2)) := (zC BK132.out 2).trans rfl
           have hcz15_3 : wr.cell? ⟨gb132, 3, none⟩ = some (.string ((rd_T53 l0 x8_1).f3)) := (zC BK132.out 3).trans rfl
           have hcz15_4 : wr.cell? ⟨gb132, 4, none⟩ = some (.string ((rd_T53 l0 x8_1).f4)) := (zC BK132.out 4).trans rfl
           have hcz15_5 : wr.cell? ⟨gb132, 5, none⟩ = some (.slice A131_5 ((rd_T53 l0 x8_1).f5).length c131_5) := (zC BK132.out 5).trans rfl
           have hfz15_0 := zR BK132.out 0
           have hfz15_1 := zR BK132.out 1
           have hfz15_2 := zR BK132.out 2
           have hfz15_3 := zR BK132.out 3
           have hfz15_4 := zR BK132.out 4
           have hfz15_5 := zR BK132.out 5
           go_wp2
           go_ret
           exact ⟨by first | rfl | (simp [errW_none, errW_some] <;> rfl) | (simp [*, errW_none, errW_some] <;> rfl), by repeat (first | (with_reducible first | exact HB.out | apply zA | apply zN | apply zD | refine zS ?_ GE132.out) | exact HB.out)⟩
          ·
           rw [if_neg c14] at H
           have c14b0 : ((x5_2 == 0) != (x8_1 == 0)) = false := by simpa using c14
           (try (have c14b8 : (x8_1 == 0) = false := by (have h_ := c14b0; rw [c7b0] at h_; revert h_; cases (x8_1 == 0) <;> decide)))
           (try (have c14b9 : (x8_1 == 0) = true := by (have h_ := c14b0; rw [c7b0] at h_; revert h_; cases (x8_1 == 0) <;> decide)))
           (try (have c14b1 : decide ((x5_2 == 0) = (x8_1 == 0)) = true := by simpa using c14))
           (try (have c14b2 : ((x5_2 == 0) == (x8_1 == 0)) = true := by simpa using c14))
           clear c14
           have H' := Aside0.mk H
           clear H
           have hcz16_0 : wr.cell? ⟨gb132, 0, none⟩ = some (.int .i64 ((rd_T53 l0 x8_1).f0)) := (zC BK132.out 0).trans rfl
           have hcz16_1 : wr.cell? ⟨gb132, 1, none⟩ = some (.int .i64 ((rd_T53 l0 x8_1).f1)) := (zC BK132.out 1).trans rfl
           have hcz16_2 : wr.cell? ⟨gb132, 2, none⟩ = some (.string ((rd_T53 l0 x8_1).f2)) := (zC BK132.out 2).trans rfl
           have hcz16_3 : wr.cell? ⟨gb132, 3, none⟩ = some (.string ((rd_T53 l0 x8_1).f3)) := (zC BK132.out 3).trans rfl
           have hcz16_4 : wr.cell? ⟨gb132, 4, none⟩ = some (.string ((rd_T53 l0 x8_1).f4)) := (zC BK132.out 4).trans rfl
           have hcz16_5 : wr.cell? ⟨gb132, 5, none⟩ = some (.slice A131_5 ((rd_T53 l0 x8_1).f5).length c131_5) := (zC BK132.out 5).trans rfl
           have hfz16_0 := zR BK132.out 0
           have hfz16_1 := zR BK132.out 1
           have hfz16_2 := zR BK132.out 2
           have hfz16_3 := zR BK132.out 3
           have hfz16_4 := zR BK132.out 4
           have hfz16_5 := zR BK132.out 5
           go_wp2
           go_roundg k2
           case measure => have := HK1.out; have := HK2.out; omega
           case rel => exact ⟨(wrap64 (x8_1 + 1)), (by first | rfl | (simp; done) | (simp [*]; done)), H', ⟨by have := HK1.out; have := HK2.out; omega⟩, ⟨by repeat (first | (with_reducible first | exact HB.out | apply zA | apply zN | apply zD | refine zS ?_ GE132.out) | exact HB.out)⟩⟩
         ·
          rw [if_neg c13] at H
          have c13b0 : (x5_2 == ((rd_T53 l0 x8_1).f1)) = false := beq_eq_false_iff_ne.mpr c13
          have c13b1 : (x5_2 != ((rd_T53 l0 x8_1).f1)) = true := bne_iff_ne.mpr c13
          obtain ⟨ji17, hji17⟩ : ∃ j_ : Int, (wrap64 (x5_2 - 1)) = j_ := ⟨_, rfl⟩
          replace H : (if 0 ≤ (ji17) then (if (ji17) < (l0.length : Int) then (flat_formed.l1 k2 l0 x8_1 ((rd_T53 l0 (ji17)).f1) l0 (l0.length : Int) x8_1 ((rd_T53 l0 x8_1).f0) ((rd_T53 l0 x8_1).f1) ((rd_T53 l0 x8_1).f2) ((rd_T53 l0 x8_1).f3) ((rd_T53 l0 x8_1).f4) ((rd_T53 l0 x8_1).f5)) else (none)) else (none)) = some r := by first | (rw [hji17] at H; exact H) | (simp only [hji17] at H ⊢; exact H)
          have hji17w : (IntKind.i64.wrap (x5_2 - 1)) = ji17 := (i64_w _).trans hji17
          by_cases c18 : 0 ≤ (ji17)
          ·
           rw [if_pos c18] at H
           have c18b0 : decide (0 ≤ (ji17)) = true := decide_eq_true c18
           clear c18
           by_cases c19 : (ji17) < (l0.length : Int)
           ·
            rw [if_pos c19] at H
            have c19b0 : decide ((ji17) < (l0.length : Int)) = true := decide_eq_true c19
            clear c19
            have H' := Aside0.mk H
            clear H
            have hcz20_0 : wr.cell? ⟨gb132, 0, none⟩ = some (.int .i64 ((rd_T53 l0 x8_1).f0)) := (zC BK132.out 0).trans rfl
            have hcz20_1 : wr.cell? ⟨gb132, 1, none⟩ = some (.int .i64 ((rd_T53 l0 x8_1).f1)) := (zC BK132.out 1).trans rfl
            have hcz20_2 : wr.cell? ⟨gb132, 2, none⟩ = some (.string ((rd_T53 l0 x8_1).f2)) := (zC BK132.out 2).trans rfl
            have hcz20_3 : wr.cell? ⟨gb132, 3, none⟩ = some (.string ((rd_T53 l0 x8_1).f3)) := (zC BK132.out 3).trans rfl
            have hcz20_4 : wr.cell? ⟨gb132, 4, none⟩ = some (.string ((rd_T53 l0 x8_1).f4)) := (zC BK132.out 4).trans rfl
            have hcz20_5 : wr.cell? ⟨gb132, 5, none⟩ = some (.slice A131_5 ((rd_T53 l0 x8_1).f5).length c131_5) := (zC BK132.out 5).trans rfl
            have hfz20_0 := zR BK132.out 0
            have hfz20_1 := zR BK132.out 1
            have hfz20_2 := zR BK132.out 2
            have hfz20_3 := zR BK132.out 3
            have hfz20_4 := zR BK132.out 4
            have hfz20_5 := zR BK132.out 5
            have p133 : 0 ≤ ((ji17) : Int) := of_decide_eq_true (by first | (with_reducible assumption) | assumption)
            have q133 : (ji17) < (l0.length : Int) := of_decide_eq_true (by first | (with_reducible assumption) | assumption)
            obtain ⟨ad133, A133_5, c133_5, e133, hx133_0, hx133_1, hx133_2, hx133_3, hx133_4, hx133_5, hl133_5, hi133_5⟩ := at_T53 HR0.out (ji17) p133 q133
            obtain rfl : ad131 = ad133 := (by injection e133)
            replace hx133_0 := (HB.out.cell (World.block_lt_of_cell? w _ hx133_0)).trans hx133_0
            replace hx133_1 := (HB.out.cell (World.block_lt_of_cell? w _ hx133_1)).trans hx133_1
            replace hx133_2 := (HB.out.cell (World.block_lt_of_cell? w _ hx133_2)).trans hx133_2
            replace hx133_3 := (HB.out.cell (World.block_lt_of_cell? w _ hx133_3)).trans hx133_3
            replace hx133_4 := (HB.out.cell (World.block_lt_of_cell? w _ hx133_4)).trans hx133_4
            replace hx133_5 := (HB.out.cell (World.block_lt_of_cell? w _ hx133_5)).trans hx133_5
            have HR133_5 := Aside0.mk hi133_5
            have HC133_5 := Aside0.mk hl133_5
            clear hi133_5 hl133_5
            replace p133 := eq_true p133
            replace q133 := eq_true q133
            go_wp2
            go_roundg k2
            case measure => have := HK1.out; have := HK2.out; omega
            case rel => exact ⟨((rd_T53 l0 (ji17)).f1), (by first | rfl | (simp; done) | (simp only [← hji17] <;> (first | rfl | simp)) | (simp [*]; done)), H', ⟨by have := HK1.out; have := HK2.out; omega⟩, ⟨by (with_reducible repeat first | apply zM | apply zE | apply zF); exact BK132.out⟩, ⟨by repeat (first | (with_reducible first | exact HB.out | apply zA | apply zN | apply zD | refine zS ?_ GE132.out) | exact HB.out)⟩⟩
           ·
            rw [if_neg c19] at H
            exact absurd H (by simp)
          ·
           rw [if_neg c18] at H
           exact absurd H (by simp)
     ·
      rw [if_neg c4] at H
      exact absurd H (by simp)
    ·
     rw [if_neg c3] at H
     exact absurd H (by simp)
   ·
    rw [if_neg c2] at H
    have c2b0 : decide (x8_1 < (l0.length : Int)) = false := decide_eq_false c2
    clear c2
    obtain rfl := Option.some.inj H
    go_wp2
    go_ret
    exact ⟨by first | rfl | (simp [errW_none, errW_some] <;> rfl) | (simp [*, errW_none, errW_some] <;> rfl), by repeat (first | (with_reducible first | exact HB.out | apply zA | apply zN | apply zD) | exact HB.out)⟩

-- squeezed
open Go.Proofs.YtcebfldagnjddaaW.PrintWords renaming below_alloc → zA, pw_below_drewN → zN, below_drew1 → zD, below_set → zS, blk_drewN → zM, blk_drew → zE, blk_alloc → zF, blk_far → zG, blk_put → zP, blk_cell → zC, blk_frozen → zR
/-! ### flat_deep: function 34 -/
def flat_deep.l0 : Nat → List (S53) → List Int → List (S53) → Int → Int → Option (Bool)
 | 0, _, _, _, _, _ => none
 | k + 1, x0, x3, x10, x11, x12 => if x12 < x11 then (if 0 ≤ x12 then (if x12 < (x10.length : Int) then (if 0 ≤ ((rd_T53 x10 x12).f1) then (if ((rd_T53 x10 x12).f1) < (x3.length : Int) then (if 0 ≤ (wrap64 (x12 + 1)) then (if (wrap64 (x12 + 1)) < (x3.length : Int) then ((some (x3.set ((wrap64 (x12 + 1)) : Int).toNat (wrap64 ((rd x3 ((rd_T53 x10 x12).f1)) + 1)) : List Int)).bind fun y140 => (if (rd y140 (wrap64 (x12 + 1))) > 64 then (some true) else (flat_deep.l0 k x0 y140 x10 x11 (wrap64 (x12 + 1))))) else (none)) else (none)) else (none)) else (none)) else (none)) else (none)) else (some (decide ((x0.length : Int) > 4096)))
def flat_deep.f (k : Nat) (l0 : List (S53)) : Option (Bool) := if 0 ≤ (wrap64 ((l0.length : Int) + 1)) then (if (wrap64 ((l0.length : Int) + 1) : Int).toNat ≤ 35184372088832 then (flat_deep.l0 k l0 (List.replicate (wrap64 ((l0.length : Int) + 1) : Int).toNat 0) l0 (l0.length : Int) 0) else (none)) else (none)
theorem flat_deep.mono_l : ∀ k, (∀ y0 y1 y2 y3 y4, LeO (flat_deep.l0 k y0 y1 y2 y3 y4) (flat_deep.l0 (k + 1) y0 y1 y2 y3 y4))
 | 0 => fun _ _ _ _ _ r h => by simp [flat_deep.l0] at h
 | k + 1 => by
  have ih0 := flat_deep.mono_l k
  ·
   intro y0 y1 y2 y3 y4
   unfold flat_deep.l0
   repeat' first
   | (with_reducible exact ih0 _ _ _ _ _)
   | (with_reducible exact LeO.refl _)
   | (with_reducible exact LeO.none _)
   | (with_reducible refine LeO.ite ?_ ?_)
   | (with_reducible refine LeO.bind ?_ (fun _ => ?_))
   | exact ih0 _ _ _ _ _
   | exact LeO.none _
   | refine LeO.ite ?_ ?_
   | refine LeO.bind ?_ (fun _ => ?_)
theorem flat_deep.mono : ∀ a0 k, LeO (flat_deep.f k a0) (flat_deep.f (k + 1) a0) := by
 intro a0 k
 have ih0 := flat_deep.mono_l k
 unfold flat_deep.f
 repeat' first
   | (with_reducible exact ih0 _ _ _ _ _)
   | (with_reducible exact LeO.refl _)
   | (with_reducible exact LeO.none _)
   | (with_reducible refine LeO.ite ?_ ?_)
   | (with_reducible refine LeO.bind ?_ (fun _ => ?_))
   | exact ih0 _ _ _ _ _
   | exact LeO.none _
   | refine LeO.ite ?_ ?_
   | refine LeO.bind ?_ (fun _ => ?_)
set_option maxHeartbeats 8000000 in
set_option maxRecDepth 100000 in
theorem flat_deep.calls (k : Nat) (A0 : Option Addr) (c0 : Nat) (l0 : List (S53)) (r : Bool) (w : World) (hr0 : Kd.C k53 w A0 l0.length l0) (hc0 : l0.length ≤ c0) (h : flat_deep.f k l0 = some r) :
  Calls Try.prog 34 #[.slice A0 l0.length c0] w fun e w' => e = .returned (.bool r) ∧ Below w.heap.size w w' := by
 have hu53 := Try.underlying53
 have HR0 := Aside0.mk hr0
 have HC0 := Aside0.mk hc0
 clear hr0 hc0
 have HB := Aside0.mk (Below.refl w.heap.size w)
 have H : (if 0 ≤ (wrap64 ((l0.length : Int) + 1)) then (if (wrap64 ((l0.length : Int) + 1) : Int).toNat ≤ 35184372088832 then (flat_deep.l0 k l0 (List.replicate (wrap64 ((l0.length : Int) + 1) : Int).toNat 0) l0 (l0.length : Int) 0) else (none)) else (none)) = some r := h
 clear h
 obtain ⟨ji2, hji2⟩ : ∃ j_ : Int, (wrap64 ((l0.length : Int) + 1)) = j_ := ⟨_, rfl⟩
 replace H : (if 0 ≤ (ji2) then (if (ji2 : Int).toNat ≤ 35184372088832 then (flat_deep.l0 k l0 (List.replicate (ji2 : Int).toNat 0) l0 (l0.length : Int) 0) else (none)) else (none)) = some r := by first | (rw [hji2] at H; exact H) | (simp only [hji2] at H ⊢; exact H)
 have hji2w : (IntKind.i64.wrap ((l0.length : Int) + 1)) = ji2 := (i64_w _).trans hji2
 by_cases c3 : 0 ≤ (ji2)
 ·
  rw [if_pos c3] at H
  have c3b0 := eq_true c3
  have c3b1 : decide (0 ≤ (ji2)) = true := decide_eq_true c3
  clear c3
  by_cases c4 : (ji2 : Int).toNat ≤ 35184372088832
  ·
   rw [if_pos c4] at H
   have c4b0 := eq_true c4
   have c4b1 : decide ((ji2 : Int).toNat ≤ 35184372088832) = true := decide_eq_true c4
   clear c4
   obtain ⟨y134, hy134⟩ : ∃ y_ : List Int, y_ = (List.replicate (ji2 : Int).toNat 0) := ⟨_, rfl⟩
   replace H : (flat_deep.l0 k l0 y134 l0 (l0.length : Int) 0) = some r := by first | (rw [hy134]; with_reducible exact H) | (have H2_ := (Option.bind_some _ _).symm.trans H; rw [hy134]; with_reducible exact H2_) | (have H2_ := (Option.bind_some _ _).symm.trans H; with_reducible exact H2_) | with_reducible exact H | (rw [hy134]; exact H) | exact H
   have Ny134 := Aside0.mk hy134
   clear hy134
   have H' := Aside0.mk H
   clear H
   go_enter Try.func34, Try.ntmps34
   go_wp2_with (first | ((with_reducible refine gate_dst (N := 9) rfl ?_); refine Kd.R_make (Kd.int .i64) _ 3 rfl (N := 9) rfl 43 _ _ rfl ji2 rfl rfl Try.underlying43 (.int .i64 0) 8 info3 rfl (by decide) (by omega) 0 (ok := fun _ => True) (okp := fun _ => True) rfl (fun _ hk => hk) trivial (of_decide_eq_true (by first | (with_reducible assumption) | assumption)) (Nat.le_trans (Nat.mul_le_mul_right _ (of_decide_eq_true (by first | (with_reducible assumption) | assumption) : ji2.toNat ≤ 35184372088832)) (by omega)) (Below.refl _ _) (Nat.le_refl _) ?_; intro v135 w5 ho6 hb hg_ hnew_; clear hg_ hnew_; (first | rw [← Ny134.out] at ho6 | (simp only [Int.reduceToNat] at ho6; rw [← Ny134.out] at ho6)); have n0_ := Aside0.mk (Kd.R_lower ho6 (below_size (by repeat (first | (with_reducible first | exact HB.out | apply zA | apply zN | apply zD) | exact HB.out)))); have n1_ := Aside0.mk (below_step (by repeat (first | (with_reducible first | exact HB.out | apply zA | apply zN | apply zD) | exact HB.out)) hb); clear HB; have HO136 := n0_; have HB := n1_; clear n0_ n1_; clear hb ho6))
   go_loopg [12] k (fun kq v12 w' => ∃ (x3_1 : List Int) (x12_1 : Int), v12 = .int .i64 x12_1 ∧ Aside0 (flat_deep.l0 kq l0 x3_1 l0 (l0.length : Int) x12_1 = some r) ∧ Aside0 (kq ≤ k) ∧ Aside0 (Kd.R (Kd.int .i64) 3 w' w.heap.size (fun _ => True) v135 x3_1) ∧ Aside0 (Below w.heap.size w w'))
   case atStart => exact ⟨(y134), (0), (by first | rfl | (simp; done) | (simp [*]; done)), H', ⟨Nat.le_refl _⟩, ⟨by (with_reducible repeat (first | apply Kd.R_alloc | apply Kd.R_drewN | apply Kd.R_drew)); exact HO136.out⟩, ⟨by repeat (first | (with_reducible first | exact HB.out | apply zA | apply zN | apply zD) | exact HB.out)⟩⟩
   case round =>
    clear H'
    try clear p2
    try clear c3
    try clear c3b0
    try clear c3b1
    try clear c4
    try clear c4b0
    try clear c4b1
    try clear p6
    obtain ⟨x3_1, x12_1, rfl, HA, HK1, HO_3, HB⟩ := hrel
    cases gk with
    | zero => exact absurd HA.out (by simp [flat_deep.l0])
    | succ k1 =>
     have H := HA.out
     clear HA
     simp only [flat_deep.l0] at H
     by_cases c7 : x12_1 < (l0.length : Int)
     ·
      rw [if_pos c7] at H
      have c7b0 : decide (x12_1 < (l0.length : Int)) = true := decide_eq_true c7
      clear c7
      by_cases c8 : 0 ≤ x12_1
      ·
       rw [if_pos c8] at H
       have c8b0 : decide (0 ≤ x12_1) = true := decide_eq_true c8
       clear c8
       by_cases c9 : x12_1 < (l0.length : Int)
       ·
        rw [if_pos c9] at H
        have c9b0 : decide (x12_1 < (l0.length : Int)) = true := decide_eq_true c9
        clear c9
        by_cases c10 : 0 ≤ ((rd_T53 l0 x12_1).f1)
        ·
         rw [if_pos c10] at H
         have c10b0 : decide (0 ≤ ((rd_T53 l0 x12_1).f1)) = true := decide_eq_true c10
         clear c10
         by_cases c11 : ((rd_T53 l0 x12_1).f1) < (x3_1.length : Int)
         ·
          rw [if_pos c11] at H
          have c11b0 : decide (((rd_T53 l0 x12_1).f1) < (x3_1.length : Int)) = true := decide_eq_true c11
          clear c11
          obtain ⟨ji12, hji12⟩ : ∃ j_ : Int, (wrap64 (x12_1 + 1)) = j_ := ⟨_, rfl⟩
          replace H : (if 0 ≤ (ji12) then (if (ji12) < (x3_1.length : Int) then ((some (x3_1.set ((ji12) : Int).toNat (wrap64 ((rd x3_1 ((rd_T53 l0 x12_1).f1)) + 1)) : List Int)).bind fun y140 => (if (rd y140 (ji12)) > 64 then (some true) else (flat_deep.l0 k1 l0 y140 l0 (l0.length : Int) ji12))) else (none)) else (none)) = some r := by first | (rw [hji12] at H; exact H) | (simp only [hji12] at H ⊢; exact H)
          have hji12w : (IntKind.i64.wrap (x12_1 + 1)) = ji12 := (i64_w _).trans hji12
          by_cases c13 : 0 ≤ (ji12)
          ·
           rw [if_pos c13] at H
           have c13b0 : decide (0 ≤ (ji12)) = true := decide_eq_true c13
           clear c13
           by_cases c14 : (ji12) < (x3_1.length : Int)
           ·
            rw [if_pos c14] at H
            have c14b0 : decide ((ji12) < (x3_1.length : Int)) = true := decide_eq_true c14
            clear c14
            obtain ⟨y140, hy140⟩ : ∃ y_ : List Int, y_ = (x3_1.set ((ji12) : Int).toNat (wrap64 ((rd x3_1 ((rd_T53 l0 x12_1).f1)) + 1))) := ⟨_, rfl⟩
            replace H : (if (rd y140 (ji12)) > 64 then (some true) else (flat_deep.l0 k1 l0 y140 l0 (l0.length : Int) ji12)) = some r := by first | (rw [hy140]; with_reducible exact H) | (have H2_ := (Option.bind_some _ _).symm.trans H; rw [hy140]; with_reducible exact H2_) | (have H2_ := (Option.bind_some _ _).symm.trans H; with_reducible exact H2_) | with_reducible exact H | (rw [hy140]; exact H) | exact H
            have Ny140 := Aside0.mk hy140
            clear hy140
            by_cases c16 : (rd y140 (ji12)) > 64
            ·
             rw [if_pos c16] at H
             have c16b0 : decide (64 < (rd y140 (ji12))) = true := decide_eq_true c16
             clear c16
             obtain rfl := Option.some.inj H
             have p137 : 0 ≤ (x12_1 : Int) := of_decide_eq_true (by first | (with_reducible assumption) | assumption)
             have q137 : x12_1 < (l0.length : Int) := of_decide_eq_true (by first | (with_reducible assumption) | assumption)
             obtain ⟨ad137, A137_5, c137_5, e137, hx137_0, hx137_1, hx137_2, hx137_3, hx137_4, hx137_5, hl137_5, hi137_5⟩ := at_T53 HR0.out x12_1 p137 q137
             cases e137
             replace hx137_0 := (HB.out.cell (World.block_lt_of_cell? w _ hx137_0)).trans hx137_0
             replace hx137_1 := (HB.out.cell (World.block_lt_of_cell? w _ hx137_1)).trans hx137_1
             replace hx137_2 := (HB.out.cell (World.block_lt_of_cell? w _ hx137_2)).trans hx137_2
             replace hx137_3 := (HB.out.cell (World.block_lt_of_cell? w _ hx137_3)).trans hx137_3
             replace hx137_4 := (HB.out.cell (World.block_lt_of_cell? w _ hx137_4)).trans hx137_4
             replace hx137_5 := (HB.out.cell (World.block_lt_of_cell? w _ hx137_5)).trans hx137_5
             have HR137_5 := Aside0.mk hi137_5
             have HC137_5 := Aside0.mk hl137_5
             clear hi137_5 hl137_5
             replace p137 := eq_true p137
             replace q137 := eq_true q137
             go_wp2_with (first | ((with_reducible refine gate_dst (N := 5) rfl ?_); refine box_event ?hg (N := 5) ?hd (cs := #[.int .i64 0, .int .i64 0, .string (⟨#[]⟩ : ByteArray), .string (⟨#[]⟩ : ByteArray), .string (⟨#[]⟩ : ByteArray), .slice none 0 0]) (t := 53) ?hr ?_; (case hd => rfl); (case hg => rfl); (case hr => first | (go_simp; done) | (go_simp; rfl)); intro gb138 hg w17 hbox hb; have n0_ := Aside0.mk (Kd.R_below (by (with_reducible repeat (first | apply Kd.R_alloc | apply Kd.R_drewN | apply Kd.R_drew)); exact HO_3.out) hb); have n1_ := Aside0.mk (below_step (by repeat (first | (with_reducible first | exact HB.out | apply zA | apply zN | apply zD) | exact HB.out)) hb); have n2_ := Aside0.mk (hbox); have n3_ := Aside0.mk ((by rw [hg]; exact (below_size (by repeat (first | (with_reducible first | exact HB.out | apply zA | apply zN | apply zD) | exact HB.out))) : w.heap.size ≤ gb138)); have n4_ := Aside0.mk ((by rw [hg]; exact (below_size (by repeat (first | (with_reducible first | exact HB.out | apply zA | apply zN | apply zD) | exact HB.out))) : w.heap.size ≤ gb138)); clear HO_3; clear HB; have HO_3 := n0_; have HB := n1_; have BK138 := n2_; have GW138 := n3_; have GE138 := n4_; clear n0_ n1_ n2_ n3_ n4_; clear hb hbox hg; have hcz18_0 : w17.cell? ⟨gb138, 0, none⟩ = some (.int .i64 0) := (zC BK138.out 0).trans rfl; have hcz18_1 : w17.cell? ⟨gb138, 1, none⟩ = some (.int .i64 0) := (zC BK138.out 1).trans rfl; have hcz18_2 : w17.cell? ⟨gb138, 2, none⟩ = some (.string (⟨#[]⟩ : ByteArray)) := (zC BK138.out 2).trans rfl; have hcz18_3 : w17.cell? ⟨gb138, 3, none⟩ = some (.string (⟨#[]⟩ : ByteArray)) := (zC BK138.out 3).trans rfl; have hcz18_4 : w17.cell? ⟨gb138, 4, none⟩ = some (.string (⟨#[]⟩ : ByteArray)) := (zC BK138.out 4).trans rfl; have hcz18_5 : w17.cell? ⟨gb138, 5, none⟩ = some (.slice none 0 0) := (zC BK138.out 5).trans rfl; have hfz18_0 := zR BK138.out 0; have hfz18_1 := zR BK138.out 1; have hfz18_2 := zR BK138.out 2; have hfz18_3 := zR BK138.out 3; have hfz18_4 := zR BK138.out 4; have hfz18_5 := zR BK138.out 5) | ((with_reducible refine gate_store (t := 53) (p := 5) rfl ?_); refine store_event (t := 53) (p := 5) (v := ?vo_w19) (w1 := ((((((w17.setCell ⟨gb138, 0, none⟩ (.int .i64 ((rd_T53 l0 x12_1).f0))).setCell ⟨gb138, 1, none⟩ (.int .i64 ((rd_T53 l0 x12_1).f1))).setCell ⟨gb138, 2, none⟩ (.string ((rd_T53 l0 x12_1).f2))).setCell ⟨gb138, 3, none⟩ (.string ((rd_T53 l0 x12_1).f3))).setCell ⟨gb138, 4, none⟩ (.string ((rd_T53 l0 x12_1).f4))).setCell ⟨gb138, 5, none⟩ (.slice A137_5 ((rd_T53 l0 x12_1).f5).length c137_5))) ?hg ?ho ?hn ?hr ?_; (case ho => rfl); (case hg => rfl); (case hn => rfl); (case hr => first | (go_simp; done) | (go_simp; rfl)); intro w19 hw; have n0_ : Aside0 (Kd.R (Kd.int .i64) 3 w19 w.heap.size (fun _ => True) v135 x3_1) := ⟨(by rw [hw]; exact (by (with_reducible repeat (first | apply Kd.R_alloc | apply Kd.R_drewN | apply Kd.R_drew)); exact Kd.R_mono (Kd.R_far (p := ⟨gb138, 5, none⟩) (Kd.R_far (p := ⟨gb138, 4, none⟩) (Kd.R_far (p := ⟨gb138, 3, none⟩) (Kd.R_far (p := ⟨gb138, 2, none⟩) (Kd.R_far (p := ⟨gb138, 1, none⟩) (Kd.R_far (p := ⟨gb138, 0, none⟩) (Kd.R_types HO_3.out BK138.out (by decide)) (fun _ hk => hk.2) (.int .i64 ((rd_T53 l0 x12_1).f0))) (fun _ hk => hk.2) (.int .i64 ((rd_T53 l0 x12_1).f1))) (fun _ hk => hk.2) (.string ((rd_T53 l0 x12_1).f2))) (fun _ hk => hk.2) (.string ((rd_T53 l0 x12_1).f3))) (fun _ hk => hk.2) (.string ((rd_T53 l0 x12_1).f4))) (fun _ hk => hk.2) (.slice A137_5 ((rd_T53 l0 x12_1).f5).length c137_5)) (fun _ hk => trivial)))⟩; have n1_ : Aside0 (w19.heap[gb138]? = some (.cells #[.int .i64 ((rd_T53 l0 x12_1).f0), .int .i64 ((rd_T53 l0 x12_1).f1), .string ((rd_T53 l0 x12_1).f2), .string ((rd_T53 l0 x12_1).f3), .string ((rd_T53 l0 x12_1).f4), .slice A137_5 ((rd_T53 l0 x12_1).f5).length c137_5] 53 (0, 0))) := ⟨(by rw [hw]; exact (by (with_reducible repeat first | apply zM | apply zE | apply zF); refine zP (cs := #[.int .i64 ((rd_T53 l0 x12_1).f0), .int .i64 ((rd_T53 l0 x12_1).f1), .string ((rd_T53 l0 x12_1).f2), .string ((rd_T53 l0 x12_1).f3), .string ((rd_T53 l0 x12_1).f4), .slice none 0 0]) ?_ 5 _ rfl; (with_reducible repeat first | apply zM | apply zE | apply zF); refine zP (cs := #[.int .i64 ((rd_T53 l0 x12_1).f0), .int .i64 ((rd_T53 l0 x12_1).f1), .string ((rd_T53 l0 x12_1).f2), .string ((rd_T53 l0 x12_1).f3), .string (⟨#[]⟩ : ByteArray), .slice none 0 0]) ?_ 4 _ rfl; (with_reducible repeat first | apply zM | apply zE | apply zF); refine zP (cs := #[.int .i64 ((rd_T53 l0 x12_1).f0), .int .i64 ((rd_T53 l0 x12_1).f1), .string ((rd_T53 l0 x12_1).f2), .string (⟨#[]⟩ : ByteArray), .string (⟨#[]⟩ : ByteArray), .slice none 0 0]) ?_ 3 _ rfl; (with_reducible repeat first | apply zM | apply zE | apply zF); refine zP (cs := #[.int .i64 ((rd_T53 l0 x12_1).f0), .int .i64 ((rd_T53 l0 x12_1).f1), .string (⟨#[]⟩ : ByteArray), .string (⟨#[]⟩ : ByteArray), .string (⟨#[]⟩ : ByteArray), .slice none 0 0]) ?_ 2 _ rfl; (with_reducible repeat first | apply zM | apply zE | apply zF); refine zP (cs := #[.int .i64 ((rd_T53 l0 x12_1).f0), .int .i64 0, .string (⟨#[]⟩ : ByteArray), .string (⟨#[]⟩ : ByteArray), .string (⟨#[]⟩ : ByteArray), .slice none 0 0]) ?_ 1 _ rfl; (with_reducible repeat first | apply zM | apply zE | apply zF); refine zP (cs := #[.int .i64 0, .int .i64 0, .string (⟨#[]⟩ : ByteArray), .string (⟨#[]⟩ : ByteArray), .string (⟨#[]⟩ : ByteArray), .slice none 0 0]) ?_ 0 _ rfl; (with_reducible repeat first | apply zM | apply zE | apply zF); exact BK138.out))⟩; have n2_ : Aside0 (Below w.heap.size w w19) := ⟨(by rw [hw]; exact (by repeat (first | (with_reducible first | exact HB.out | apply zA | apply zN | apply zD | refine zS ?_ GE138.out) | exact HB.out)))⟩; clear hw; clear HO_3; clear BK138; clear HB; have HO_3 := n0_; have BK138 := n1_; have HB := n2_; clear n0_ n1_ n2_; have hcz20_0 : w19.cell? ⟨gb138, 0, none⟩ = some (.int .i64 ((rd_T53 l0 x12_1).f0)) := (zC BK138.out 0).trans rfl; have hcz20_1 : w19.cell? ⟨gb138, 1, none⟩ = some (.int .i64 ((rd_T53 l0 x12_1).f1)) := (zC BK138.out 1).trans rfl; have hcz20_2 : w19.cell? ⟨gb138, 2, none⟩ = some (.string ((rd_T53 l0 x12_1).f2)) := (zC BK138.out 2).trans rfl; have hcz20_3 : w19.cell? ⟨gb138, 3, none⟩ = some (.string ((rd_T53 l0 x12_1).f3)) := (zC BK138.out 3).trans rfl; have hcz20_4 : w19.cell? ⟨gb138, 4, none⟩ = some (.string ((rd_T53 l0 x12_1).f4)) := (zC BK138.out 4).trans rfl; have hcz20_5 : w19.cell? ⟨gb138, 5, none⟩ = some (.slice A137_5 ((rd_T53 l0 x12_1).f5).length c137_5) := (zC BK138.out 5).trans rfl; have hfz20_0 := zR BK138.out 0; have hfz20_1 := zR BK138.out 1; have hfz20_2 := zR BK138.out 2; have hfz20_3 := zR BK138.out 3; have hfz20_4 := zR BK138.out 4; have hfz20_5 := zR BK138.out 5; obtain ⟨Ao21, co21, eo21⟩ := Kd.R_slice HO_3.out; subst eo21; have p139 : 0 ≤ (((rd_T53 l0 x12_1).f1) : Int) := of_decide_eq_true (by first | (with_reducible assumption) | assumption); have q139 : ((rd_T53 l0 x12_1).f1) < (x3_1.length : Int) := of_decide_eq_true (by first | (with_reducible assumption) | assumption); obtain ⟨ad139, e139, hx139_0⟩ := Kd.at_int (Kd.R_reads' HO_3.out).2.2 ((rd_T53 l0 x12_1).f1) p139 q139; cases e139; replace p139 := eq_true p139; replace q139 := eq_true q139; have p15 : 0 ≤ ((ji12) : Int) := of_decide_eq_true (by first | (with_reducible assumption) | assumption); have q15 : ((ji12) : Int) < ((x3_1.length : Int) : Int) := of_decide_eq_true (by first | (with_reducible assumption) | assumption); obtain ⟨go15, co15, eo15, gb15, gl15, cl15, HG15⟩ := Kd.R_form HO_3.out (by omega); (first | cases eo15 | (injection eo15 with ea_ en_ ec_; (first | subst ea_ | (injection ea_ with ea_; subst ea_)); subst ec_; clear en_)); have GB15 := Aside0.mk gb15; have GG15 := Aside0.mk HG15; clear gb15 gl15 HG15; (first | simp only [add_plain] at hx139_0 | skip); obtain ⟨hx15_0, hf15_0⟩ := Kd.R_celln 0 HO_3.out ((ji12) : Int) p15 q15; replace p15 := eq_true p15; replace q15 := eq_true q15; obtain ⟨hy22_, hz22_⟩ := Kd.R_celln 0 HO_3.out ((ji12) : Int) (of_decide_eq_true (by first | (with_reducible assumption) | assumption)) (of_decide_eq_true (by first | (with_reducible assumption) | assumption)); have HP22 := Kd.R_putg HO_3.out ((ji12) : Int) (wrap64 ((rd x3_1 ((rd_T53 l0 x12_1).f1)) + 1))) | ((with_reducible refine gate_store (t := 3) (p := 26) rfl ?_); refine store_event (t := 3) (p := 26) (v := ?vo_w23) (w1 := (w19.setCell ⟨go15, ((ji12) : Int).toNat, none⟩ (.int .i64 (wrap64 ((rd x3_1 ((rd_T53 l0 x12_1).f1)) + 1))))) ?hg ?ho ?hn ?hr ?_; (case ho => rfl); (case hg => rfl); (case hn => rfl); (case hr => first | (go_simp; done) | (go_simp; rfl)); intro w23 hw; have hg : w19.grownBy w23 (some go15) := (by rw [hw]; exact HP22.2); have hp_ : Kd.R (Kd.int .i64) 3 w23 w.heap.size (fun _ => True) (.slice (some ⟨go15, 0, none⟩) x3_1.length co21) y140 := (by rw [hw, Ny140.out]; exact HP22.1); clear HP22; have n0_ := Aside0.mk (hp_); have n1_ := Aside0.mk (blk_grown (g := gb138) (o := .cells #[.int .i64 ((rd_T53 l0 x12_1).f0), .int .i64 ((rd_T53 l0 x12_1).f1), .string ((rd_T53 l0 x12_1).f2), .string ((rd_T53 l0 x12_1).f3), .string ((rd_T53 l0 x12_1).f4), .slice A137_5 ((rd_T53 l0 x12_1).f5).length c137_5] 53 (0, 0)) (by (with_reducible repeat first | apply zM | apply zE | apply zF); exact BK138.out) hg (Kd.R_ne HO_3.out BK138.out (by decide))); have n2_ := Aside0.mk ((by rw [hw]; exact zS (HB.out) GB15.out : Below w.heap.size w w23)); clear HO_3; clear BK138; clear HB; have HO_3 := n0_; have BK138 := n1_; have HB := n2_; clear n0_ n1_ n2_; clear hg hw hp_; have p141 : 0 ≤ ((ji12) : Int) := of_decide_eq_true (by first | (with_reducible assumption) | assumption); have q141 : (ji12) < (y140.length : Int) := (by have h_ : ((ji12) : Int) < ((x3_1.length : Int) : Int) := of_decide_eq_true (by first | (with_reducible assumption) | assumption); first | (have e_ := (Kd.R_reads' HO_3.out).1; omega) | simpa only [Ny140.out, List.length_set] using h_); have ql141 : (((ji12) : Int) < ((x3_1.length : Int) : Int)) = True := eq_true (of_decide_eq_true (by first | (with_reducible assumption) | assumption)); obtain ⟨ad141, e141, hx141_0⟩ := Kd.at_int (Kd.R_reads' HO_3.out).2.2 (ji12) p141 q141; obtain rfl : (⟨go15, 0, none⟩ : Addr) = ad141 := (by injection e141); (first | simp only [add_plain] at hx141_0 | simp only [add_at] at hx141_0 | simp only [Addr.add, Nat.zero_add] at hx141_0 | skip); replace p141 := eq_true p141; replace q141 := eq_true q141))
             go_ret
             exact ⟨by first | rfl | (simp [errW_none, errW_some] <;> rfl) | (simp only [← hji2, ← hji12]; first | rfl | (simp [errW_none, errW_some] <;> rfl)) | (simp [*, errW_none, errW_some] <;> rfl), by repeat (first | (with_reducible first | exact HB.out | apply zA | apply zN | apply zD | refine zS ?_ GE138.out) | exact HB.out)⟩
            ·
             rw [if_neg c16] at H
             have c16b0 : decide (64 < (rd y140 (ji12))) = false := decide_eq_false c16
             clear c16
             have H' := Aside0.mk H
             clear H
             have p137 : 0 ≤ (x12_1 : Int) := of_decide_eq_true (by first | (with_reducible assumption) | assumption)
             have q137 : x12_1 < (l0.length : Int) := of_decide_eq_true (by first | (with_reducible assumption) | assumption)
             obtain ⟨ad137, A137_5, c137_5, e137, hx137_0, hx137_1, hx137_2, hx137_3, hx137_4, hx137_5, hl137_5, hi137_5⟩ := at_T53 HR0.out x12_1 p137 q137
             cases e137
             replace hx137_0 := (HB.out.cell (World.block_lt_of_cell? w _ hx137_0)).trans hx137_0
             replace hx137_1 := (HB.out.cell (World.block_lt_of_cell? w _ hx137_1)).trans hx137_1
             replace hx137_2 := (HB.out.cell (World.block_lt_of_cell? w _ hx137_2)).trans hx137_2
             replace hx137_3 := (HB.out.cell (World.block_lt_of_cell? w _ hx137_3)).trans hx137_3
             replace hx137_4 := (HB.out.cell (World.block_lt_of_cell? w _ hx137_4)).trans hx137_4
             replace hx137_5 := (HB.out.cell (World.block_lt_of_cell? w _ hx137_5)).trans hx137_5
             have HR137_5 := Aside0.mk hi137_5
             have HC137_5 := Aside0.mk hl137_5
             clear hi137_5 hl137_5
             replace p137 := eq_true p137
             replace q137 := eq_true q137
             go_wp2_with (first | ((with_reducible refine gate_dst (N := 5) rfl ?_); refine box_event ?hg (N := 5) ?hd (cs := #[.int .i64 0, .int .i64 0, .string (⟨#[]⟩ : ByteArray), .string (⟨#[]⟩ : ByteArray), .string (⟨#[]⟩ : ByteArray), .slice none 0 0]) (t := 53) ?hr ?_; (case hd => rfl); (case hg => rfl); (case hr => first | (go_simp; done) | (go_simp; rfl)); intro gb138 hg w24 hbox hb; have n0_ := Aside0.mk (Kd.R_below (by (with_reducible repeat (first | apply Kd.R_alloc | apply Kd.R_drewN | apply Kd.R_drew)); exact HO_3.out) hb); have n1_ := Aside0.mk (below_step (by repeat (first | (with_reducible first | exact HB.out | apply zA | apply zN | apply zD) | exact HB.out)) hb); have n2_ := Aside0.mk (hbox); have n3_ := Aside0.mk ((by rw [hg]; exact (below_size (by repeat (first | (with_reducible first | exact HB.out | apply zA | apply zN | apply zD) | exact HB.out))) : w.heap.size ≤ gb138)); have n4_ := Aside0.mk ((by rw [hg]; exact (below_size (by repeat (first | (with_reducible first | exact HB.out | apply zA | apply zN | apply zD) | exact HB.out))) : w.heap.size ≤ gb138)); clear HO_3; clear HB; have HO_3 := n0_; have HB := n1_; have BK138 := n2_; have GW138 := n3_; have GE138 := n4_; clear n0_ n1_ n2_ n3_ n4_; clear hb hbox hg; have hcz25_0 : w24.cell? ⟨gb138, 0, none⟩ = some (.int .i64 0) := (zC BK138.out 0).trans rfl; have hcz25_1 : w24.cell? ⟨gb138, 1, none⟩ = some (.int .i64 0) := (zC BK138.out 1).trans rfl; have hcz25_2 : w24.cell? ⟨gb138, 2, none⟩ = some (.string (⟨#[]⟩ : ByteArray)) := (zC BK138.out 2).trans rfl; have hcz25_3 : w24.cell? ⟨gb138, 3, none⟩ = some (.string (⟨#[]⟩ : ByteArray)) := (zC BK138.out 3).trans rfl; have hcz25_4 : w24.cell? ⟨gb138, 4, none⟩ = some (.string (⟨#[]⟩ : ByteArray)) := (zC BK138.out 4).trans rfl; have hcz25_5 : w24.cell? ⟨gb138, 5, none⟩ = some (.slice none 0 0) := (zC BK138.out 5).trans rfl; have hfz25_0 := zR BK138.out 0; have hfz25_1 := zR BK138.out 1; have hfz25_2 := zR BK138.out 2; have hfz25_3 := zR BK138.out 3; have hfz25_4 := zR BK138.out 4; have hfz25_5 := zR BK138.out 5) | ((with_reducible refine gate_store (t := 53) (p := 5) rfl ?_); refine store_event (t := 53) (p := 5) (v := ?vo_w26) (w1 := ((((((w24.setCell ⟨gb138, 0, none⟩ (.int .i64 ((rd_T53 l0 x12_1).f0))).setCell ⟨gb138, 1, none⟩ (.int .i64 ((rd_T53 l0 x12_1).f1))).setCell ⟨gb138, 2, none⟩ (.string ((rd_T53 l0 x12_1).f2))).setCell ⟨gb138, 3, none⟩ (.string ((rd_T53 l0 x12_1).f3))).setCell ⟨gb138, 4, none⟩ (.string ((rd_T53 l0 x12_1).f4))).setCell ⟨gb138, 5, none⟩ (.slice A137_5 ((rd_T53 l0 x12_1).f5).length c137_5))) ?hg ?ho ?hn ?hr ?_; (case ho => rfl); (case hg => rfl); (case hn => rfl); (case hr => first | (go_simp; done) | (go_simp; rfl)); intro w26 hw; have n0_ : Aside0 (Kd.R (Kd.int .i64) 3 w26 w.heap.size (fun _ => True) v135 x3_1) := ⟨(by rw [hw]; exact (by (with_reducible repeat (first | apply Kd.R_alloc | apply Kd.R_drewN | apply Kd.R_drew)); exact Kd.R_mono (Kd.R_far (p := ⟨gb138, 5, none⟩) (Kd.R_far (p := ⟨gb138, 4, none⟩) (Kd.R_far (p := ⟨gb138, 3, none⟩) (Kd.R_far (p := ⟨gb138, 2, none⟩) (Kd.R_far (p := ⟨gb138, 1, none⟩) (Kd.R_far (p := ⟨gb138, 0, none⟩) (Kd.R_types HO_3.out BK138.out (by decide)) (fun _ hk => hk.2) (.int .i64 ((rd_T53 l0 x12_1).f0))) (fun _ hk => hk.2) (.int .i64 ((rd_T53 l0 x12_1).f1))) (fun _ hk => hk.2) (.string ((rd_T53 l0 x12_1).f2))) (fun _ hk => hk.2) (.string ((rd_T53 l0 x12_1).f3))) (fun _ hk => hk.2) (.string ((rd_T53 l0 x12_1).f4))) (fun _ hk => hk.2) (.slice A137_5 ((rd_T53 l0 x12_1).f5).length c137_5)) (fun _ hk => trivial)))⟩; have n1_ : Aside0 (w26.heap[gb138]? = some (.cells #[.int .i64 ((rd_T53 l0 x12_1).f0), .int .i64 ((rd_T53 l0 x12_1).f1), .string ((rd_T53 l0 x12_1).f2), .string ((rd_T53 l0 x12_1).f3), .string ((rd_T53 l0 x12_1).f4), .slice A137_5 ((rd_T53 l0 x12_1).f5).length c137_5] 53 (0, 0))) := ⟨(by rw [hw]; exact (by (with_reducible repeat first | apply zM | apply zE | apply zF); refine zP (cs := #[.int .i64 ((rd_T53 l0 x12_1).f0), .int .i64 ((rd_T53 l0 x12_1).f1), .string ((rd_T53 l0 x12_1).f2), .string ((rd_T53 l0 x12_1).f3), .string ((rd_T53 l0 x12_1).f4), .slice none 0 0]) ?_ 5 _ rfl; (with_reducible repeat first | apply zM | apply zE | apply zF); refine zP (cs := #[.int .i64 ((rd_T53 l0 x12_1).f0), .int .i64 ((rd_T53 l0 x12_1).f1), .string ((rd_T53 l0 x12_1).f2), .string ((rd_T53 l0 x12_1).f3), .string (⟨#[]⟩ : ByteArray), .slice none 0 0]) ?_ 4 _ rfl; (with_reducible repeat first | apply zM | apply zE | apply zF); refine zP (cs := #[.int .i64 ((rd_T53 l0 x12_1).f0), .int .i64 ((rd_T53 l0 x12_1).f1), .string ((rd_T53 l0 x12_1).f2), .string (⟨#[]⟩ : ByteArray), .string (⟨#[]⟩ : ByteArray), .slice none 0 0]) ?_ 3 _ rfl; (with_reducible repeat first | apply zM | apply zE | apply zF); refine zP (cs := #[.int .i64 ((rd_T53 l0 x12_1).f0), .int .i64 ((rd_T53 l0 x12_1).f1), .string (⟨#[]⟩ : ByteArray), .string (⟨#[]⟩ : ByteArray), .string (⟨#[]⟩ : ByteArray), .slice none 0 0]) ?_ 2 _ rfl; (with_reducible repeat first | apply zM | apply zE | apply zF); refine zP (cs := #[.int .i64 ((rd_T53 l0 x12_1).f0), .int .i64 0, .string (⟨#[]⟩ : ByteArray), .string (⟨#[]⟩ : ByteArray), .string (⟨#[]⟩ : ByteArray), .slice none 0 0]) ?_ 1 _ rfl; (with_reducible repeat first | apply zM | apply zE | apply zF); refine zP (cs := #[.int .i64 0, .int .i64 0, .string (⟨#[]⟩ : ByteArray), .string (⟨#[]⟩ : ByteArray), .string (⟨#[]⟩ : ByteArray), .slice none 0 0]) ?_ 0 _ rfl; (with_reducible repeat first | apply zM | apply zE | apply zF); exact BK138.out))⟩; have n2_ : Aside0 (Below w.heap.size w w26) := ⟨(by rw [hw]; exact (by repeat (first | (with_reducible first | exact HB.out | apply zA | apply zN | apply zD | refine zS ?_ GE138.out) | exact HB.out)))⟩; clear hw; clear HO_3; clear BK138; clear HB; have HO_3 := n0_; have BK138 := n1_; have HB := n2_; clear n0_ n1_ n2_; have hcz27_0 : w26.cell? ⟨gb138, 0, none⟩ = some (.int .i64 ((rd_T53 l0 x12_1).f0)) := (zC BK138.out 0).trans rfl; have hcz27_1 : w26.cell? ⟨gb138, 1, none⟩ = some (.int .i64 ((rd_T53 l0 x12_1).f1)) := (zC BK138.out 1).trans rfl; have hcz27_2 : w26.cell? ⟨gb138, 2, none⟩ = some (.string ((rd_T53 l0 x12_1).f2)) := (zC BK138.out 2).trans rfl; have hcz27_3 : w26.cell? ⟨gb138, 3, none⟩ = some (.string ((rd_T53 l0 x12_1).f3)) := (zC BK138.out 3).trans rfl; have hcz27_4 : w26.cell? ⟨gb138, 4, none⟩ = some (.string ((rd_T53 l0 x12_1).f4)) := (zC BK138.out 4).trans rfl; have hcz27_5 : w26.cell? ⟨gb138, 5, none⟩ = some (.slice A137_5 ((rd_T53 l0 x12_1).f5).length c137_5) := (zC BK138.out 5).trans rfl; have hfz27_0 := zR BK138.out 0; have hfz27_1 := zR BK138.out 1; have hfz27_2 := zR BK138.out 2; have hfz27_3 := zR BK138.out 3; have hfz27_4 := zR BK138.out 4; have hfz27_5 := zR BK138.out 5; obtain ⟨Ao28, co28, eo28⟩ := Kd.R_slice HO_3.out; subst eo28; have p139 : 0 ≤ (((rd_T53 l0 x12_1).f1) : Int) := of_decide_eq_true (by first | (with_reducible assumption) | assumption); have q139 : ((rd_T53 l0 x12_1).f1) < (x3_1.length : Int) := of_decide_eq_true (by first | (with_reducible assumption) | assumption); obtain ⟨ad139, e139, hx139_0⟩ := Kd.at_int (Kd.R_reads' HO_3.out).2.2 ((rd_T53 l0 x12_1).f1) p139 q139; cases e139; replace p139 := eq_true p139; replace q139 := eq_true q139; have p15 : 0 ≤ ((ji12) : Int) := of_decide_eq_true (by first | (with_reducible assumption) | assumption); have q15 : ((ji12) : Int) < ((x3_1.length : Int) : Int) := of_decide_eq_true (by first | (with_reducible assumption) | assumption); obtain ⟨go15, co15, eo15, gb15, gl15, cl15, HG15⟩ := Kd.R_form HO_3.out (by omega); (first | cases eo15 | (injection eo15 with ea_ en_ ec_; (first | subst ea_ | (injection ea_ with ea_; subst ea_)); subst ec_; clear en_)); have GB15 := Aside0.mk gb15; have GG15 := Aside0.mk HG15; clear gb15 gl15 HG15; (first | simp only [add_plain] at hx139_0 | skip); obtain ⟨hx15_0, hf15_0⟩ := Kd.R_celln 0 HO_3.out ((ji12) : Int) p15 q15; replace p15 := eq_true p15; replace q15 := eq_true q15; obtain ⟨hy29_, hz29_⟩ := Kd.R_celln 0 HO_3.out ((ji12) : Int) (of_decide_eq_true (by first | (with_reducible assumption) | assumption)) (of_decide_eq_true (by first | (with_reducible assumption) | assumption)); have HP29 := Kd.R_putg HO_3.out ((ji12) : Int) (wrap64 ((rd x3_1 ((rd_T53 l0 x12_1).f1)) + 1))) | ((with_reducible refine gate_store (t := 3) (p := 26) rfl ?_); refine store_event (t := 3) (p := 26) (v := ?vo_w30) (w1 := (w26.setCell ⟨go15, ((ji12) : Int).toNat, none⟩ (.int .i64 (wrap64 ((rd x3_1 ((rd_T53 l0 x12_1).f1)) + 1))))) ?hg ?ho ?hn ?hr ?_; (case ho => rfl); (case hg => rfl); (case hn => rfl); (case hr => first | (go_simp; done) | (go_simp; rfl)); intro w30 hw; have hg : w26.grownBy w30 (some go15) := (by rw [hw]; exact HP29.2); have hp_ : Kd.R (Kd.int .i64) 3 w30 w.heap.size (fun _ => True) (.slice (some ⟨go15, 0, none⟩) x3_1.length co28) y140 := (by rw [hw, Ny140.out]; exact HP29.1); clear HP29; have n0_ := Aside0.mk (hp_); have n1_ := Aside0.mk (blk_grown (g := gb138) (o := .cells #[.int .i64 ((rd_T53 l0 x12_1).f0), .int .i64 ((rd_T53 l0 x12_1).f1), .string ((rd_T53 l0 x12_1).f2), .string ((rd_T53 l0 x12_1).f3), .string ((rd_T53 l0 x12_1).f4), .slice A137_5 ((rd_T53 l0 x12_1).f5).length c137_5] 53 (0, 0)) (by (with_reducible repeat first | apply zM | apply zE | apply zF); exact BK138.out) hg (Kd.R_ne HO_3.out BK138.out (by decide))); have n2_ := Aside0.mk ((by rw [hw]; exact zS (HB.out) GB15.out : Below w.heap.size w w30)); clear HO_3; clear BK138; clear HB; have HO_3 := n0_; have BK138 := n1_; have HB := n2_; clear n0_ n1_ n2_; clear hg hw hp_; have p141 : 0 ≤ ((ji12) : Int) := of_decide_eq_true (by first | (with_reducible assumption) | assumption); have q141 : (ji12) < (y140.length : Int) := (by have h_ : ((ji12) : Int) < ((x3_1.length : Int) : Int) := of_decide_eq_true (by first | (with_reducible assumption) | assumption); first | (have e_ := (Kd.R_reads' HO_3.out).1; omega) | simpa only [Ny140.out, List.length_set] using h_); have ql141 : (((ji12) : Int) < ((x3_1.length : Int) : Int)) = True := eq_true (of_decide_eq_true (by first | (with_reducible assumption) | assumption)); obtain ⟨ad141, e141, hx141_0⟩ := Kd.at_int (Kd.R_reads' HO_3.out).2.2 (ji12) p141 q141; obtain rfl : (⟨go15, 0, none⟩ : Addr) = ad141 := (by injection e141); (first | simp only [add_plain] at hx141_0 | simp only [add_at] at hx141_0 | simp only [Addr.add, Nat.zero_add] at hx141_0 | skip); replace p141 := eq_true p141; replace q141 := eq_true q141))
             go_roundg k1
             case measure => have := HK1.out; omega
             case rel => exact ⟨(y140), (ji12), (by first | rfl | (simp; done) | (simp only [← hji12] <;> (first | rfl | simp)) | (simp [*]; done)), H', ⟨by have := HK1.out; omega⟩, ⟨by (with_reducible repeat (first | apply Kd.R_alloc | apply Kd.R_drewN | apply Kd.R_drew)); exact HO_3.out⟩, ⟨by repeat (first | (with_reducible first | exact HB.out | apply zA | apply zN | apply zD | refine zS ?_ GE138.out) | exact HB.out)⟩⟩
           ·
            rw [if_neg c14] at H
            exact absurd H (by simp)
          ·
           rw [if_neg c13] at H
           exact absurd H (by simp)
         ·
          rw [if_neg c11] at H
          exact absurd H (by simp)
        ·
         rw [if_neg c10] at H
         exact absurd H (by simp)
       ·
        rw [if_neg c9] at H
        exact absurd H (by simp)
      ·
       rw [if_neg c8] at H
       exact absurd H (by simp)
     ·
      rw [if_neg c7] at H
      have c7b0 : decide (x12_1 < (l0.length : Int)) = false := decide_eq_false c7
      clear c7
      obtain rfl := Option.some.inj H
      go_wp2
      go_ret
      exact ⟨by first | rfl | (simp [errW_none, errW_some] <;> rfl) | (simp only [← hji2]; first | rfl | (simp [errW_none, errW_some] <;> rfl)) | (simp [*, errW_none, errW_some] <;> rfl), by repeat (first | (with_reducible first | exact HB.out | apply zA | apply zN | apply zD) | exact HB.out)⟩
  ·
   rw [if_neg c4] at H
   exact absurd H (by simp)
 ·
  rw [if_neg c3] at H
  exact absurd H (by simp)

-- squeezed
open Go.Proofs.YtcebfldagnjddaaW.PrintWords renaming below_alloc → zA, pw_below_drewN → zN, below_drew1 → zD, below_set → zS, blk_drewN → zM, blk_drew → zE, blk_alloc → zF, blk_far → zG, blk_put → zP, blk_cell → zC, blk_frozen → zR
/-! ### flat_cut: function 35 -/
def flat_cut.l0 : Nat → List (S53) → List Int → List (S53) → Int → Int → Option ((List (S53)))
 | 0, _, _, _, _, _ => none
 | k + 1, x0, x3, x10, x11, x12 => if x12 < x11 then (if 0 ≤ x12 then (if x12 < (x10.length : Int) then (if 0 ≤ ((rd_T53 x10 x12).f1) then (if ((rd_T53 x10 x12).f1) < (x3.length : Int) then (if 0 ≤ (wrap64 (x12 + 1)) then (if (wrap64 (x12 + 1)) < (x3.length : Int) then ((some (x3.set ((wrap64 (x12 + 1)) : Int).toNat (wrap64 ((rd x3 ((rd_T53 x10 x12).f1)) + 1)) : List Int)).bind fun y148 => (if (rd y148 (wrap64 (x12 + 1))) > 64 then (if (wrap64 (x12 + 1)) ≤ (x0.length : Int) then (some (x0.take ((wrap64 (x12 + 1)) : Int).toNat)) else (none)) else (if x12 = 4096 then (if (wrap64 (x12 + 1)) ≤ (x0.length : Int) then (some (x0.take ((wrap64 (x12 + 1)) : Int).toNat)) else (none)) else (flat_cut.l0 k x0 y148 x10 x11 (wrap64 (x12 + 1)))))) else (none)) else (none)) else (none)) else (none)) else (none)) else (none)) else (some x0)
def flat_cut.f (k : Nat) (l0 : List (S53)) : Option ((List (S53))) := if 0 ≤ (wrap64 ((l0.length : Int) + 1)) then (if (wrap64 ((l0.length : Int) + 1) : Int).toNat ≤ 35184372088832 then (flat_cut.l0 k l0 (List.replicate (wrap64 ((l0.length : Int) + 1) : Int).toNat 0) l0 (l0.length : Int) 0) else (none)) else (none)
theorem flat_cut.mono_l : ∀ k, (∀ y0 y1 y2 y3 y4, LeO (flat_cut.l0 k y0 y1 y2 y3 y4) (flat_cut.l0 (k + 1) y0 y1 y2 y3 y4))
 | 0 => fun _ _ _ _ _ r h => by simp [flat_cut.l0] at h
 | k + 1 => by
  have ih0 := flat_cut.mono_l k
  ·
   intro y0 y1 y2 y3 y4
   unfold flat_cut.l0
   repeat' first
   | (with_reducible exact ih0 _ _ _ _ _)
   | (with_reducible exact LeO.refl _)
   | (with_reducible exact LeO.none _)
   | (with_reducible refine LeO.ite ?_ ?_)
   | (with_reducible refine LeO.bind ?_ (fun _ => ?_))
   | exact ih0 _ _ _ _ _
   | exact LeO.none _
   | refine LeO.ite ?_ ?_
   | refine LeO.bind ?_ (fun _ => ?_)
theorem flat_cut.mono : ∀ a0 k, LeO (flat_cut.f k a0) (flat_cut.f (k + 1) a0) := by
 intro a0 k
 have ih0 := flat_cut.mono_l k
 unfold flat_cut.f
 repeat' first
   | (with_reducible exact ih0 _ _ _ _ _)
   | (with_reducible exact LeO.refl _)
   | (with_reducible exact LeO.none _)
   | (with_reducible refine LeO.ite ?_ ?_)
   | (with_reducible refine LeO.bind ?_ (fun _ => ?_))
   | exact ih0 _ _ _ _ _
   | exact LeO.none _
   | refine LeO.ite ?_ ?_
   | refine LeO.bind ?_ (fun _ => ?_)
set_option maxHeartbeats 8000000 in
set_option maxRecDepth 100000 in
theorem flat_cut.calls (k : Nat) (P0_ : Nat → Prop) (A0 : Option Addr) (c0 : Nat) (l0 : List (S53)) (r : List (S53)) (w : World) (hs0 : Kd.V k53 53 w w.heap.size (fun k_ => P0_ k_) (.slice A0 l0.length c0) l0) (h : flat_cut.f k l0 = some r) :
  Calls Try.prog 35 #[.slice A0 l0.length c0] w fun e w' => ∃ v0_ : Value, e = .returned (v0_) ∧ Kd.V k53 53 w' w.heap.size (fun k_ => (P0_ k_ ∨ w.heap.size ≤ k_)) v0_ r ∧ Below w.heap.size w w' := by
 have hu53 := Try.underlying53
 have HO0 := Aside0.mk (show Kd.V k53 53 w w.heap.size (fun k_ => (P0_ k_ ∨ w.heap.size ≤ k_)) (.slice A0 l0.length c0) l0 from Kd.V_mono hs0 (fun k_ hk => .inl hk))
 have HB := Aside0.mk (Below.refl w.heap.size w)
 have H : (if 0 ≤ (wrap64 ((l0.length : Int) + 1)) then (if (wrap64 ((l0.length : Int) + 1) : Int).toNat ≤ 35184372088832 then (flat_cut.l0 k l0 (List.replicate (wrap64 ((l0.length : Int) + 1) : Int).toNat 0) l0 (l0.length : Int) 0) else (none)) else (none)) = some r := h
 clear h
 obtain ⟨ji2, hji2⟩ : ∃ j_ : Int, (wrap64 ((l0.length : Int) + 1)) = j_ := ⟨_, rfl⟩
 replace H : (if 0 ≤ (ji2) then (if (ji2 : Int).toNat ≤ 35184372088832 then (flat_cut.l0 k l0 (List.replicate (ji2 : Int).toNat 0) l0 (l0.length : Int) 0) else (none)) else (none)) = some r := by first | (rw [hji2] at H; exact H) | (simp only [hji2] at H ⊢; exact H)
 have hji2w : (IntKind.i64.wrap ((l0.length : Int) + 1)) = ji2 := (i64_w _).trans hji2
 by_cases c3 : 0 ≤ (ji2)
 ·
  rw [if_pos c3] at H
  have c3b0 := eq_true c3
  have c3b1 : decide (0 ≤ (ji2)) = true := decide_eq_true c3
  clear c3
  by_cases c4 : (ji2 : Int).toNat ≤ 35184372088832
  ·
   rw [if_pos c4] at H
   have c4b0 := eq_true c4
   have c4b1 : decide ((ji2 : Int).toNat ≤ 35184372088832) = true := decide_eq_true c4
   clear c4
   obtain ⟨y142, hy142⟩ : ∃ y_ : List Int, y_ = (List.replicate (ji2 : Int).toNat 0) := ⟨_, rfl⟩
   replace H : (flat_cut.l0 k l0 y142 l0 (l0.length : Int) 0) = some r := by first | (rw [hy142]; with_reducible exact H) | (have H2_ := (Option.bind_some _ _).symm.trans H; rw [hy142]; with_reducible exact H2_) | (have H2_ := (Option.bind_some _ _).symm.trans H; with_reducible exact H2_) | with_reducible exact H | (rw [hy142]; exact H) | exact H
   have Ny142 := Aside0.mk hy142
   clear hy142
   have H' := Aside0.mk H
   clear H
   go_enter Try.func35, Try.ntmps35
   go_wp2_with (first | ((with_reducible refine gate_dst (N := 9) rfl ?_); refine Kd.R_make (Kd.int .i64) _ 3 rfl (N := 9) rfl 43 _ _ rfl ji2 rfl rfl Try.underlying43 (.int .i64 0) 8 info3 rfl (by decide) (by omega) 0 (ok := fun _ => True) (okp := fun _ => True) rfl (fun _ hk => hk) trivial (of_decide_eq_true (by first | (with_reducible assumption) | assumption)) (Nat.le_trans (Nat.mul_le_mul_right _ (of_decide_eq_true (by first | (with_reducible assumption) | assumption) : ji2.toNat ≤ 35184372088832)) (by omega)) (Below.refl _ _) (Nat.le_refl _) ?_; intro v143 w5 ho6 hb hg_ hnew_; clear hg_ hnew_; (first | rw [← Ny142.out] at ho6 | (simp only [Int.reduceToNat] at ho6; rw [← Ny142.out] at ho6)); have n0_ := Aside0.mk (Kd.V_elder' (by (with_reducible repeat (first | apply Kd.V_alloc | apply Kd.V_drewN | apply Kd.V_drew)); exact HO0.out) (Kd.R_base ho6) hb); have n1_ := Aside0.mk (Kd.R_lower (Kd.R_newM (M := fun k_ => (w.heap.size ≤ k_)) ho6 (below_size (by repeat (first | (with_reducible first | exact HB.out | apply zA | apply zN | apply zD) | exact HB.out))) (fun k_ h_ => h_)) (below_size (by repeat (first | (with_reducible first | exact HB.out | apply zA | apply zN | apply zD) | exact HB.out)))); have n2_ := Aside0.mk (below_step (by repeat (first | (with_reducible first | exact HB.out | apply zA | apply zN | apply zD) | exact HB.out)) hb); clear HO0; clear HB; have HO0 := n0_; have HO144 := n1_; have HB := n2_; clear n0_ n1_ n2_; clear hb ho6))
   go_loopg [12] k (fun kq v12 w' => ∃ (x3_1 : List Int) (x12_1 : Int), v12 = .int .i64 x12_1 ∧ Aside0 (flat_cut.l0 kq l0 x3_1 l0 (l0.length : Int) x12_1 = some r) ∧ Aside0 (kq ≤ k) ∧ Aside0 (Kd.V k53 53 w' w.heap.size (fun k_ => (P0_ k_ ∨ w.heap.size ≤ k_) ∧ some k_ ≠ (v143 : Value).ownBlock) (.slice A0 l0.length c0) l0) ∧ Aside0 (Kd.R (Kd.int .i64) 3 w' w.heap.size (fun k_ => (w.heap.size ≤ k_)) v143 x3_1) ∧ Aside0 (Kd.V k53 53 w' w.heap.size (fun k_ => (P0_ k_ ∨ w.heap.size ≤ k_) ∧ some k_ ≠ (v143 : Value).ownBlock) (.slice A0 l0.length c0) l0) ∧ Aside0 (Below w.heap.size w w'))
   case atStart => exact ⟨(y142), (0), (by first | rfl | (simp; done) | (simp [*]; done)), H', ⟨Nat.le_refl _⟩, ⟨by (with_reducible repeat (first | apply Kd.V_alloc | apply Kd.V_drewN | apply Kd.V_drew)); exact HO0.out⟩, ⟨by (with_reducible repeat (first | apply Kd.R_alloc | apply Kd.R_drewN | apply Kd.R_drew)); exact Kd.R_mono HO144.out (fun _ hk => hk.1)⟩, ⟨by (with_reducible repeat (first | apply Kd.V_alloc | apply Kd.V_drewN | apply Kd.V_drew)); exact HO0.out⟩, ⟨by repeat (first | (with_reducible first | exact HB.out | apply zA | apply zN | apply zD) | exact HB.out)⟩⟩
   case round =>
    clear H'
    try clear p2
    try clear c3
    try clear c3b0
    try clear c3b1
    try clear c4
    try clear c4b0
    try clear c4b1
    try clear p6
    obtain ⟨x3_1, x12_1, rfl, HA, HK1, HO_0, HO_3, HO_10, HB⟩ := hrel
    cases gk with
    | zero => exact absurd HA.out (by simp [flat_cut.l0])
    | succ k1 =>
     have H := HA.out
     clear HA
     simp only [flat_cut.l0] at H
     by_cases c7 : x12_1 < (l0.length : Int)
     ·
      rw [if_pos c7] at H
      have c7b0 : decide (x12_1 < (l0.length : Int)) = true := decide_eq_true c7
      clear c7
      by_cases c8 : 0 ≤ x12_1
      ·
       rw [if_pos c8] at H
       have c8b0 : decide (0 ≤ x12_1) = true := decide_eq_true c8
       clear c8
       by_cases c9 : x12_1 < (l0.length : Int)
       ·
        rw [if_pos c9] at H
        have c9b0 : decide (x12_1 < (l0.length : Int)) = true := decide_eq_true c9
        clear c9
        by_cases c10 : 0 ≤ ((rd_T53 l0 x12_1).f1)
        ·
         rw [if_pos c10] at H
         have c10b0 : decide (0 ≤ ((rd_T53 l0 x12_1).f1)) = true := decide_eq_true c10
         clear c10
         by_cases c11 : ((rd_T53 l0 x12_1).f1) < (x3_1.length : Int)
         ·
          rw [if_pos c11] at H
          have c11b0 : decide (((rd_T53 l0 x12_1).f1) < (x3_1.length : Int)) = true := decide_eq_true c11
          clear c11
          obtain ⟨ji12, hji12⟩ : ∃ j_ : Int, (wrap64 (x12_1 + 1)) = j_ := ⟨_, rfl⟩
          replace H : (if 0 ≤ (ji12) then (if (ji12) < (x3_1.length : Int) then ((some (x3_1.set ((ji12) : Int).toNat (wrap64 ((rd x3_1 ((rd_T53 l0 x12_1).f1)) + 1)) : List Int)).bind fun y148 => (if (rd y148 (ji12)) > 64 then (if (ji12) ≤ (l0.length : Int) then (some (l0.take ((ji12) : Int).toNat)) else (none)) else (if x12_1 = 4096 then (if (ji12) ≤ (l0.length : Int) then (some (l0.take ((ji12) : Int).toNat)) else (none)) else (flat_cut.l0 k1 l0 y148 l0 (l0.length : Int) ji12)))) else (none)) else (none)) = some r := by first | (rw [hji12] at H; exact H) | (simp only [hji12] at H ⊢; exact H)
          have hji12w : (IntKind.i64.wrap (x12_1 + 1)) = ji12 := (i64_w _).trans hji12
          by_cases c13 : 0 ≤ (ji12)
          ·
           rw [if_pos c13] at H
           have c13b0 : decide (0 ≤ (ji12)) = true := decide_eq_true c13
           clear c13
           by_cases c14 : (ji12) < (x3_1.length : Int)
           ·
            rw [if_pos c14] at H
            have c14b0 : decide ((ji12) < (x3_1.length : Int)) = true := decide_eq_true c14
            clear c14
            obtain ⟨y148, hy148⟩ : ∃ y_ : List Int, y_ = (x3_1.set ((ji12) : Int).toNat (wrap64 ((rd x3_1 ((rd_T53 l0 x12_1).f1)) + 1))) := ⟨_, rfl⟩
            replace H : (if (rd y148 (ji12)) > 64 then (if (ji12) ≤ (l0.length : Int) then (some (l0.take ((ji12) : Int).toNat)) else (none)) else (if x12_1 = 4096 then (if (ji12) ≤ (l0.length : Int) then (some (l0.take ((ji12) : Int).toNat)) else (none)) else (flat_cut.l0 k1 l0 y148 l0 (l0.length : Int) ji12))) = some r := by first | (rw [hy148]; with_reducible exact H) | (have H2_ := (Option.bind_some _ _).symm.trans H; rw [hy148]; with_reducible exact H2_) | (have H2_ := (Option.bind_some _ _).symm.trans H; with_reducible exact H2_) | with_reducible exact H | (rw [hy148]; exact H) | exact H
            have Ny148 := Aside0.mk hy148
            clear hy148
            by_cases c16 : (rd y148 (ji12)) > 64
            ·
             rw [if_pos c16] at H
             have c16b0 : decide (64 < (rd y148 (ji12))) = true := decide_eq_true c16
             clear c16
             have c17b0 := eq_true (of_decide_eq_true (by first | (with_reducible assumption) | assumption) : 0 ≤ (ji12))
             by_cases c18 : (ji12) ≤ (l0.length : Int)
             ·
              rw [if_pos c18] at H
              have c18b0 := eq_true c18
              have c18b1 : decide ((ji12) ≤ (l0.length : Int)) = true := decide_eq_true c18
              clear c18
              obtain ⟨y150, hy150⟩ : ∃ y_ : List (S53), y_ = (l0.take ((ji12) : Int).toNat) := ⟨_, rfl⟩
              replace H : (some y150) = some r := by first | (rw [hy150]; with_reducible exact H) | (have H2_ := (Option.bind_some _ _).symm.trans H; rw [hy150]; with_reducible exact H2_) | (have H2_ := (Option.bind_some _ _).symm.trans H; with_reducible exact H2_) | with_reducible exact H | (rw [hy150]; exact H) | exact H
              have Ny150 := Aside0.mk hy150
              clear hy150
              obtain rfl := Option.some.inj H
              have p145 : 0 ≤ (x12_1 : Int) := of_decide_eq_true (by first | (with_reducible assumption) | assumption)
              have q145 : x12_1 < (l0.length : Int) := of_decide_eq_true (by first | (with_reducible assumption) | assumption)
              obtain ⟨ad145, A145_5, c145_5, e145, hx145_0, hx145_1, hx145_2, hx145_3, hx145_4, hx145_5, hl145_5, hi145_5⟩ := at_T53 (Kd.V_reads' HO_10.out).2.2 x12_1 p145 q145
              cases e145
              obtain ⟨ce145, hce145, hMe145, hcc145⟩ := Kd.V_get HO_10.out z53 x12_1 p145 (by first | exact q145 | exact of_decide_eq_true (by first | (with_reducible assumption) | assumption) | (have e_ := (Kd.V_reads' HO_10.out).1; omega))
              obtain ⟨ua145_5, uc145_5, rfl, ul145_5, ge145_5⟩ := k53_openF hMe145
              have hv145_5 := hcc145 5 _ rfl
              rw [add_field _ _ 5 (by omega)] at hv145_5
              replace hv145_5 := Option.some.inj (hv145_5.symm.trans hx145_5)
              injection hv145_5 with hva_ hvn_ hvc_
              rw [hva_] at ge145_5
              rw [hvc_] at ul145_5
              have HL145_5 := Aside0.mk (show Kd.V k69 69 _ w.heap.size _ _ ((rd_T53 l0 x12_1).f5) from Kd.V_mk ul145_5 ge145_5)
              clear hva_ hvn_ hvc_ ge145_5 ul145_5
              clear hcc145 hce145
              have HR145_5 := Aside0.mk hi145_5
              have HC145_5 := Aside0.mk hl145_5
              clear hi145_5 hl145_5
              replace p145 := eq_true p145
              replace q145 := eq_true q145
              go_wp2_with (first | ((with_reducible refine gate_dst (N := 5) rfl ?_); refine box_event ?hg (N := 5) ?hd (cs := #[.int .i64 0, .int .i64 0, .string (⟨#[]⟩ : ByteArray), .string (⟨#[]⟩ : ByteArray), .string (⟨#[]⟩ : ByteArray), .slice none 0 0]) (t := 53) ?hr ?_; (case hd => rfl); (case hg => rfl); (case hr => first | (go_simp; done) | (go_simp; rfl)); intro gb146 hg w19 hbox hb; have n0_ := Aside0.mk (Kd.V_below (Kd.V_elderB (by (with_reducible repeat (first | apply Kd.V_alloc | apply Kd.V_drewN | apply Kd.V_drew)); exact HO_0.out) gb146 (Nat.le_of_eq hg.symm)) hb); have n1_ := Aside0.mk (Kd.R_below (by (with_reducible repeat (first | apply Kd.R_alloc | apply Kd.R_drewN | apply Kd.R_drew)); exact HO_3.out) hb); have n2_ := Aside0.mk (Kd.V_below (Kd.V_elderB (by (with_reducible repeat (first | apply Kd.V_alloc | apply Kd.V_drewN | apply Kd.V_drew)); exact HO_10.out) gb146 (Nat.le_of_eq hg.symm)) hb); have n3_ := Aside0.mk (Kd.V_below (Kd.V_elderB (by (with_reducible repeat (first | apply Kd.V_alloc | apply Kd.V_drewN | apply Kd.V_drew)); exact HL145_5.out) gb146 (Nat.le_of_eq hg.symm)) hb); have n4_ := Aside0.mk (Kd.C_below (by repeat (first | (with_reducible exact HR145_5.out) | (with_reducible refine Kd.C_alloc ?_ _) | (with_reducible refine Kd.C_drewN ?_ _) | (with_reducible refine Kd.C_drew ?_) | exact HR145_5.out)) hb); have n5_ := Aside0.mk (below_step (by repeat (first | (with_reducible first | exact HB.out | apply zA | apply zN | apply zD) | exact HB.out)) hb); have n6_ := Aside0.mk (hbox); have n7_ := Aside0.mk ((by rw [hg]; exact (below_size (by repeat (first | (with_reducible first | exact HB.out | apply zA | apply zN | apply zD) | exact HB.out))) : w.heap.size ≤ gb146)); have n8_ := Aside0.mk ((by rw [hg]; exact (below_size (by repeat (first | (with_reducible first | exact HB.out | apply zA | apply zN | apply zD) | exact HB.out))) : w.heap.size ≤ gb146)); clear HO_0; clear HO_3; clear HO_10; clear HL145_5; clear HR145_5; clear HB; have HO_0 := n0_; have HO_3 := n1_; have HO_10 := n2_; have HL145_5 := n3_; have HR145_5 := n4_; have HB := n5_; have BK146 := n6_; have GW146 := n7_; have GE146 := n8_; clear n0_ n1_ n2_ n3_ n4_ n5_ n6_ n7_ n8_; clear hb hbox hg; have hcz20_0 : w19.cell? ⟨gb146, 0, none⟩ = some (.int .i64 0) := (zC BK146.out 0).trans rfl; have hcz20_1 : w19.cell? ⟨gb146, 1, none⟩ = some (.int .i64 0) := (zC BK146.out 1).trans rfl; have hcz20_2 : w19.cell? ⟨gb146, 2, none⟩ = some (.string (⟨#[]⟩ : ByteArray)) := (zC BK146.out 2).trans rfl; have hcz20_3 : w19.cell? ⟨gb146, 3, none⟩ = some (.string (⟨#[]⟩ : ByteArray)) := (zC BK146.out 3).trans rfl; have hcz20_4 : w19.cell? ⟨gb146, 4, none⟩ = some (.string (⟨#[]⟩ : ByteArray)) := (zC BK146.out 4).trans rfl; have hcz20_5 : w19.cell? ⟨gb146, 5, none⟩ = some (.slice none 0 0) := (zC BK146.out 5).trans rfl; have hfz20_0 := zR BK146.out 0; have hfz20_1 := zR BK146.out 1; have hfz20_2 := zR BK146.out 2; have hfz20_3 := zR BK146.out 3; have hfz20_4 := zR BK146.out 4; have hfz20_5 := zR BK146.out 5) | ((with_reducible refine gate_store (t := 53) (p := 5) rfl ?_); refine store_event (t := 53) (p := 5) (v := ?vo_w21) (w1 := ((((((w19.setCell ⟨gb146, 0, none⟩ (.int .i64 ((rd_T53 l0 x12_1).f0))).setCell ⟨gb146, 1, none⟩ (.int .i64 ((rd_T53 l0 x12_1).f1))).setCell ⟨gb146, 2, none⟩ (.string ((rd_T53 l0 x12_1).f2))).setCell ⟨gb146, 3, none⟩ (.string ((rd_T53 l0 x12_1).f3))).setCell ⟨gb146, 4, none⟩ (.string ((rd_T53 l0 x12_1).f4))).setCell ⟨gb146, 5, none⟩ (.slice A145_5 ((rd_T53 l0 x12_1).f5).length c145_5))) ?hg ?ho ?hn ?hr ?_; (case ho => rfl); (case hg => rfl); (case hn => rfl); (case hr => first | (go_simp; done) | (go_simp; rfl)); intro w21 hw; have n0_ : Aside0 (Kd.V k53 53 w21 w.heap.size (fun k_ => (P0_ k_ ∨ w.heap.size ≤ k_) ∧ some k_ ≠ (v143 : Value).ownBlock ∧ k_ ≠ gb146) (.slice (some ad145) l0.length c0) l0) := ⟨(by rw [hw]; exact (by (with_reducible repeat (first | apply Kd.V_alloc | apply Kd.V_drewN | apply Kd.V_drew)); exact Kd.V_mono (Kd.V_far (p := ⟨gb146, 5, none⟩) (Kd.V_far (p := ⟨gb146, 4, none⟩) (Kd.V_far (p := ⟨gb146, 3, none⟩) (Kd.V_far (p := ⟨gb146, 2, none⟩) (Kd.V_far (p := ⟨gb146, 1, none⟩) (Kd.V_far (p := ⟨gb146, 0, none⟩) (Kd.V_mono HO_0.out (fun k_ hk => (⟨hk, hk.2⟩ : _ ∧ k_ ≠ gb146))) (fun _ hk => hk.2) (.int .i64 ((rd_T53 l0 x12_1).f0))) (fun _ hk => hk.2) (.int .i64 ((rd_T53 l0 x12_1).f1))) (fun _ hk => hk.2) (.string ((rd_T53 l0 x12_1).f2))) (fun _ hk => hk.2) (.string ((rd_T53 l0 x12_1).f3))) (fun _ hk => hk.2) (.string ((rd_T53 l0 x12_1).f4))) (fun _ hk => hk.2) (.slice A145_5 ((rd_T53 l0 x12_1).f5).length c145_5)) (fun _ hk => ⟨hk.1.1.1, ⟨hk.1.1.2, hk.1.2⟩⟩)))⟩; have n1_ : Aside0 (Kd.R (Kd.int .i64) 3 w21 w.heap.size (fun k_ => (w.heap.size ≤ k_)) v143 x3_1) := ⟨(by rw [hw]; exact (by (with_reducible repeat (first | apply Kd.R_alloc | apply Kd.R_drewN | apply Kd.R_drew)); exact Kd.R_mono (Kd.R_far (p := ⟨gb146, 5, none⟩) (Kd.R_far (p := ⟨gb146, 4, none⟩) (Kd.R_far (p := ⟨gb146, 3, none⟩) (Kd.R_far (p := ⟨gb146, 2, none⟩) (Kd.R_far (p := ⟨gb146, 1, none⟩) (Kd.R_far (p := ⟨gb146, 0, none⟩) (Kd.R_types HO_3.out BK146.out (by decide)) (fun _ hk => hk.2) (.int .i64 ((rd_T53 l0 x12_1).f0))) (fun _ hk => hk.2) (.int .i64 ((rd_T53 l0 x12_1).f1))) (fun _ hk => hk.2) (.string ((rd_T53 l0 x12_1).f2))) (fun _ hk => hk.2) (.string ((rd_T53 l0 x12_1).f3))) (fun _ hk => hk.2) (.string ((rd_T53 l0 x12_1).f4))) (fun _ hk => hk.2) (.slice A145_5 ((rd_T53 l0 x12_1).f5).length c145_5)) (fun _ hk => hk.1)))⟩; have n2_ : Aside0 (Kd.V k53 53 w21 w.heap.size (fun k_ => (P0_ k_ ∨ w.heap.size ≤ k_) ∧ some k_ ≠ (v143 : Value).ownBlock ∧ k_ ≠ gb146) (.slice (some ad145) l0.length c0) l0) := ⟨(by rw [hw]; exact (by (with_reducible repeat (first | apply Kd.V_alloc | apply Kd.V_drewN | apply Kd.V_drew)); exact Kd.V_mono (Kd.V_far (p := ⟨gb146, 5, none⟩) (Kd.V_far (p := ⟨gb146, 4, none⟩) (Kd.V_far (p := ⟨gb146, 3, none⟩) (Kd.V_far (p := ⟨gb146, 2, none⟩) (Kd.V_far (p := ⟨gb146, 1, none⟩) (Kd.V_far (p := ⟨gb146, 0, none⟩) (Kd.V_mono HO_10.out (fun k_ hk => (⟨hk, hk.2⟩ : _ ∧ k_ ≠ gb146))) (fun _ hk => hk.2) (.int .i64 ((rd_T53 l0 x12_1).f0))) (fun _ hk => hk.2) (.int .i64 ((rd_T53 l0 x12_1).f1))) (fun _ hk => hk.2) (.string ((rd_T53 l0 x12_1).f2))) (fun _ hk => hk.2) (.string ((rd_T53 l0 x12_1).f3))) (fun _ hk => hk.2) (.string ((rd_T53 l0 x12_1).f4))) (fun _ hk => hk.2) (.slice A145_5 ((rd_T53 l0 x12_1).f5).length c145_5)) (fun _ hk => ⟨hk.1.1.1, ⟨hk.1.1.2, hk.1.2⟩⟩)))⟩; have n3_ : Aside0 (Kd.V k69 69 w21 w.heap.size (fun k_ => (P0_ k_ ∨ w.heap.size ≤ k_) ∧ some k_ ≠ (v143 : Value).ownBlock ∧ k_ ≠ gb146) (.slice A145_5 ((rd_T53 l0 x12_1).f5).length c145_5) ((rd_T53 l0 x12_1).f5)) := ⟨(by rw [hw]; exact (by (with_reducible repeat (first | apply Kd.V_alloc | apply Kd.V_drewN | apply Kd.V_drew)); exact Kd.V_mono (Kd.V_far (p := ⟨gb146, 5, none⟩) (Kd.V_far (p := ⟨gb146, 4, none⟩) (Kd.V_far (p := ⟨gb146, 3, none⟩) (Kd.V_far (p := ⟨gb146, 2, none⟩) (Kd.V_far (p := ⟨gb146, 1, none⟩) (Kd.V_far (p := ⟨gb146, 0, none⟩) (Kd.V_mono HL145_5.out (fun k_ hk => (⟨hk, hk.2⟩ : _ ∧ k_ ≠ gb146))) (fun _ hk => hk.2) (.int .i64 ((rd_T53 l0 x12_1).f0))) (fun _ hk => hk.2) (.int .i64 ((rd_T53 l0 x12_1).f1))) (fun _ hk => hk.2) (.string ((rd_T53 l0 x12_1).f2))) (fun _ hk => hk.2) (.string ((rd_T53 l0 x12_1).f3))) (fun _ hk => hk.2) (.string ((rd_T53 l0 x12_1).f4))) (fun _ hk => hk.2) (.slice A145_5 ((rd_T53 l0 x12_1).f5).length c145_5)) (fun _ hk => ⟨hk.1.1.1, ⟨hk.1.1.2, hk.1.2⟩⟩)))⟩; have n4_ : Aside0 (w21.heap[gb146]? = some (.cells #[.int .i64 ((rd_T53 l0 x12_1).f0), .int .i64 ((rd_T53 l0 x12_1).f1), .string ((rd_T53 l0 x12_1).f2), .string ((rd_T53 l0 x12_1).f3), .string ((rd_T53 l0 x12_1).f4), .slice A145_5 ((rd_T53 l0 x12_1).f5).length c145_5] 53 (0, 0))) := ⟨(by rw [hw]; exact (by (with_reducible repeat first | apply zM | apply zE | apply zF); refine zP (cs := #[.int .i64 ((rd_T53 l0 x12_1).f0), .int .i64 ((rd_T53 l0 x12_1).f1), .string ((rd_T53 l0 x12_1).f2), .string ((rd_T53 l0 x12_1).f3), .string ((rd_T53 l0 x12_1).f4), .slice none 0 0]) ?_ 5 _ rfl; (with_reducible repeat first | apply zM | apply zE | apply zF); refine zP (cs := #[.int .i64 ((rd_T53 l0 x12_1).f0), .int .i64 ((rd_T53 l0 x12_1).f1), .string ((rd_T53 l0 x12_1).f2), .string ((rd_T53 l0 x12_1).f3), .string (⟨#[]⟩ : ByteArray), .slice none 0 0]) ?_ 4 _ rfl; (with_reducible repeat first | apply zM | apply zE | apply zF); refine zP (cs := #[.int .i64 ((rd_T53 l0 x12_1).f0), .int .i64 ((rd_T53 l0 x12_1).f1), .string ((rd_T53 l0 x12_1).f2), .string (⟨#[]⟩ : ByteArray), .string (⟨#[]⟩ : ByteArray), .slice none 0 0]) ?_ 3 _ rfl; (with_reducible repeat first | apply zM | apply zE | apply zF); refine zP (cs := #[.int .i64 ((rd_T53 l0 x12_1).f0), .int .i64 ((rd_T53 l0 x12_1).f1), .string (⟨#[]⟩ : ByteArray), .string (⟨#[]⟩ : ByteArray), .string (⟨#[]⟩ : ByteArray), .slice none 0 0]) ?_ 2 _ rfl; (with_reducible repeat first | apply zM | apply zE | apply zF); refine zP (cs := #[.int .i64 ((rd_T53 l0 x12_1).f0), .int .i64 0, .string (⟨#[]⟩ : ByteArray), .string (⟨#[]⟩ : ByteArray), .string (⟨#[]⟩ : ByteArray), .slice none 0 0]) ?_ 1 _ rfl; (with_reducible repeat first | apply zM | apply zE | apply zF); refine zP (cs := #[.int .i64 0, .int .i64 0, .string (⟨#[]⟩ : ByteArray), .string (⟨#[]⟩ : ByteArray), .string (⟨#[]⟩ : ByteArray), .slice none 0 0]) ?_ 0 _ rfl; (with_reducible repeat first | apply zM | apply zE | apply zF); exact BK146.out))⟩; have n5_ : Aside0 (Below w.heap.size w w21) := ⟨(by rw [hw]; exact (by repeat (first | (with_reducible first | exact HB.out | apply zA | apply zN | apply zD | refine zS ?_ GE146.out) | exact HB.out)))⟩; clear hw; clear HO_0; clear HO_3; clear HO_10; clear HL145_5; clear BK146; clear HB; have HO_0 := n0_; have HO_3 := n1_; have HO_10 := n2_; have HL145_5 := n3_; have BK146 := n4_; have HB := n5_; clear n0_ n1_ n2_ n3_ n4_ n5_; have hcz22_0 : w21.cell? ⟨gb146, 0, none⟩ = some (.int .i64 ((rd_T53 l0 x12_1).f0)) := (zC BK146.out 0).trans rfl; have hcz22_1 : w21.cell? ⟨gb146, 1, none⟩ = some (.int .i64 ((rd_T53 l0 x12_1).f1)) := (zC BK146.out 1).trans rfl; have hcz22_2 : w21.cell? ⟨gb146, 2, none⟩ = some (.string ((rd_T53 l0 x12_1).f2)) := (zC BK146.out 2).trans rfl; have hcz22_3 : w21.cell? ⟨gb146, 3, none⟩ = some (.string ((rd_T53 l0 x12_1).f3)) := (zC BK146.out 3).trans rfl; have hcz22_4 : w21.cell? ⟨gb146, 4, none⟩ = some (.string ((rd_T53 l0 x12_1).f4)) := (zC BK146.out 4).trans rfl; have hcz22_5 : w21.cell? ⟨gb146, 5, none⟩ = some (.slice A145_5 ((rd_T53 l0 x12_1).f5).length c145_5) := (zC BK146.out 5).trans rfl; have hfz22_0 := zR BK146.out 0; have hfz22_1 := zR BK146.out 1; have hfz22_2 := zR BK146.out 2; have hfz22_3 := zR BK146.out 3; have hfz22_4 := zR BK146.out 4; have hfz22_5 := zR BK146.out 5; obtain ⟨Ao23, co23, eo23⟩ := Kd.R_slice HO_3.out; subst eo23; have p147 : 0 ≤ (((rd_T53 l0 x12_1).f1) : Int) := of_decide_eq_true (by first | (with_reducible assumption) | assumption); have q147 : ((rd_T53 l0 x12_1).f1) < (x3_1.length : Int) := of_decide_eq_true (by first | (with_reducible assumption) | assumption); obtain ⟨ad147, e147, hx147_0⟩ := Kd.at_int (Kd.R_reads' HO_3.out).2.2 ((rd_T53 l0 x12_1).f1) p147 q147; cases e147; replace p147 := eq_true p147; replace q147 := eq_true q147; have p15 : 0 ≤ ((ji12) : Int) := of_decide_eq_true (by first | (with_reducible assumption) | assumption); have q15 : ((ji12) : Int) < ((x3_1.length : Int) : Int) := of_decide_eq_true (by first | (with_reducible assumption) | assumption); obtain ⟨go15, co15, eo15, gb15, gl15, cl15, HG15⟩ := Kd.R_form HO_3.out (by omega); (first | cases eo15 | (injection eo15 with ea_ en_ ec_; (first | subst ea_ | (injection ea_ with ea_; subst ea_)); subst ec_; clear en_)); have GB15 := Aside0.mk gb15; have GG15 := Aside0.mk HG15; clear gb15 gl15 HG15; (first | simp only [add_plain] at hx147_0 | skip); obtain ⟨hx15_0, hf15_0⟩ := Kd.R_celln 0 HO_3.out ((ji12) : Int) p15 q15; replace p15 := eq_true p15; replace q15 := eq_true q15; obtain ⟨hy24_, hz24_⟩ := Kd.R_celln 0 HO_3.out ((ji12) : Int) (of_decide_eq_true (by first | (with_reducible assumption) | assumption)) (of_decide_eq_true (by first | (with_reducible assumption) | assumption)); have HP24 := Kd.R_putg HO_3.out ((ji12) : Int) (wrap64 ((rd x3_1 ((rd_T53 l0 x12_1).f1)) + 1))) | ((with_reducible refine gate_store (t := 3) (p := 26) rfl ?_); refine store_event (t := 3) (p := 26) (v := ?vo_w25) (w1 := (w21.setCell ⟨go15, ((ji12) : Int).toNat, none⟩ (.int .i64 (wrap64 ((rd x3_1 ((rd_T53 l0 x12_1).f1)) + 1))))) ?hg ?ho ?hn ?hr ?_; (case ho => rfl); (case hg => rfl); (case hn => rfl); (case hr => first | (go_simp; done) | (go_simp; rfl)); intro w25 hw; have hg : w21.grownBy w25 (some go15) := (by rw [hw]; exact HP24.2); have hp_ : Kd.R (Kd.int .i64) 3 w25 w.heap.size (fun k_ => (w.heap.size ≤ k_)) (.slice (some ⟨go15, 0, none⟩) x3_1.length co23) y148 := (by rw [hw, Ny148.out]; exact HP24.1); clear HP24; have n0_ := Aside0.mk (Kd.V_afterv (v := (.slice (some ⟨go15, 0, none⟩) x3_1.length co23)) (v1 := (.slice (some ⟨go15, 0, none⟩) x3_1.length co23)) (ok := (fun k_ => (P0_ k_ ∨ w.heap.size ≤ k_) ∧ k_ ≠ gb146)) (by (with_reducible repeat (first | apply Kd.V_alloc | apply Kd.V_drewN | apply Kd.V_drew)); exact Kd.V_mono HO_0.out (fun _ hk => ⟨⟨hk.1, hk.2.2⟩, hk.2.1⟩)) hg (.inl rfl)); have n1_ := Aside0.mk (hp_); have n2_ := Aside0.mk (Kd.V_afterv (v := (.slice (some ⟨go15, 0, none⟩) x3_1.length co23)) (v1 := (.slice (some ⟨go15, 0, none⟩) x3_1.length co23)) (ok := (fun k_ => (P0_ k_ ∨ w.heap.size ≤ k_) ∧ k_ ≠ gb146)) (by (with_reducible repeat (first | apply Kd.V_alloc | apply Kd.V_drewN | apply Kd.V_drew)); exact Kd.V_mono HO_10.out (fun _ hk => ⟨⟨hk.1, hk.2.2⟩, hk.2.1⟩)) hg (.inl rfl)); have n3_ := Aside0.mk (Kd.V_afterv (v := (.slice (some ⟨go15, 0, none⟩) x3_1.length co23)) (v1 := (.slice (some ⟨go15, 0, none⟩) x3_1.length co23)) (ok := (fun k_ => (P0_ k_ ∨ w.heap.size ≤ k_) ∧ k_ ≠ gb146)) (by (with_reducible repeat (first | apply Kd.V_alloc | apply Kd.V_drewN | apply Kd.V_drew)); exact Kd.V_mono HL145_5.out (fun _ hk => ⟨⟨hk.1, hk.2.2⟩, hk.2.1⟩)) hg (.inl rfl)); have n4_ := Aside0.mk (blk_grown (g := gb146) (o := .cells #[.int .i64 ((rd_T53 l0 x12_1).f0), .int .i64 ((rd_T53 l0 x12_1).f1), .string ((rd_T53 l0 x12_1).f2), .string ((rd_T53 l0 x12_1).f3), .string ((rd_T53 l0 x12_1).f4), .slice A145_5 ((rd_T53 l0 x12_1).f5).length c145_5] 53 (0, 0)) (by (with_reducible repeat first | apply zM | apply zE | apply zF); exact BK146.out) hg (Kd.R_ne HO_3.out BK146.out (by decide))); have n5_ := Aside0.mk ((by rw [hw]; exact zS (HB.out) GB15.out : Below w.heap.size w w25)); clear HO_0; clear HO_3; clear HO_10; clear HL145_5; clear BK146; clear HB; have HO_0 := n0_; have HO_3 := n1_; have HO_10 := n2_; have HL145_5 := n3_; have BK146 := n4_; have HB := n5_; clear n0_ n1_ n2_ n3_ n4_ n5_; clear hg hw hp_; have p149 : 0 ≤ ((ji12) : Int) := of_decide_eq_true (by first | (with_reducible assumption) | assumption); have q149 : (ji12) < (y148.length : Int) := (by have h_ : ((ji12) : Int) < ((x3_1.length : Int) : Int) := of_decide_eq_true (by first | (with_reducible assumption) | assumption); first | (have e_ := (Kd.R_reads' HO_3.out).1; omega) | simpa only [Ny148.out, List.length_set] using h_); have ql149 : (((ji12) : Int) < ((x3_1.length : Int) : Int)) = True := eq_true (of_decide_eq_true (by first | (with_reducible assumption) | assumption)); obtain ⟨ad149, e149, hx149_0⟩ := Kd.at_int (Kd.R_reads' HO_3.out).2.2 (ji12) p149 q149; obtain rfl : (⟨go15, 0, none⟩ : Addr) = ad149 := (by injection e149); (first | simp only [add_plain] at hx149_0 | simp only [add_at] at hx149_0 | simp only [Addr.add, Nat.zero_add] at hx149_0 | skip); replace p149 := eq_true p149; replace q149 := eq_true q149; have q26 : ((ji12) : Int) ≤ ((l0.length : Int) : Int) := of_decide_eq_true (by first | (with_reducible assumption) | assumption); obtain ⟨i026, hi026, _, hsz26, _⟩ := info_parts info53; have hroom26 : l0.length ≤ c0 := (Kd.V_reads' HO_0.out).2.1; have hC26 : Kd.F k53 _ _ (some ad145) l0.length l0 := (Kd.V_at (base := w.heap.size) HO_0.out).2.2; have hcut26 := cut_to (P := Try.prog) 28 53 .i64 Try.underlying28 hi026 (some ad145) l0.length c0 (ji12) (of_decide_eq_true (by first | (with_reducible assumption) | assumption)) q26 hroom26; have hr26 := Kd.F_take (m := ((ji12) : Int).toNat) hC26 (by omega); have hy26 : y150.length = ((ji12) : Int).toNat := (by rw [Ny150.out, List.length_take]; omega); rw [← Ny150.out] at hr26; rw [← hy26] at hcut26; have HO154 := Aside0.mk (show Kd.V k53 53 _ w.heap.size _ (.slice (some ad145) y150.length c0) y150 from Kd.V_mk (by omega) hr26); have HC154 := Aside0.mk (show y150.length ≤ c0 from by omega); clear hr26 hC26 hroom26 hi026 hsz26; have KY26 := Aside0.mk hy26; clear hy26; replace q26 := eq_true q26))
              go_ret
              exact ⟨_, by first | rfl | (simp [errW_none, errW_some] <;> rfl) | (simp only [← hji2, ← hji12]; first | rfl | (simp [errW_none, errW_some] <;> rfl)) | (simp [*, errW_none, errW_some] <;> rfl), by (with_reducible repeat (first | apply Kd.V_alloc | apply Kd.V_drewN | apply Kd.V_drew)); exact Kd.V_mono HO154.out (fun _ hk => hk.1.1), by repeat (first | (with_reducible first | exact HB.out | apply zA | apply zN | apply zD | refine zS ?_ GE146.out) | exact HB.out)⟩
             ·
              rw [if_neg c18] at H
              exact absurd H (by simp)
            ·
             rw [if_neg c16] at H
             have c16b0 : decide (64 < (rd y148 (ji12))) = false := decide_eq_false c16
             clear c16
             by_cases c27 : x12_1 = 4096
             ·
              rw [if_pos c27] at H
              have c27b0 : (x12_1 == 4096) = true := beq_iff_eq.mpr c27
              have c27b1 : (x12_1 != 4096) = false := bne_eq_false_iff_eq.mpr c27
              clear c27
              have c28b0 := eq_true (of_decide_eq_true (by first | (with_reducible assumption) | assumption) : 0 ≤ (ji12))
              by_cases c29 : (ji12) ≤ (l0.length : Int)
              ·
               rw [if_pos c29] at H
               have c29b0 := eq_true c29
               have c29b1 : decide ((ji12) ≤ (l0.length : Int)) = true := decide_eq_true c29
               clear c29
               obtain ⟨y155, hy155⟩ : ∃ y_ : List (S53), y_ = (l0.take ((ji12) : Int).toNat) := ⟨_, rfl⟩
               replace H : (some y155) = some r := by first | (rw [hy155]; with_reducible exact H) | (have H2_ := (Option.bind_some _ _).symm.trans H; rw [hy155]; with_reducible exact H2_) | (have H2_ := (Option.bind_some _ _).symm.trans H; with_reducible exact H2_) | with_reducible exact H | (rw [hy155]; exact H) | exact H
               have Ny155 := Aside0.mk hy155
               clear hy155
               obtain rfl := Option.some.inj H
               have p145 : 0 ≤ (x12_1 : Int) := of_decide_eq_true (by first | (with_reducible assumption) | assumption)
               have q145 : x12_1 < (l0.length : Int) := of_decide_eq_true (by first | (with_reducible assumption) | assumption)
               obtain ⟨ad145, A145_5, c145_5, e145, hx145_0, hx145_1, hx145_2, hx145_3, hx145_4, hx145_5, hl145_5, hi145_5⟩ := at_T53 (Kd.V_reads' HO_10.out).2.2 x12_1 p145 q145
               cases e145
               obtain ⟨ce145, hce145, hMe145, hcc145⟩ := Kd.V_get HO_10.out z53 x12_1 p145 (by first | exact q145 | exact of_decide_eq_true (by first | (with_reducible assumption) | assumption) | (have e_ := (Kd.V_reads' HO_10.out).1; omega))
               obtain ⟨ua145_5, uc145_5, rfl, ul145_5, ge145_5⟩ := k53_openF hMe145
               have hv145_5 := hcc145 5 _ rfl
               rw [add_field _ _ 5 (by omega)] at hv145_5
               replace hv145_5 := Option.some.inj (hv145_5.symm.trans hx145_5)
               injection hv145_5 with hva_ hvn_ hvc_
               rw [hva_] at ge145_5
               rw [hvc_] at ul145_5
               have HL145_5 := Aside0.mk (show Kd.V k69 69 _ w.heap.size _ _ ((rd_T53 l0 x12_1).f5) from Kd.V_mk ul145_5 ge145_5)
               clear hva_ hvn_ hvc_ ge145_5 ul145_5
               clear hcc145 hce145
               have HR145_5 := Aside0.mk hi145_5
               have HC145_5 := Aside0.mk hl145_5
               clear hi145_5 hl145_5
               replace p145 := eq_true p145
               replace q145 := eq_true q145
               go_wp2_with (first | ((with_reducible refine gate_dst (N := 5) rfl ?_); refine box_event ?hg (N := 5) ?hd (cs := #[.int .i64 0, .int .i64 0, .string (⟨#[]⟩ : ByteArray), .string (⟨#[]⟩ : ByteArray), .string (⟨#[]⟩ : ByteArray), .slice none 0 0]) (t := 53) ?hr ?_; (case hd => rfl); (case hg => rfl); (case hr => first | (go_simp; done) | (go_simp; rfl)); intro gb146 hg w30 hbox hb; have n0_ := Aside0.mk (Kd.V_below (Kd.V_elderB (by (with_reducible repeat (first | apply Kd.V_alloc | apply Kd.V_drewN | apply Kd.V_drew)); exact HO_0.out) gb146 (Nat.le_of_eq hg.symm)) hb); have n1_ := Aside0.mk (Kd.R_below (by (with_reducible repeat (first | apply Kd.R_alloc | apply Kd.R_drewN | apply Kd.R_drew)); exact HO_3.out) hb); have n2_ := Aside0.mk (Kd.V_below (Kd.V_elderB (by (with_reducible repeat (first | apply Kd.V_alloc | apply Kd.V_drewN | apply Kd.V_drew)); exact HO_10.out) gb146 (Nat.le_of_eq hg.symm)) hb); have n3_ := Aside0.mk (Kd.V_below (Kd.V_elderB (by (with_reducible repeat (first | apply Kd.V_alloc | apply Kd.V_drewN | apply Kd.V_drew)); exact HL145_5.out) gb146 (Nat.le_of_eq hg.symm)) hb); have n4_ := Aside0.mk (Kd.C_below (by repeat (first | (with_reducible exact HR145_5.out) | (with_reducible refine Kd.C_alloc ?_ _) | (with_reducible refine Kd.C_drewN ?_ _) | (with_reducible refine Kd.C_drew ?_) | exact HR145_5.out)) hb); have n5_ := Aside0.mk (below_step (by repeat (first | (with_reducible first | exact HB.out | apply zA | apply zN | apply zD) | exact HB.out)) hb); have n6_ := Aside0.mk (hbox); have n7_ := Aside0.mk ((by rw [hg]; exact (below_size (by repeat (first | (with_reducible first | exact HB.out | apply zA | apply zN | apply zD) | exact HB.out))) : w.heap.size ≤ gb146)); have n8_ := Aside0.mk ((by rw [hg]; exact (below_size (by repeat (first | (with_reducible first | exact HB.out | apply zA | apply zN | apply zD) | exact HB.out))) : w.heap.size ≤ gb146)); clear HO_0; clear HO_3; clear HO_10; clear HL145_5; clear HR145_5; clear HB; have HO_0 := n0_; have HO_3 := n1_; have HO_10 := n2_; have HL145_5 := n3_; have HR145_5 := n4_; have HB := n5_; have BK146 := n6_; have GW146 := n7_; have GE146 := n8_; clear n0_ n1_ n2_ n3_ n4_ n5_ n6_ n7_ n8_; clear hb hbox hg; have hcz31_0 : w30.cell? ⟨gb146, 0, none⟩ = some (.int .i64 0) := (zC BK146.out 0).trans rfl; have hcz31_1 : w30.cell? ⟨gb146, 1, none⟩ = some (.int .i64 0) := (zC BK146.out 1).trans rfl; have hcz31_2 : w30.cell? ⟨gb146, 2, none⟩ = some (.string (⟨#[]⟩ : ByteArray)) := (zC BK146.out 2).trans rfl; have hcz31_3 : w30.cell? ⟨gb146, 3, none⟩ = some (.string (⟨#[]⟩ : ByteArray)) := (zC BK146.out 3).trans rfl; have hcz31_4 : w30.cell? ⟨gb146, 4, none⟩ = some (.string (⟨#[]⟩ : ByteArray)) := (zC BK146.out 4).trans rfl; have hcz31_5 : w30.cell? ⟨gb146, 5, none⟩ = some (.slice none 0 0) := (zC BK146.out 5).trans rfl; have hfz31_0 := zR BK146.out 0; have hfz31_1 := zR BK146.out 1; have hfz31_2 := zR BK146.out 2; have hfz31_3 := zR BK146.out 3; have hfz31_4 := zR BK146.out 4; have hfz31_5 := zR BK146.out 5) | ((with_reducible refine gate_store (t := 53) (p := 5) rfl ?_); refine store_event (t := 53) (p := 5) (v := ?vo_w32) (w1 := ((((((w30.setCell ⟨gb146, 0, none⟩ (.int .i64 ((rd_T53 l0 x12_1).f0))).setCell ⟨gb146, 1, none⟩ (.int .i64 ((rd_T53 l0 x12_1).f1))).setCell ⟨gb146, 2, none⟩ (.string ((rd_T53 l0 x12_1).f2))).setCell ⟨gb146, 3, none⟩ (.string ((rd_T53 l0 x12_1).f3))).setCell ⟨gb146, 4, none⟩ (.string ((rd_T53 l0 x12_1).f4))).setCell ⟨gb146, 5, none⟩ (.slice A145_5 ((rd_T53 l0 x12_1).f5).length c145_5))) ?hg ?ho ?hn ?hr ?_; (case ho => rfl); (case hg => rfl); (case hn => rfl); (case hr => first | (go_simp; done) | (go_simp; rfl)); intro w32 hw; have n0_ : Aside0 (Kd.V k53 53 w32 w.heap.size (fun k_ => (P0_ k_ ∨ w.heap.size ≤ k_) ∧ some k_ ≠ (v143 : Value).ownBlock ∧ k_ ≠ gb146) (.slice (some ad145) l0.length c0) l0) := ⟨(by rw [hw]; exact (by (with_reducible repeat (first | apply Kd.V_alloc | apply Kd.V_drewN | apply Kd.V_drew)); exact Kd.V_mono (Kd.V_far (p := ⟨gb146, 5, none⟩) (Kd.V_far (p := ⟨gb146, 4, none⟩) (Kd.V_far (p := ⟨gb146, 3, none⟩) (Kd.V_far (p := ⟨gb146, 2, none⟩) (Kd.V_far (p := ⟨gb146, 1, none⟩) (Kd.V_far (p := ⟨gb146, 0, none⟩) (Kd.V_mono HO_0.out (fun k_ hk => (⟨hk, hk.2⟩ : _ ∧ k_ ≠ gb146))) (fun _ hk => hk.2) (.int .i64 ((rd_T53 l0 x12_1).f0))) (fun _ hk => hk.2) (.int .i64 ((rd_T53 l0 x12_1).f1))) (fun _ hk => hk.2) (.string ((rd_T53 l0 x12_1).f2))) (fun _ hk => hk.2) (.string ((rd_T53 l0 x12_1).f3))) (fun _ hk => hk.2) (.string ((rd_T53 l0 x12_1).f4))) (fun _ hk => hk.2) (.slice A145_5 ((rd_T53 l0 x12_1).f5).length c145_5)) (fun _ hk => ⟨hk.1.1.1, ⟨hk.1.1.2, hk.1.2⟩⟩)))⟩; have n1_ : Aside0 (Kd.R (Kd.int .i64) 3 w32 w.heap.size (fun k_ => (w.heap.size ≤ k_)) v143 x3_1) := ⟨(by rw [hw]; exact (by (with_reducible repeat (first | apply Kd.R_alloc | apply Kd.R_drewN | apply Kd.R_drew)); exact Kd.R_mono (Kd.R_far (p := ⟨gb146, 5, none⟩) (Kd.R_far (p := ⟨gb146, 4, none⟩) (Kd.R_far (p := ⟨gb146, 3, none⟩) (Kd.R_far (p := ⟨gb146, 2, none⟩) (Kd.R_far (p := ⟨gb146, 1, none⟩) (Kd.R_far (p := ⟨gb146, 0, none⟩) (Kd.R_types HO_3.out BK146.out (by decide)) (fun _ hk => hk.2) (.int .i64 ((rd_T53 l0 x12_1).f0))) (fun _ hk => hk.2) (.int .i64 ((rd_T53 l0 x12_1).f1))) (fun _ hk => hk.2) (.string ((rd_T53 l0 x12_1).f2))) (fun _ hk => hk.2) (.string ((rd_T53 l0 x12_1).f3))) (fun _ hk => hk.2) (.string ((rd_T53 l0 x12_1).f4))) (fun _ hk => hk.2) (.slice A145_5 ((rd_T53 l0 x12_1).f5).length c145_5)) (fun _ hk => hk.1)))⟩; have n2_ : Aside0 (Kd.V k53 53 w32 w.heap.size (fun k_ => (P0_ k_ ∨ w.heap.size ≤ k_) ∧ some k_ ≠ (v143 : Value).ownBlock ∧ k_ ≠ gb146) (.slice (some ad145) l0.length c0) l0) := ⟨(by rw [hw]; exact (by (with_reducible repeat (first | apply Kd.V_alloc | apply Kd.V_drewN | apply Kd.V_drew)); exact Kd.V_mono (Kd.V_far (p := ⟨gb146, 5, none⟩) (Kd.V_far (p := ⟨gb146, 4, none⟩) (Kd.V_far (p := ⟨gb146, 3, none⟩) (Kd.V_far (p := ⟨gb146, 2, none⟩) (Kd.V_far (p := ⟨gb146, 1, none⟩) (Kd.V_far (p := ⟨gb146, 0, none⟩) (Kd.V_mono HO_10.out (fun k_ hk => (⟨hk, hk.2⟩ : _ ∧ k_ ≠ gb146))) (fun _ hk => hk.2) (.int .i64 ((rd_T53 l0 x12_1).f0))) (fun _ hk => hk.2) (.int .i64 ((rd_T53 l0 x12_1).f1))) (fun _ hk => hk.2) (.string ((rd_T53 l0 x12_1).f2))) (fun _ hk => hk.2) (.string ((rd_T53 l0 x12_1).f3))) (fun _ hk => hk.2) (.string ((rd_T53 l0 x12_1).f4))) (fun _ hk => hk.2) (.slice A145_5 ((rd_T53 l0 x12_1).f5).length c145_5)) (fun _ hk => ⟨hk.1.1.1, ⟨hk.1.1.2, hk.1.2⟩⟩)))⟩; have n3_ : Aside0 (Kd.V k69 69 w32 w.heap.size (fun k_ => (P0_ k_ ∨ w.heap.size ≤ k_) ∧ some k_ ≠ (v143 : Value).ownBlock ∧ k_ ≠ gb146) (.slice A145_5 ((rd_T53 l0 x12_1).f5).length c145_5) ((rd_T53 l0 x12_1).f5)) := ⟨(by rw [hw]; exact (by (with_reducible repeat (first | apply Kd.V_alloc | apply Kd.V_drewN | apply Kd.V_drew)); exact Kd.V_mono (Kd.V_far (p := ⟨gb146, 5, none⟩) (Kd.V_far (p := ⟨gb146, 4, none⟩) (Kd.V_far (p := ⟨gb146, 3, none⟩) (Kd.V_far (p := ⟨gb146, 2, none⟩) (Kd.V_far (p := ⟨gb146, 1, none⟩) (Kd.V_far (p := ⟨gb146, 0, none⟩) (Kd.V_mono HL145_5.out (fun k_ hk => (⟨hk, hk.2⟩ : _ ∧ k_ ≠ gb146))) (fun _ hk => hk.2) (.int .i64 ((rd_T53 l0 x12_1).f0))) (fun _ hk => hk.2) (.int .i64 ((rd_T53 l0 x12_1).f1))) (fun _ hk => hk.2) (.string ((rd_T53 l0 x12_1).f2))) (fun _ hk => hk.2) (.string ((rd_T53 l0 x12_1).f3))) (fun _ hk => hk.2) (.string ((rd_T53 l0 x12_1).f4))) (fun _ hk => hk.2) (.slice A145_5 ((rd_T53 l0 x12_1).f5).length c145_5)) (fun _ hk => ⟨hk.1.1.1, ⟨hk.1.1.2, hk.1.2⟩⟩)))⟩; have n4_ : Aside0 (w32.heap[gb146]? = some (.cells #[.int .i64 ((rd_T53 l0 x12_1).f0), .int .i64 ((rd_T53 l0 x12_1).f1), .string ((rd_T53 l0 x12_1).f2), .string ((rd_T53 l0 x12_1).f3), .string ((rd_T53 l0 x12_1).f4), .slice A145_5 ((rd_T53 l0 x12_1).f5).length c145_5] 53 (0, 0))) := ⟨(by rw [hw]; exact (by (with_reducible repeat first | apply zM | apply zE | apply zF); refine zP (cs := #[.int .i64 ((rd_T53 l0 x12_1).f0), .int .i64 ((rd_T53 l0 x12_1).f1), .string ((rd_T53 l0 x12_1).f2), .string ((rd_T53 l0 x12_1).f3), .string ((rd_T53 l0 x12_1).f4), .slice none 0 0]) ?_ 5 _ rfl; (with_reducible repeat first | apply zM | apply zE | apply zF); refine zP (cs := #[.int .i64 ((rd_T53 l0 x12_1).f0), .int .i64 ((rd_T53 l0 x12_1).f1), .string ((rd_T53 l0 x12_1).f2), .string ((rd_T53 l0 x12_1).f3), .string (⟨#[]⟩ : ByteArray), .slice none 0 0]) ?_ 4 _ rfl; (with_reducible repeat first | apply zM | apply zE | apply zF); refine zP (cs := #[.int .i64 ((rd_T53 l0 x12_1).f0), .int .i64 ((rd_T53 l0 x12_1).f1), .string ((rd_T53 l0 x12_1).f2), .string (⟨#[]⟩ : ByteArray), .string (⟨#[]⟩ : ByteArray), .slice none 0 0]) ?_ 3 _ rfl; (with_reducible repeat first | apply zM | apply zE | apply zF); refine zP (cs := #[.int .i64 ((rd_T53 l0 x12_1).f0), .int .i64 ((rd_T53 l0 x12_1).f1), .string (⟨#[]⟩ : ByteArray), .string (⟨#[]⟩ : ByteArray), .string (⟨#[]⟩ : ByteArray), .slice none 0 0]) ?_ 2 _ rfl; (with_reducible repeat first | apply zM | apply zE | apply zF); refine zP (cs := #[.int .i64 ((rd_T53 l0 x12_1).f0), .int .i64 0, .string (⟨#[]⟩ : ByteArray), .string (⟨#[]⟩ : ByteArray), .string (⟨#[]⟩ : ByteArray), .slice none 0 0]) ?_ 1 _ rfl; (with_reducible repeat first | apply zM | apply zE | apply zF); refine zP (cs := #[.int .i64 0, .int .i64 0, .string (⟨#[]⟩ : ByteArray), .string (⟨#[]⟩ : ByteArray), .string (⟨#[]⟩ : ByteArray), .slice none 0 0]) ?_ 0 _ rfl; (with_reducible repeat first | apply zM | apply zE | apply zF); exact BK146.out))⟩; have n5_ : Aside0 (Below w.heap.size w w32) := ⟨(by rw [hw]; exact (by repeat (first | (with_reducible first | exact HB.out | apply zA | apply zN | apply zD | refine zS ?_ GE146.out) | exact HB.out)))⟩; clear hw; clear HO_0; clear HO_3; clear HO_10; clear HL145_5; clear BK146; clear HB; have HO_0 := n0_; have HO_3 := n1_; have HO_10 := n2_; have HL145_5 := n3_; have BK146 := n4_; have HB := n5_; clear n0_ n1_ n2_ n3_ n4_ n5_; have hcz33_0 : w32.cell? ⟨gb146, 0, none⟩ = some (.int .i64 ((rd_T53 l0 x12_1).f0)) := (zC BK146.out 0).trans rfl; have hcz33_1 : w32.cell? ⟨gb146, 1, none⟩ = some (.int .i64 ((rd_T53 l0 x12_1).f1)) := (zC BK146.out 1).trans rfl; have hcz33_2 : w32.cell? ⟨gb146, 2, none⟩ = some (.string ((rd_T53 l0 x12_1).f2)) := (zC BK146.out 2).trans rfl; have hcz33_3 : w32.cell? ⟨gb146, 3, none⟩ = some (.string ((rd_T53 l0 x12_1).f3)) := (zC BK146.out 3).trans rfl; have hcz33_4 : w32.cell? ⟨gb146, 4, none⟩ = some (.string ((rd_T53 l0 x12_1).f4)) := (zC BK146.out 4).trans rfl; have hcz33_5 : w32.cell? ⟨gb146, 5, none⟩ = some (.slice A145_5 ((rd_T53 l0 x12_1).f5).length c145_5) := (zC BK146.out 5).trans rfl; have hfz33_0 := zR BK146.out 0; have hfz33_1 := zR BK146.out 1; have hfz33_2 := zR BK146.out 2; have hfz33_3 := zR BK146.out 3; have hfz33_4 := zR BK146.out 4; have hfz33_5 := zR BK146.out 5; obtain ⟨Ao34, co34, eo34⟩ := Kd.R_slice HO_3.out; subst eo34; have p147 : 0 ≤ (((rd_T53 l0 x12_1).f1) : Int) := of_decide_eq_true (by first | (with_reducible assumption) | assumption); have q147 : ((rd_T53 l0 x12_1).f1) < (x3_1.length : Int) := of_decide_eq_true (by first | (with_reducible assumption) | assumption); obtain ⟨ad147, e147, hx147_0⟩ := Kd.at_int (Kd.R_reads' HO_3.out).2.2 ((rd_T53 l0 x12_1).f1) p147 q147; cases e147; replace p147 := eq_true p147; replace q147 := eq_true q147; have p15 : 0 ≤ ((ji12) : Int) := of_decide_eq_true (by first | (with_reducible assumption) | assumption); have q15 : ((ji12) : Int) < ((x3_1.length : Int) : Int) := of_decide_eq_true (by first | (with_reducible assumption) | assumption); obtain ⟨go15, co15, eo15, gb15, gl15, cl15, HG15⟩ := Kd.R_form HO_3.out (by omega); (first | cases eo15 | (injection eo15 with ea_ en_ ec_; (first | subst ea_ | (injection ea_ with ea_; subst ea_)); subst ec_; clear en_)); have GB15 := Aside0.mk gb15; have GG15 := Aside0.mk HG15; clear gb15 gl15 HG15; (first | simp only [add_plain] at hx147_0 | skip); obtain ⟨hx15_0, hf15_0⟩ := Kd.R_celln 0 HO_3.out ((ji12) : Int) p15 q15; replace p15 := eq_true p15; replace q15 := eq_true q15; obtain ⟨hy35_, hz35_⟩ := Kd.R_celln 0 HO_3.out ((ji12) : Int) (of_decide_eq_true (by first | (with_reducible assumption) | assumption)) (of_decide_eq_true (by first | (with_reducible assumption) | assumption)); have HP35 := Kd.R_putg HO_3.out ((ji12) : Int) (wrap64 ((rd x3_1 ((rd_T53 l0 x12_1).f1)) + 1))) | ((with_reducible refine gate_store (t := 3) (p := 26) rfl ?_); refine store_event (t := 3) (p := 26) (v := ?vo_w36) (w1 := (w32.setCell ⟨go15, ((ji12) : Int).toNat, none⟩ (.int .i64 (wrap64 ((rd x3_1 ((rd_T53 l0 x12_1).f1)) + 1))))) ?hg ?ho ?hn ?hr ?_; (case ho => rfl); (case hg => rfl); (case hn => rfl); (case hr => first | (go_simp; done) | (go_simp; rfl)); intro w36 hw; have hg : w32.grownBy w36 (some go15) := (by rw [hw]; exact HP35.2); have hp_ : Kd.R (Kd.int .i64) 3 w36 w.heap.size (fun k_ => (w.heap.size ≤ k_)) (.slice (some ⟨go15, 0, none⟩) x3_1.length co34) y148 := (by rw [hw, Ny148.out]; exact HP35.1); clear HP35; have n0_ := Aside0.mk (Kd.V_afterv (v := (.slice (some ⟨go15, 0, none⟩) x3_1.length co34)) (v1 := (.slice (some ⟨go15, 0, none⟩) x3_1.length co34)) (ok := (fun k_ => (P0_ k_ ∨ w.heap.size ≤ k_) ∧ k_ ≠ gb146)) (by (with_reducible repeat (first | apply Kd.V_alloc | apply Kd.V_drewN | apply Kd.V_drew)); exact Kd.V_mono HO_0.out (fun _ hk => ⟨⟨hk.1, hk.2.2⟩, hk.2.1⟩)) hg (.inl rfl)); have n1_ := Aside0.mk (hp_); have n2_ := Aside0.mk (Kd.V_afterv (v := (.slice (some ⟨go15, 0, none⟩) x3_1.length co34)) (v1 := (.slice (some ⟨go15, 0, none⟩) x3_1.length co34)) (ok := (fun k_ => (P0_ k_ ∨ w.heap.size ≤ k_) ∧ k_ ≠ gb146)) (by (with_reducible repeat (first | apply Kd.V_alloc | apply Kd.V_drewN | apply Kd.V_drew)); exact Kd.V_mono HO_10.out (fun _ hk => ⟨⟨hk.1, hk.2.2⟩, hk.2.1⟩)) hg (.inl rfl)); have n3_ := Aside0.mk (Kd.V_afterv (v := (.slice (some ⟨go15, 0, none⟩) x3_1.length co34)) (v1 := (.slice (some ⟨go15, 0, none⟩) x3_1.length co34)) (ok := (fun k_ => (P0_ k_ ∨ w.heap.size ≤ k_) ∧ k_ ≠ gb146)) (by (with_reducible repeat (first | apply Kd.V_alloc | apply Kd.V_drewN | apply Kd.V_drew)); exact Kd.V_mono HL145_5.out (fun _ hk => ⟨⟨hk.1, hk.2.2⟩, hk.2.1⟩)) hg (.inl rfl)); have n4_ := Aside0.mk (blk_grown (g := gb146) (o := .cells #[.int .i64 ((rd_T53 l0 x12_1).f0), .int .i64 ((rd_T53 l0 x12_1).f1), .string ((rd_T53 l0 x12_1).f2), .string ((rd_T53 l0 x12_1).f3), .string ((rd_T53 l0 x12_1).f4), .slice A145_5 ((rd_T53 l0 x12_1).f5).length c145_5] 53 (0, 0)) (by (with_reducible repeat first | apply zM | apply zE | apply zF); exact BK146.out) hg (Kd.R_ne HO_3.out BK146.out (by decide))); have n5_ := Aside0.mk ((by rw [hw]; exact zS (HB.out) GB15.out : Below w.heap.size w w36)); clear HO_0; clear HO_3; clear HO_10; clear HL145_5; clear BK146; clear HB; have HO_0 := n0_; have HO_3 := n1_; have HO_10 := n2_; have HL145_5 := n3_; have BK146 := n4_; have HB := n5_; clear n0_ n1_ n2_ n3_ n4_ n5_; clear hg hw hp_; have p149 : 0 ≤ ((ji12) : Int) := of_decide_eq_true (by first | (with_reducible assumption) | assumption); have q149 : (ji12) < (y148.length : Int) := (by have h_ : ((ji12) : Int) < ((x3_1.length : Int) : Int) := of_decide_eq_true (by first | (with_reducible assumption) | assumption); first | (have e_ := (Kd.R_reads' HO_3.out).1; omega) | simpa only [Ny148.out, List.length_set] using h_); have ql149 : (((ji12) : Int) < ((x3_1.length : Int) : Int)) = True := eq_true (of_decide_eq_true (by first | (with_reducible assumption) | assumption)); obtain ⟨ad149, e149, hx149_0⟩ := Kd.at_int (Kd.R_reads' HO_3.out).2.2 (ji12) p149 q149; obtain rfl : (⟨go15, 0, none⟩ : Addr) = ad149 := (by injection e149); (first | simp only [add_plain] at hx149_0 | simp only [add_at] at hx149_0 | simp only [Addr.add, Nat.zero_add] at hx149_0 | skip); replace p149 := eq_true p149; replace q149 := eq_true q149; have q37 : ((ji12) : Int) ≤ ((l0.length : Int) : Int) := of_decide_eq_true (by first | (with_reducible assumption) | assumption); obtain ⟨i037, hi037, _, hsz37, _⟩ := info_parts info53; have hroom37 : l0.length ≤ c0 := (Kd.V_reads' HO_0.out).2.1; have hC37 : Kd.F k53 _ _ (some ad145) l0.length l0 := (Kd.V_at (base := w.heap.size) HO_0.out).2.2; have hcut37 := cut_to (P := Try.prog) 28 53 .i64 Try.underlying28 hi037 (some ad145) l0.length c0 (ji12) (of_decide_eq_true (by first | (with_reducible assumption) | assumption)) q37 hroom37; have hr37 := Kd.F_take (m := ((ji12) : Int).toNat) hC37 (by omega); have hy37 : y155.length = ((ji12) : Int).toNat := (by rw [Ny155.out, List.length_take]; omega); rw [← Ny155.out] at hr37; rw [← hy37] at hcut37; have HO159 := Aside0.mk (show Kd.V k53 53 _ w.heap.size _ (.slice (some ad145) y155.length c0) y155 from Kd.V_mk (by omega) hr37); have HC159 := Aside0.mk (show y155.length ≤ c0 from by omega); clear hr37 hC37 hroom37 hi037 hsz37; have KY37 := Aside0.mk hy37; clear hy37; replace q37 := eq_true q37))
               go_ret
               exact ⟨_, by first | rfl | (simp [errW_none, errW_some] <;> rfl) | (simp only [← hji2, ← hji12]; first | rfl | (simp [errW_none, errW_some] <;> rfl)) | (simp [*, errW_none, errW_some] <;> rfl), by (with_reducible repeat (first | apply Kd.V_alloc | apply Kd.V_drewN | apply Kd.V_drew)); exact Kd.V_mono HO159.out (fun _ hk => hk.1.1), by repeat (first | (with_reducible first | exact HB.out | apply zA | apply zN | apply zD | refine zS ?_ GE146.out) | exact HB.out)⟩
              ·
               rw [if_neg c29] at H
               exact absurd H (by simp)
             ·
              rw [if_neg c27] at H
              have c27b0 : (x12_1 == 4096) = false := beq_eq_false_iff_ne.mpr c27
              have c27b1 : (x12_1 != 4096) = true := bne_iff_ne.mpr c27
              have H' := Aside0.mk H
              clear H
              have p145 : 0 ≤ (x12_1 : Int) := of_decide_eq_true (by first | (with_reducible assumption) | assumption)
              have q145 : x12_1 < (l0.length : Int) := of_decide_eq_true (by first | (with_reducible assumption) | assumption)
              obtain ⟨ad145, A145_5, c145_5, e145, hx145_0, hx145_1, hx145_2, hx145_3, hx145_4, hx145_5, hl145_5, hi145_5⟩ := at_T53 (Kd.V_reads' HO_10.out).2.2 x12_1 p145 q145
              cases e145
              obtain ⟨ce145, hce145, hMe145, hcc145⟩ := Kd.V_get HO_10.out z53 x12_1 p145 (by first | exact q145 | exact of_decide_eq_true (by first | (with_reducible assumption) | assumption) | (have e_ := (Kd.V_reads' HO_10.out).1; omega))
              obtain ⟨ua145_5, uc145_5, rfl, ul145_5, ge145_5⟩ := k53_openF hMe145
              have hv145_5 := hcc145 5 _ rfl
              rw [add_field _ _ 5 (by omega)] at hv145_5
              replace hv145_5 := Option.some.inj (hv145_5.symm.trans hx145_5)
              injection hv145_5 with hva_ hvn_ hvc_
              rw [hva_] at ge145_5
              rw [hvc_] at ul145_5
              have HL145_5 := Aside0.mk (show Kd.V k69 69 _ w.heap.size _ _ ((rd_T53 l0 x12_1).f5) from Kd.V_mk ul145_5 ge145_5)
              clear hva_ hvn_ hvc_ ge145_5 ul145_5
              clear hcc145 hce145
              have HR145_5 := Aside0.mk hi145_5
              have HC145_5 := Aside0.mk hl145_5
              clear hi145_5 hl145_5
              replace p145 := eq_true p145
              replace q145 := eq_true q145
              go_wp2_with (first | ((with_reducible refine gate_dst (N := 5) rfl ?_); refine box_event ?hg (N := 5) ?hd (cs := #[.int .i64 0, .int .i64 0, .string (⟨#[]⟩ : ByteArray), .string (⟨#[]⟩ : ByteArray), .string (⟨#[]⟩ : ByteArray), .slice none 0 0]) (t := 53) ?hr ?_; (case hd => rfl); (case hg => rfl); (case hr => first | (go_simp; done) | (go_simp; rfl)); intro gb146 hg w38 hbox hb; have n0_ := Aside0.mk (Kd.V_below (Kd.V_elderB (by (with_reducible repeat (first | apply Kd.V_alloc | apply Kd.V_drewN | apply Kd.V_drew)); exact HO_0.out) gb146 (Nat.le_of_eq hg.symm)) hb); have n1_ := Aside0.mk (Kd.R_below (by (with_reducible repeat (first | apply Kd.R_alloc | apply Kd.R_drewN | apply Kd.R_drew)); exact HO_3.out) hb); have n2_ := Aside0.mk (Kd.V_below (Kd.V_elderB (by (with_reducible repeat (first | apply Kd.V_alloc | apply Kd.V_drewN | apply Kd.V_drew)); exact HO_10.out) gb146 (Nat.le_of_eq hg.symm)) hb); have n3_ := Aside0.mk (Kd.V_below (Kd.V_elderB (by (with_reducible repeat (first | apply Kd.V_alloc | apply Kd.V_drewN | apply Kd.V_drew)); exact HL145_5.out) gb146 (Nat.le_of_eq hg.symm)) hb); have n4_ := Aside0.mk (Kd.C_below (by repeat (first | (with_reducible exact HR145_5.out) | (with_reducible refine Kd.C_alloc ?_ _) | (with_reducible refine Kd.C_drewN ?_ _) | (with_reducible refine Kd.C_drew ?_) | exact HR145_5.out)) hb); have n5_ := Aside0.mk (below_step (by repeat (first | (with_reducible first | exact HB.out | apply zA | apply zN | apply zD) | exact HB.out)) hb); have n6_ := Aside0.mk (hbox); have n7_ := Aside0.mk ((by rw [hg]; exact (below_size (by repeat (first | (with_reducible first | exact HB.out | apply zA | apply zN | apply zD) | exact HB.out))) : w.heap.size ≤ gb146)); have n8_ := Aside0.mk ((by rw [hg]; exact (below_size (by repeat (first | (with_reducible first | exact HB.out | apply zA | apply zN | apply zD) | exact HB.out))) : w.heap.size ≤ gb146)); clear HO_0; clear HO_3; clear HO_10; clear HL145_5; clear HR145_5; clear HB; have HO_0 := n0_; have HO_3 := n1_; have HO_10 := n2_; have HL145_5 := n3_; have HR145_5 := n4_; have HB := n5_; have BK146 := n6_; have GW146 := n7_; have GE146 := n8_; clear n0_ n1_ n2_ n3_ n4_ n5_ n6_ n7_ n8_; clear hb hbox hg; have hcz39_0 : w38.cell? ⟨gb146, 0, none⟩ = some (.int .i64 0) := (zC BK146.out 0).trans rfl; have hcz39_1 : w38.cell? ⟨gb146, 1, none⟩ = some (.int .i64 0) := (zC BK146.out 1).trans rfl; have hcz39_2 : w38.cell? ⟨gb146, 2, none⟩ = some (.string (⟨#[]⟩ : ByteArray)) := (zC BK146.out 2).trans rfl; have hcz39_3 : w38.cell? ⟨gb146, 3, none⟩ = some (.string (⟨#[]⟩ : ByteArray)) := (zC BK146.out 3).trans rfl; have hcz39_4 : w38.cell? ⟨gb146, 4, none⟩ = some (.string (⟨#[]⟩ : ByteArray)) := (zC BK146.out 4).trans rfl; have hcz39_5 : w38.cell? ⟨gb146, 5, none⟩ = some (.slice none 0 0) := (zC BK146.out 5).trans rfl; have hfz39_0 := zR BK146.out 0; have hfz39_1 := zR BK146.out 1; have hfz39_2 := zR BK146.out 2; have hfz39_3 := zR BK146.out 3; have hfz39_4 := zR BK146.out 4; have hfz39_5 := zR BK146.out 5) | ((with_reducible refine gate_store (t := 53) (p := 5) rfl ?_); refine store_event (t := 53) (p := 5) (v := ?vo_w40) (w1 := ((((((w38.setCell ⟨gb146, 0, none⟩ (.int .i64 ((rd_T53 l0 x12_1).f0))).setCell ⟨gb146, 1, none⟩ (.int .i64 ((rd_T53 l0 x12_1).f1))).setCell ⟨gb146, 2, none⟩ (.string ((rd_T53 l0 x12_1).f2))).setCell ⟨gb146, 3, none⟩ (.string ((rd_T53 l0 x12_1).f3))).setCell ⟨gb146, 4, none⟩ (.string ((rd_T53 l0 x12_1).f4))).setCell ⟨gb146, 5, none⟩ (.slice A145_5 ((rd_T53 l0 x12_1).f5).length c145_5))) ?hg ?ho ?hn ?hr ?_; (case ho => rfl); (case hg => rfl); (case hn => rfl); (case hr => first | (go_simp; done) | (go_simp; rfl)); intro w40 hw; have n0_ : Aside0 (Kd.V k53 53 w40 w.heap.size (fun k_ => (P0_ k_ ∨ w.heap.size ≤ k_) ∧ some k_ ≠ (v143 : Value).ownBlock ∧ k_ ≠ gb146) (.slice (some ad145) l0.length c0) l0) := ⟨(by rw [hw]; exact (by (with_reducible repeat (first | apply Kd.V_alloc | apply Kd.V_drewN | apply Kd.V_drew)); exact Kd.V_mono (Kd.V_far (p := ⟨gb146, 5, none⟩) (Kd.V_far (p := ⟨gb146, 4, none⟩) (Kd.V_far (p := ⟨gb146, 3, none⟩) (Kd.V_far (p := ⟨gb146, 2, none⟩) (Kd.V_far (p := ⟨gb146, 1, none⟩) (Kd.V_far (p := ⟨gb146, 0, none⟩) (Kd.V_mono HO_0.out (fun k_ hk => (⟨hk, hk.2⟩ : _ ∧ k_ ≠ gb146))) (fun _ hk => hk.2) (.int .i64 ((rd_T53 l0 x12_1).f0))) (fun _ hk => hk.2) (.int .i64 ((rd_T53 l0 x12_1).f1))) (fun _ hk => hk.2) (.string ((rd_T53 l0 x12_1).f2))) (fun _ hk => hk.2) (.string ((rd_T53 l0 x12_1).f3))) (fun _ hk => hk.2) (.string ((rd_T53 l0 x12_1).f4))) (fun _ hk => hk.2) (.slice A145_5 ((rd_T53 l0 x12_1).f5).length c145_5)) (fun _ hk => ⟨hk.1.1.1, ⟨hk.1.1.2, hk.1.2⟩⟩)))⟩; have n1_ : Aside0 (Kd.R (Kd.int .i64) 3 w40 w.heap.size (fun k_ => (w.heap.size ≤ k_)) v143 x3_1) := ⟨(by rw [hw]; exact (by (with_reducible repeat (first | apply Kd.R_alloc | apply Kd.R_drewN | apply Kd.R_drew)); exact Kd.R_mono (Kd.R_far (p := ⟨gb146, 5, none⟩) (Kd.R_far (p := ⟨gb146, 4, none⟩) (Kd.R_far (p := ⟨gb146, 3, none⟩) (Kd.R_far (p := ⟨gb146, 2, none⟩) (Kd.R_far (p := ⟨gb146, 1, none⟩) (Kd.R_far (p := ⟨gb146, 0, none⟩) (Kd.R_types HO_3.out BK146.out (by decide)) (fun _ hk => hk.2) (.int .i64 ((rd_T53 l0 x12_1).f0))) (fun _ hk => hk.2) (.int .i64 ((rd_T53 l0 x12_1).f1))) (fun _ hk => hk.2) (.string ((rd_T53 l0 x12_1).f2))) (fun _ hk => hk.2) (.string ((rd_T53 l0 x12_1).f3))) (fun _ hk => hk.2) (.string ((rd_T53 l0 x12_1).f4))) (fun _ hk => hk.2) (.slice A145_5 ((rd_T53 l0 x12_1).f5).length c145_5)) (fun _ hk => hk.1)))⟩; have n2_ : Aside0 (Kd.V k53 53 w40 w.heap.size (fun k_ => (P0_ k_ ∨ w.heap.size ≤ k_) ∧ some k_ ≠ (v143 : Value).ownBlock ∧ k_ ≠ gb146) (.slice (some ad145) l0.length c0) l0) := ⟨(by rw [hw]; exact (by (with_reducible repeat (first | apply Kd.V_alloc | apply Kd.V_drewN | apply Kd.V_drew)); exact Kd.V_mono (Kd.V_far (p := ⟨gb146, 5, none⟩) (Kd.V_far (p := ⟨gb146, 4, none⟩) (Kd.V_far (p := ⟨gb146, 3, none⟩) (Kd.V_far (p := ⟨gb146, 2, none⟩) (Kd.V_far (p := ⟨gb146, 1, none⟩) (Kd.V_far (p := ⟨gb146, 0, none⟩) (Kd.V_mono HO_10.out (fun k_ hk => (⟨hk, hk.2⟩ : _ ∧ k_ ≠ gb146))) (fun _ hk => hk.2) (.int .i64 ((rd_T53 l0 x12_1).f0))) (fun _ hk => hk.2) (.int .i64 ((rd_T53 l0 x12_1).f1))) (fun _ hk => hk.2) (.string ((rd_T53 l0 x12_1).f2))) (fun _ hk => hk.2) (.string ((rd_T53 l0 x12_1).f3))) (fun _ hk => hk.2) (.string ((rd_T53 l0 x12_1).f4))) (fun _ hk => hk.2) (.slice A145_5 ((rd_T53 l0 x12_1).f5).length c145_5)) (fun _ hk => ⟨hk.1.1.1, ⟨hk.1.1.2, hk.1.2⟩⟩)))⟩; have n3_ : Aside0 (Kd.V k69 69 w40 w.heap.size (fun k_ => (P0_ k_ ∨ w.heap.size ≤ k_) ∧ some k_ ≠ (v143 : Value).ownBlock ∧ k_ ≠ gb146) (.slice A145_5 ((rd_T53 l0 x12_1).f5).length c145_5) ((rd_T53 l0 x12_1).f5)) := ⟨(by rw [hw]; exact (by (with_reducible repeat (first | apply Kd.V_alloc | apply Kd.V_drewN | apply Kd.V_drew)); exact Kd.V_mono (Kd.V_far (p := ⟨gb146, 5, none⟩) (Kd.V_far (p := ⟨gb146, 4, none⟩) (Kd.V_far (p := ⟨gb146, 3, none⟩) (Kd.V_far (p := ⟨gb146, 2, none⟩) (Kd.V_far (p := ⟨gb146, 1, none⟩) (Kd.V_far (p := ⟨gb146, 0, none⟩) (Kd.V_mono HL145_5.out (fun k_ hk => (⟨hk, hk.2⟩ : _ ∧ k_ ≠ gb146))) (fun _ hk => hk.2) (.int .i64 ((rd_T53 l0 x12_1).f0))) (fun _ hk => hk.2) (.int .i64 ((rd_T53 l0 x12_1).f1))) (fun _ hk => hk.2) (.string ((rd_T53 l0 x12_1).f2))) (fun _ hk => hk.2) (.string ((rd_T53 l0 x12_1).f3))) (fun _ hk => hk.2) (.string ((rd_T53 l0 x12_1).f4))) (fun _ hk => hk.2) (.slice A145_5 ((rd_T53 l0 x12_1).f5).length c145_5)) (fun _ hk => ⟨hk.1.1.1, ⟨hk.1.1.2, hk.1.2⟩⟩)))⟩; have n4_ : Aside0 (w40.heap[gb146]? = some (.cells #[.int .i64 ((rd_T53 l0 x12_1).f0), .int .i64 ((rd_T53 l0 x12_1).f1), .string ((rd_T53 l0 x12_1).f2), .string ((rd_T53 l0 x12_1).f3), .string ((rd_T53 l0 x12_1).f4), .slice A145_5 ((rd_T53 l0 x12_1).f5).length c145_5] 53 (0, 0))) := ⟨(by rw [hw]; exact (by (with_reducible repeat first | apply zM | apply zE | apply zF); refine zP (cs := #[.int .i64 ((rd_T53 l0 x12_1).f0), .int .i64 ((rd_T53 l0 x12_1).f1), .string ((rd_T53 l0 x12_1).f2), .string ((rd_T53 l0 x12_1).f3), .string ((rd_T53 l0 x12_1).f4), .slice none 0 0]) ?_ 5 _ rfl; (with_reducible repeat first | apply zM | apply zE | apply zF); refine zP (cs := #[.int .i64 ((rd_T53 l0 x12_1).f0), .int .i64 ((rd_T53 l0 x12_1).f1), .string ((rd_T53 l0 x12_1).f2), .string ((rd_T53 l0 x12_1).f3), .string (⟨#[]⟩ : ByteArray), .slice none 0 0]) ?_ 4 _ rfl; (with_reducible repeat first | apply zM | apply zE | apply zF); refine zP (cs := #[.int .i64 ((rd_T53 l0 x12_1).f0), .int .i64 ((rd_T53 l0 x12_1).f1), .string ((rd_T53 l0 x12_1).f2), .string (⟨#[]⟩ : ByteArray), .string (⟨#[]⟩ : ByteArray), .slice none 0 0]) ?_ 3 _ rfl; (with_reducible repeat first | apply zM | apply zE | apply zF); refine zP (cs := #[.int .i64 ((rd_T53 l0 x12_1).f0), .int .i64 ((rd_T53 l0 x12_1).f1), .string (⟨#[]⟩ : ByteArray), .string (⟨#[]⟩ : ByteArray), .string (⟨#[]⟩ : ByteArray), .slice none 0 0]) ?_ 2 _ rfl; (with_reducible repeat first | apply zM | apply zE | apply zF); refine zP (cs := #[.int .i64 ((rd_T53 l0 x12_1).f0), .int .i64 0, .string (⟨#[]⟩ : ByteArray), .string (⟨#[]⟩ : ByteArray), .string (⟨#[]⟩ : ByteArray), .slice none 0 0]) ?_ 1 _ rfl; (with_reducible repeat first | apply zM | apply zE | apply zF); refine zP (cs := #[.int .i64 0, .int .i64 0, .string (⟨#[]⟩ : ByteArray), .string (⟨#[]⟩ : ByteArray), .string (⟨#[]⟩ : ByteArray), .slice none 0 0]) ?_ 0 _ rfl; (with_reducible repeat first | apply zM | apply zE | apply zF); exact BK146.out))⟩; have n5_ : Aside0 (Below w.heap.size w w40) := ⟨(by rw [hw]; exact (by repeat (first | (with_reducible first | exact HB.out | apply zA | apply zN | apply zD | refine zS ?_ GE146.out) | exact HB.out)))⟩; clear hw; clear HO_0; clear HO_3; clear HO_10; clear HL145_5; clear BK146; clear HB; have HO_0 := n0_; have HO_3 := n1_; have HO_10 := n2_; have HL145_5 := n3_; have BK146 := n4_; have HB := n5_; clear n0_ n1_ n2_ n3_ n4_ n5_; have hcz41_0 : w40.cell? ⟨gb146, 0, none⟩ = some (.int .i64 ((rd_T53 l0 x12_1).f0)) := (zC BK146.out 0).trans rfl; have hcz41_1 : w40.cell? ⟨gb146, 1, none⟩ = some (.int .i64 ((rd_T53 l0 x12_1).f1)) := (zC BK146.out 1).trans rfl; have hcz41_2 : w40.cell? ⟨gb146, 2, none⟩ = some (.string ((rd_T53 l0 x12_1).f2)) := (zC BK146.out 2).trans rfl; have hcz41_3 : w40.cell? ⟨gb146, 3, none⟩ = some (.string ((rd_T53 l0 x12_1).f3)) := (zC BK146.out 3).trans rfl; have hcz41_4 : w40.cell? ⟨gb146, 4, none⟩ = some (.string ((rd_T53 l0 x12_1).f4)) := (zC BK146.out 4).trans rfl; have hcz41_5 : w40.cell? ⟨gb146, 5, none⟩ = some (.slice A145_5 ((rd_T53 l0 x12_1).f5).length c145_5) := (zC BK146.out 5).trans rfl; have hfz41_0 := zR BK146.out 0; have hfz41_1 := zR BK146.out 1; have hfz41_2 := zR BK146.out 2; have hfz41_3 := zR BK146.out 3; have hfz41_4 := zR BK146.out 4; have hfz41_5 := zR BK146.out 5; obtain ⟨Ao42, co42, eo42⟩ := Kd.R_slice HO_3.out; subst eo42; have p147 : 0 ≤ (((rd_T53 l0 x12_1).f1) : Int) := of_decide_eq_true (by first | (with_reducible assumption) | assumption); have q147 : ((rd_T53 l0 x12_1).f1) < (x3_1.length : Int) := of_decide_eq_true (by first | (with_reducible assumption) | assumption); obtain ⟨ad147, e147, hx147_0⟩ := Kd.at_int (Kd.R_reads' HO_3.out).2.2 ((rd_T53 l0 x12_1).f1) p147 q147; cases e147; replace p147 := eq_true p147; replace q147 := eq_true q147; have p15 : 0 ≤ ((ji12) : Int) := of_decide_eq_true (by first | (with_reducible assumption) | assumption); have q15 : ((ji12) : Int) < ((x3_1.length : Int) : Int) := of_decide_eq_true (by first | (with_reducible assumption) | assumption); obtain ⟨go15, co15, eo15, gb15, gl15, cl15, HG15⟩ := Kd.R_form HO_3.out (by omega); (first | cases eo15 | (injection eo15 with ea_ en_ ec_; (first | subst ea_ | (injection ea_ with ea_; subst ea_)); subst ec_; clear en_)); have GB15 := Aside0.mk gb15; have GG15 := Aside0.mk HG15; clear gb15 gl15 HG15; (first | simp only [add_plain] at hx147_0 | skip); obtain ⟨hx15_0, hf15_0⟩ := Kd.R_celln 0 HO_3.out ((ji12) : Int) p15 q15; replace p15 := eq_true p15; replace q15 := eq_true q15; obtain ⟨hy43_, hz43_⟩ := Kd.R_celln 0 HO_3.out ((ji12) : Int) (of_decide_eq_true (by first | (with_reducible assumption) | assumption)) (of_decide_eq_true (by first | (with_reducible assumption) | assumption)); have HP43 := Kd.R_putg HO_3.out ((ji12) : Int) (wrap64 ((rd x3_1 ((rd_T53 l0 x12_1).f1)) + 1))) | ((with_reducible refine gate_store (t := 3) (p := 26) rfl ?_); refine store_event (t := 3) (p := 26) (v := ?vo_w44) (w1 := (w40.setCell ⟨go15, ((ji12) : Int).toNat, none⟩ (.int .i64 (wrap64 ((rd x3_1 ((rd_T53 l0 x12_1).f1)) + 1))))) ?hg ?ho ?hn ?hr ?_; (case ho => rfl); (case hg => rfl); (case hn => rfl); (case hr => first | (go_simp; done) | (go_simp; rfl)); intro w44 hw; have hg : w40.grownBy w44 (some go15) := (by rw [hw]; exact HP43.2); have hp_ : Kd.R (Kd.int .i64) 3 w44 w.heap.size (fun k_ => (w.heap.size ≤ k_)) (.slice (some ⟨go15, 0, none⟩) x3_1.length co42) y148 := (by rw [hw, Ny148.out]; exact HP43.1); clear HP43; have n0_ := Aside0.mk (Kd.V_afterv (v := (.slice (some ⟨go15, 0, none⟩) x3_1.length co42)) (v1 := (.slice (some ⟨go15, 0, none⟩) x3_1.length co42)) (ok := (fun k_ => (P0_ k_ ∨ w.heap.size ≤ k_) ∧ k_ ≠ gb146)) (by (with_reducible repeat (first | apply Kd.V_alloc | apply Kd.V_drewN | apply Kd.V_drew)); exact Kd.V_mono HO_0.out (fun _ hk => ⟨⟨hk.1, hk.2.2⟩, hk.2.1⟩)) hg (.inl rfl)); have n1_ := Aside0.mk (hp_); have n2_ := Aside0.mk (Kd.V_afterv (v := (.slice (some ⟨go15, 0, none⟩) x3_1.length co42)) (v1 := (.slice (some ⟨go15, 0, none⟩) x3_1.length co42)) (ok := (fun k_ => (P0_ k_ ∨ w.heap.size ≤ k_) ∧ k_ ≠ gb146)) (by (with_reducible repeat (first | apply Kd.V_alloc | apply Kd.V_drewN | apply Kd.V_drew)); exact Kd.V_mono HO_10.out (fun _ hk => ⟨⟨hk.1, hk.2.2⟩, hk.2.1⟩)) hg (.inl rfl)); have n3_ := Aside0.mk (Kd.V_afterv (v := (.slice (some ⟨go15, 0, none⟩) x3_1.length co42)) (v1 := (.slice (some ⟨go15, 0, none⟩) x3_1.length co42)) (ok := (fun k_ => (P0_ k_ ∨ w.heap.size ≤ k_) ∧ k_ ≠ gb146)) (by (with_reducible repeat (first | apply Kd.V_alloc | apply Kd.V_drewN | apply Kd.V_drew)); exact Kd.V_mono HL145_5.out (fun _ hk => ⟨⟨hk.1, hk.2.2⟩, hk.2.1⟩)) hg (.inl rfl)); have n4_ := Aside0.mk (blk_grown (g := gb146) (o := .cells #[.int .i64 ((rd_T53 l0 x12_1).f0), .int .i64 ((rd_T53 l0 x12_1).f1), .string ((rd_T53 l0 x12_1).f2), .string ((rd_T53 l0 x12_1).f3), .string ((rd_T53 l0 x12_1).f4), .slice A145_5 ((rd_T53 l0 x12_1).f5).length c145_5] 53 (0, 0)) (by (with_reducible repeat first | apply zM | apply zE | apply zF); exact BK146.out) hg (Kd.R_ne HO_3.out BK146.out (by decide))); have n5_ := Aside0.mk ((by rw [hw]; exact zS (HB.out) GB15.out : Below w.heap.size w w44)); clear HO_0; clear HO_3; clear HO_10; clear HL145_5; clear BK146; clear HB; have HO_0 := n0_; have HO_3 := n1_; have HO_10 := n2_; have HL145_5 := n3_; have BK146 := n4_; have HB := n5_; clear n0_ n1_ n2_ n3_ n4_ n5_; clear hg hw hp_; have p149 : 0 ≤ ((ji12) : Int) := of_decide_eq_true (by first | (with_reducible assumption) | assumption); have q149 : (ji12) < (y148.length : Int) := (by have h_ : ((ji12) : Int) < ((x3_1.length : Int) : Int) := of_decide_eq_true (by first | (with_reducible assumption) | assumption); first | (have e_ := (Kd.R_reads' HO_3.out).1; omega) | simpa only [Ny148.out, List.length_set] using h_); have ql149 : (((ji12) : Int) < ((x3_1.length : Int) : Int)) = True := eq_true (of_decide_eq_true (by first | (with_reducible assumption) | assumption)); obtain ⟨ad149, e149, hx149_0⟩ := Kd.at_int (Kd.R_reads' HO_3.out).2.2 (ji12) p149 q149; obtain rfl : (⟨go15, 0, none⟩ : Addr) = ad149 := (by injection e149); (first | simp only [add_plain] at hx149_0 | simp only [add_at] at hx149_0 | simp only [Addr.add, Nat.zero_add] at hx149_0 | skip); replace p149 := eq_true p149; replace q149 := eq_true q149))
              go_roundg k1
              case measure => have := HK1.out; omega
              case rel => exact ⟨(y148), (ji12), (by first | rfl | (simp; done) | (simp only [← hji12] <;> (first | rfl | simp)) | (simp [*]; done)), H', ⟨by have := HK1.out; omega⟩, ⟨by (with_reducible repeat (first | apply Kd.V_alloc | apply Kd.V_drewN | apply Kd.V_drew)); exact Kd.V_mono HO_0.out (fun _ hk => ⟨hk.1.1, hk.2⟩)⟩, ⟨by (with_reducible repeat (first | apply Kd.R_alloc | apply Kd.R_drewN | apply Kd.R_drew)); exact HO_3.out⟩, ⟨by (with_reducible repeat (first | apply Kd.V_alloc | apply Kd.V_drewN | apply Kd.V_drew)); exact Kd.V_mono HO_10.out (fun _ hk => ⟨hk.1.1, hk.2⟩)⟩, ⟨by repeat (first | (with_reducible first | exact HB.out | apply zA | apply zN | apply zD | refine zS ?_ GE146.out) | exact HB.out)⟩⟩
           ·
            rw [if_neg c14] at H
            exact absurd H (by simp)
          ·
           rw [if_neg c13] at H
           exact absurd H (by simp)
         ·
          rw [if_neg c11] at H
          exact absurd H (by simp)
        ·
         rw [if_neg c10] at H
         exact absurd H (by simp)
       ·
        rw [if_neg c9] at H
        exact absurd H (by simp)
      ·
       rw [if_neg c8] at H
       exact absurd H (by simp)
     ·
      rw [if_neg c7] at H
      have c7b0 : decide (x12_1 < (l0.length : Int)) = false := decide_eq_false c7
      clear c7
      obtain rfl := Option.some.inj H
      go_wp2
      go_ret
      exact ⟨_, by first | rfl | (simp [errW_none, errW_some] <;> rfl) | (simp only [← hji2]; first | rfl | (simp [errW_none, errW_some] <;> rfl)) | (simp [*, errW_none, errW_some] <;> rfl), by (with_reducible repeat (first | apply Kd.V_alloc | apply Kd.V_drewN | apply Kd.V_drew)); exact Kd.V_mono HO_0.out (fun _ hk => hk.1), by repeat (first | (with_reducible first | exact HB.out | apply zA | apply zN | apply zD) | exact HB.out)⟩
  ·
   rw [if_neg c4] at H
   exact absurd H (by simp)
 ·
  rw [if_neg c3] at H
  exact absurd H (by simp)

-- squeezed
end Go.Proofs.Ytcebfldagnjddaa.G
