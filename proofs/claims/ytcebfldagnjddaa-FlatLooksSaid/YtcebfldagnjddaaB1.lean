/- What the claim LawFlatLooks rests on, part 1 of 7: the kit's words, the printed walks, the walks by hand, the plain laws. -/
import Derived.Test.YtcebfldagnjddaaB0
import Derived.Lib.Strings
import Derived.Lib.Slices
import Derived.Lib.Walk
import Derived.Lib.Bytealg
namespace Go.Proofs.Ytcebfldagnjddaa.G
open Go.RowKit Go.Proofs.YtcebfldagnjddaaW.PrintWords Go.Proofs.YtcebfldagnjddaaW.PrintLast Go.Proofs.YtcebfldagnjddaaW.PrintMore
attribute [local go_sem] max2_int min2_int max_two min_two max_three min_three max_four min_four
set_option linter.unusedVariables false
set_option linter.unusedSimpArgs false
mutual
def flat_formed.l0 : Nat → List (S53) → List (S53) → Int → Int → Option (Bool)
 | 0, _, _, _, _ => none
 | k + 1, x0, x6, x7, x8 => if x8 < x7 then (if 0 ≤ x8 then (if x8 < (x6.length : Int) then (flat_formed.l1 k x0 x8 x8 x6 x7 x8 ((rd_T53 x6 x8).f0) ((rd_T53 x6 x8).f1) ((rd_T53 x6 x8).f2) ((rd_T53 x6 x8).f3) ((rd_T53 x6 x8).f4) ((rd_T53 x6 x8).f5)) else (none)) else (none)) else (some true)
def flat_formed.l1 : Nat → List (S53) → Int → Int → List (S53) → Int → Int → Int → Int → ByteArray → ByteArray → ByteArray → List (S69) → Option (Bool)
 | 0, _, _, _, _, _, _, _, _, _, _, _, _ => none
 | k + 1, x0, x3, x5, x6, x7, x8, x133000, x133001, x133002, x133003, x133004, x133005 => if x5 = 0 then (if x5 = x133001 then (if ((x5 == 0) != (x3 == 0)) = true then (some false) else (flat_formed.l0 k x0 x6 x7 (wrap64 (x8 + 1)))) else (some false)) else (if x5 = x133001 then (if ((x5 == 0) != (x3 == 0)) = true then (some false) else (flat_formed.l0 k x0 x6 x7 (wrap64 (x8 + 1)))) else (if 0 ≤ (wrap64 (x5 - 1)) then (if (wrap64 (x5 - 1)) < (x0.length : Int) then (flat_formed.l1 k x0 x3 ((rd_T53 x0 (wrap64 (x5 - 1))).f1) x6 x7 x8 x133000 x133001 x133002 x133003 x133004 x133005) else (none)) else (none)))
end
def flat_formed.f (k : Nat) (l0 : List (S53)) : Option (Bool) := flat_formed.l0 k l0 l0 (l0.length : Int) 0
theorem flat_formed.mono_l : ∀ k, (∀ y0 y1 y2 y3, LeO (flat_formed.l0 k y0 y1 y2 y3) (flat_formed.l0 (k + 1) y0 y1 y2 y3)) ∧ (∀ y0 y1 y2 y3 y4 y5 y6 y7 y8 y9 y10 y11, LeO (flat_formed.l1 k y0 y1 y2 y3 y4 y5 y6 y7 y8 y9 y10 y11) (flat_formed.l1 (k + 1) y0 y1 y2 y3 y4 y5 y6 y7 y8 y9 y10 y11))
 | 0 => ⟨fun _ _ _ _ r h => by simp [flat_formed.l0] at h, fun _ _ _ _ _ _ _ _ _ _ _ _ r h => by simp [flat_formed.l1] at h⟩
 | k + 1 => by
  obtain ⟨ih0, ih1⟩ := flat_formed.mono_l k
  refine ⟨?_, ?_⟩
  ·
   intro y0 y1 y2 y3
   unfold flat_formed.l0
   with_reducible repeat' first | exact ih0 _ _ _ _ | exact ih1 _ _ _ _ _ _ _ _ _ _ _ _ | exact LeO.refl _ | exact LeO.none _ | refine LeO.ite ?_ ?_ | refine LeO.bind ?_ (fun _ => ?_)
  ·
   intro y0 y1 y2 y3 y4 y5 y6 y7 y8 y9 y10 y11
   unfold flat_formed.l1
   with_reducible repeat' first | exact ih0 _ _ _ _ | exact ih1 _ _ _ _ _ _ _ _ _ _ _ _ | exact LeO.refl _ | exact LeO.none _ | refine LeO.ite ?_ ?_ | refine LeO.bind ?_ (fun _ => ?_)
theorem flat_formed.mono : ∀ a0 k, LeO (flat_formed.f k a0) (flat_formed.f (k + 1) a0) := by
 intro a0 k
 obtain ⟨ih0, ih1⟩ := flat_formed.mono_l k
 unfold flat_formed.f
 with_reducible repeat' first | exact ih0 _ _ _ _ | exact ih1 _ _ _ _ _ _ _ _ _ _ _ _ | exact LeO.refl _ | exact LeO.none _ | refine LeO.ite ?_ ?_ | refine LeO.bind ?_ (fun _ => ?_)
set_option maxHeartbeats 8000000 in
set_option maxRecDepth 100000 in
theorem flat_formed.calls (k : Nat) (A0 : Option Addr) (c0 : Nat) (l0 : List (S53)) (r : Bool) (w : World) (hr0 : Kd.C k53 w A0 l0.length l0) (hc0 : l0.length ≤ c0) (h : flat_formed.f k l0 = some r) :
  Calls Try.prog 33 #[.slice A0 l0.length c0] w fun e w' => e = .returned (.bool r) ∧ Below w.heap.size w w' := by
 have hu53 := Try.underlying53
 have HR0 := zk hr0
 have HC0 := zk hc0
 clear hr0 hc0
 have HB := zk (Below.refl w.heap.size w)
 have H : (flat_formed.l0 k l0 l0 (l0.length : Int) 0) = some r := h
 clear h
 have H' := zk H
 clear H
 go_enter Try.func33, Try.ntmps33
 go_wp2
 go_loopg [8] k (fun kq v8 w' => ∃ (x8_1 : Int), v8 = .int .i64 x8_1 ∧ Aside0 (flat_formed.l0 kq l0 l0 (l0.length : Int) x8_1 = some r) ∧ Aside0 (kq ≤ k) ∧ Aside0 (Below w.heap.size w w'))
 case atStart => exact ⟨(0), (by first | rfl | (simp; done) | (simp [*]; done)), H', ⟨Nat.le_refl _⟩, ⟨by with_reducible repeat first | exact HB.out | apply zA | apply zN | apply zD⟩⟩
 case round =>
  clear H'; obtain ⟨x8_1, rfl, HA, HK1, HB⟩ := hrel
  cases gk with
  | zero => exact absurd HA.out (by simp [flat_formed.l0])
  | succ k1 =>
   have H := HA.out; clear HA; simp only [flat_formed.l0] at H
   by_cases c2 : x8_1 < (l0.length : Int)
   ·
    rw [if_pos c2] at H; have c2b0 := decide_eq_true c2; clear c2
    by_cases c3 : 0 ≤ x8_1
    ·
     rw [if_pos c3] at H; have c3b0 : decide (0 ≤ x8_1) = true := decide_eq_true c3; clear c3
     by_cases c4 : x8_1 < (l0.length : Int)
     ·
      rw [if_pos c4] at H; have c4b0 : decide (x8_1 < (l0.length : Int)) = true := decide_eq_true c4; clear c4; have H' := zk H; clear H; have p131 : 0 ≤ (x8_1 : Int) := zo (by assumption); have q131 : x8_1 < (l0.length : Int) := zo (by assumption); obtain ⟨ad131, A131_5, c131_5, e131, hx131_0, hx131_1, hx131_2, hx131_3, hx131_4, hx131_5, hl131_5, hi131_5⟩ := at_T53 HR0.out x8_1 p131 q131; cases e131; replace hx131_0 := zB HB hx131_0; replace hx131_1 := zB HB hx131_1; replace hx131_2 := zB HB hx131_2; replace hx131_3 := zB HB hx131_3; replace hx131_4 := zB HB hx131_4; replace hx131_5 := zB HB hx131_5; have HR131_5 := zk hi131_5; have HC131_5 := zk hl131_5; clear hi131_5 hl131_5; replace p131 := eq_true p131; replace q131 := eq_true q131
      go_wp2_with (first | ((with_reducible refine gd (N := 4) rfl ?_); refine zb ?hg (N := 4) ?hd (cs := #[.int .i64 0, .int .i64 0, .string ⟨#[]⟩, .string ⟨#[]⟩, .string ⟨#[]⟩, .slice none 0 0]) (t := 53) ?hr ?_; (case hd => rfl); (case hg => rfl); (case hr => go_simp; first | done | rfl); intro gb132 hg w5 hbox hb; have n0_ := zk (zs (by with_reducible repeat first | exact HB.out | apply zA | apply zN | apply zD) hb); have n1_ := zk (hbox); have n2_ := zk ((by rw [hg]; exact (zq (by with_reducible repeat first | exact HB.out | apply zA | apply zN | apply zD)) : w.heap.size ≤ gb132)); have n3_ := n2_; clear HB; have HB := n0_; have BK132 := n1_; have GW132 := n2_; have GE132 := n3_; clear n0_ n1_ n2_ n3_; clear hb hbox hg; obtain ⟨hcz6_0, hcz6_1, hcz6_2, hcz6_3, hcz6_4, hcz6_5, hfz6_0, hfz6_1, hfz6_2, hfz6_3, hfz6_4, hfz6_5⟩ := zc6 BK132.out))
      go_loopg [5] k1 (fun kq v5 w' => ∃ (x5_2 : Int), v5 = .int .i64 x5_2 ∧ Aside0 (flat_formed.l1 kq l0 x8_1 x5_2 l0 (l0.length : Int) x8_1 ((rd_T53 l0 x8_1).f0) ((rd_T53 l0 x8_1).f1) ((rd_T53 l0 x8_1).f2) ((rd_T53 l0 x8_1).f3) ((rd_T53 l0 x8_1).f4) ((rd_T53 l0 x8_1).f5) = some r) ∧ Aside0 (kq ≤ k1) ∧ Aside0 (w'.heap[gb132]? = some (.cells #[.int .i64 ((rd_T53 l0 x8_1).f0), .int .i64 ((rd_T53 l0 x8_1).f1), .string ((rd_T53 l0 x8_1).f2), .string ((rd_T53 l0 x8_1).f3), .string ((rd_T53 l0 x8_1).f4), (.slice A131_5 ((rd_T53 l0 x8_1).f5).length c131_5)] 53 (0, 0))) ∧ Aside0 (Below w.heap.size w w'))
      case atStart => exact ⟨(x8_1), (by first | rfl | (simp; done) | (simp [*]; done)), H', ⟨Nat.le_refl _⟩, ⟨by (with_reducible repeat first | apply zM | apply zE | apply zF); refine zP (cs := #[.int .i64 ((rd_T53 l0 x8_1).f0), .int .i64 ((rd_T53 l0 x8_1).f1), .string ((rd_T53 l0 x8_1).f2), .string ((rd_T53 l0 x8_1).f3), .string ((rd_T53 l0 x8_1).f4), .slice none 0 0]) ?_ 5 _ rfl; (with_reducible repeat first | apply zM | apply zE | apply zF); refine zP (cs := #[.int .i64 ((rd_T53 l0 x8_1).f0), .int .i64 ((rd_T53 l0 x8_1).f1), .string ((rd_T53 l0 x8_1).f2), .string ((rd_T53 l0 x8_1).f3), .string ⟨#[]⟩, .slice none 0 0]) ?_ 4 _ rfl; (with_reducible repeat first | apply zM | apply zE | apply zF); refine zP (cs := #[.int .i64 ((rd_T53 l0 x8_1).f0), .int .i64 ((rd_T53 l0 x8_1).f1), .string ((rd_T53 l0 x8_1).f2), .string ⟨#[]⟩, .string ⟨#[]⟩, .slice none 0 0]) ?_ 3 _ rfl; (with_reducible repeat first | apply zM | apply zE | apply zF); refine zP (cs := #[.int .i64 ((rd_T53 l0 x8_1).f0), .int .i64 ((rd_T53 l0 x8_1).f1), .string ⟨#[]⟩, .string ⟨#[]⟩, .string ⟨#[]⟩, .slice none 0 0]) ?_ 2 _ rfl; (with_reducible repeat first | apply zM | apply zE | apply zF); refine zP (cs := #[.int .i64 ((rd_T53 l0 x8_1).f0), .int .i64 0, .string ⟨#[]⟩, .string ⟨#[]⟩, .string ⟨#[]⟩, .slice none 0 0]) ?_ 1 _ rfl; (with_reducible repeat first | apply zM | apply zE | apply zF); refine zP (cs := #[.int .i64 0, .int .i64 0, .string ⟨#[]⟩, .string ⟨#[]⟩, .string ⟨#[]⟩, .slice none 0 0]) ?_ 0 _ rfl; (with_reducible repeat first | apply zM | apply zE | apply zF); exact BK132.out⟩, ⟨by with_reducible repeat first | exact HB.out | apply zA | apply zN | apply zD | refine zS ?_ GE132.out⟩⟩
      case round =>
       clear H'; (try clear c1); (try clear p1); (try clear q1); (try clear hx1); (try clear c2); (try clear c2b0); (try clear p2); (try clear c3); (try clear c3b0); (try clear c4); (try clear c4b0); (try clear hx131_0); (try clear hx131_1); (try clear hx131_2); (try clear hx131_3); (try clear hx131_4); (try clear hx131_5); (try clear p131); (try clear q131)
       (try clear BK132)
       obtain ⟨x5_2, rfl, HA, HK2, BK132, HB⟩ := hrel
       cases gk with
       | zero => exact absurd HA.out (by simp [flat_formed.l1])
       | succ k2 =>
        have H := HA.out; clear HA; simp only [flat_formed.l1] at H
        by_cases c7 : x5_2 = 0
        ·
         rw [if_pos c7] at H; have c7b0 : (x5_2 == 0) = true := beq_iff_eq.mpr c7; have c7b1 : (x5_2 != 0) = false := bne_eq_false_iff_eq.mpr c7; clear c7
         by_cases c8 : x5_2 = ((rd_T53 l0 x8_1).f1)
         ·
          rw [if_pos c8] at H; have c8b0 : (x5_2 == ((rd_T53 l0 x8_1).f1)) = true := beq_iff_eq.mpr c8; have c8b1 : (x5_2 != ((rd_T53 l0 x8_1).f1)) = false := bne_eq_false_iff_eq.mpr c8; clear c8
          by_cases c9 : ((x5_2 == 0) != (x8_1 == 0)) = true
          ·
           rw [if_pos c9] at H; have c9b0 : ((x5_2 == 0) != (x8_1 == 0)) = true := c9
           (try (have c9b8 : (x8_1 == 0) = false := by (have h_ := c9b0; rw [c7b0] at h_; revert h_; cases (x8_1 == 0) <;> decide)))
           (try (have c9b9 : (x8_1 == 0) = true := by (have h_ := c9b0; rw [c7b0] at h_; revert h_; cases (x8_1 == 0) <;> decide)))
           (try (have c9b1 : decide ((x5_2 == 0) = (x8_1 == 0)) = false := by simpa using c9))
           (try (have c9b2 : ((x5_2 == 0) == (x8_1 == 0)) = false := by simpa using c9))
           (try (have c9b3 : ¬ ((x5_2 == 0) = (x8_1 == 0)) := by simpa using c9))
           clear c9; obtain rfl := Option.some.inj H; have hcz10_0 : wr.cell? ⟨gb132, 0, none⟩ = some (.int .i64 ((rd_T53 l0 x8_1).f0)) := (zC BK132.out 0).trans rfl; have hcz10_1 : wr.cell? ⟨gb132, 1, none⟩ = some (.int .i64 ((rd_T53 l0 x8_1).f1)) := (zC BK132.out 1).trans rfl; have hcz10_2 : wr.cell? ⟨gb132, 2, none⟩ = some (.string ((rd_T53 l0 x8_1).f2)) := (zC BK132.out 2).trans rfl; have hcz10_3 : wr.cell? ⟨gb132, 3, none⟩ = some (.string ((rd_T53 l0 x8_1).f3)) := (zC BK132.out 3).trans rfl; have hcz10_4 : wr.cell? ⟨gb132, 4, none⟩ = some (.string ((rd_T53 l0 x8_1).f4)) := (zC BK132.out 4).trans rfl; have hcz10_5 : wr.cell? ⟨gb132, 5, none⟩ = some (.slice A131_5 ((rd_T53 l0 x8_1).f5).length c131_5) := (zC BK132.out 5).trans rfl; have hfz10_0 := zR BK132.out 0; have hfz10_1 := zR BK132.out 1; have hfz10_2 := zR BK132.out 2; have hfz10_3 := zR BK132.out 3; have hfz10_4 := zR BK132.out 4; have hfz10_5 := zR BK132.out 5; go_wp2; go_ret; exact ⟨by first | rfl | (simp [wN, wS] <;> rfl) | (simp [*, wN, wS] <;> rfl), by with_reducible repeat first | exact HB.out | apply zA | apply zN | apply zD | refine zS ?_ GE132.out⟩
          ·
           rw [if_neg c9] at H
           have c9b0 : ((x5_2 == 0) != (x8_1 == 0)) = false := by simpa using c9
           (try (have c9b8 : (x8_1 == 0) = false := by (have h_ := c9b0; rw [c7b0] at h_; revert h_; cases (x8_1 == 0) <;> decide)))
           (try (have c9b9 : (x8_1 == 0) = true := by (have h_ := c9b0; rw [c7b0] at h_; revert h_; cases (x8_1 == 0) <;> decide)))
           (try (have c9b1 : decide ((x5_2 == 0) = (x8_1 == 0)) = true := by simpa using c9))
           (try (have c9b2 : ((x5_2 == 0) == (x8_1 == 0)) = true := by simpa using c9))
           clear c9; have H' := zk H; clear H; have hcz11_0 : wr.cell? ⟨gb132, 0, none⟩ = some (.int .i64 ((rd_T53 l0 x8_1).f0)) := (zC BK132.out 0).trans rfl; have hcz11_1 : wr.cell? ⟨gb132, 1, none⟩ = some (.int .i64 ((rd_T53 l0 x8_1).f1)) := (zC BK132.out 1).trans rfl; have hcz11_2 : wr.cell? ⟨gb132, 2, none⟩ = some (.string ((rd_T53 l0 x8_1).f2)) := (zC BK132.out 2).trans rfl; have hcz11_3 : wr.cell? ⟨gb132, 3, none⟩ = some (.string ((rd_T53 l0 x8_1).f3)) := (zC BK132.out 3).trans rfl; have hcz11_4 : wr.cell? ⟨gb132, 4, none⟩ = some (.string ((rd_T53 l0 x8_1).f4)) := (zC BK132.out 4).trans rfl; have hcz11_5 : wr.cell? ⟨gb132, 5, none⟩ = some (.slice A131_5 ((rd_T53 l0 x8_1).f5).length c131_5) := (zC BK132.out 5).trans rfl; have hfz11_0 := zR BK132.out 0; have hfz11_1 := zR BK132.out 1; have hfz11_2 := zR BK132.out 2; have hfz11_3 := zR BK132.out 3; have hfz11_4 := zR BK132.out 4; have hfz11_5 := zR BK132.out 5; go_wp2
           go_roundg k2
           case measure => have := HK1.out; have := HK2.out; omega
           case rel => exact ⟨(wrap64 (x8_1 + 1)), (by first | rfl | (simp; done) | (simp [*]; done)), H', ⟨by have := HK1.out; have := HK2.out; omega⟩, ⟨by with_reducible repeat first | exact HB.out | apply zA | apply zN | apply zD | refine zS ?_ GE132.out⟩⟩
         ·
          rw [if_neg c8] at H; have c8b0 : (x5_2 == ((rd_T53 l0 x8_1).f1)) = false := beq_eq_false_iff_ne.mpr c8; have c8b1 : (x5_2 != ((rd_T53 l0 x8_1).f1)) = true := bne_iff_ne.mpr c8; obtain rfl := Option.some.inj H; have hcz12_0 : wr.cell? ⟨gb132, 0, none⟩ = some (.int .i64 ((rd_T53 l0 x8_1).f0)) := (zC BK132.out 0).trans rfl; have hcz12_1 : wr.cell? ⟨gb132, 1, none⟩ = some (.int .i64 ((rd_T53 l0 x8_1).f1)) := (zC BK132.out 1).trans rfl; have hcz12_2 : wr.cell? ⟨gb132, 2, none⟩ = some (.string ((rd_T53 l0 x8_1).f2)) := (zC BK132.out 2).trans rfl; have hcz12_3 : wr.cell? ⟨gb132, 3, none⟩ = some (.string ((rd_T53 l0 x8_1).f3)) := (zC BK132.out 3).trans rfl; have hcz12_4 : wr.cell? ⟨gb132, 4, none⟩ = some (.string ((rd_T53 l0 x8_1).f4)) := (zC BK132.out 4).trans rfl; have hcz12_5 : wr.cell? ⟨gb132, 5, none⟩ = some (.slice A131_5 ((rd_T53 l0 x8_1).f5).length c131_5) := (zC BK132.out 5).trans rfl; have hfz12_0 := zR BK132.out 0; have hfz12_1 := zR BK132.out 1; have hfz12_2 := zR BK132.out 2; have hfz12_3 := zR BK132.out 3; have hfz12_4 := zR BK132.out 4; have hfz12_5 := zR BK132.out 5; go_wp2; go_ret; exact ⟨by first | rfl | (simp [wN, wS] <;> rfl) | (simp [*, wN, wS] <;> rfl), by with_reducible repeat first | exact HB.out | apply zA | apply zN | apply zD | refine zS ?_ GE132.out⟩
        ·
         rw [if_neg c7] at H; have c7b0 : (x5_2 == 0) = false := beq_eq_false_iff_ne.mpr c7; have c7b1 : (x5_2 != 0) = true := bne_iff_ne.mpr c7
         by_cases c13 : x5_2 = ((rd_T53 l0 x8_1).f1)
         ·
          rw [if_pos c13] at H; have c13b0 : (x5_2 == ((rd_T53 l0 x8_1).f1)) = true := beq_iff_eq.mpr c13; have c13b1 : (x5_2 != ((rd_T53 l0 x8_1).f1)) = false := bne_eq_false_iff_eq.mpr c13; clear c13
          by_cases c14 : ((x5_2 == 0) != (x8_1 == 0)) = true
          ·
           rw [if_pos c14] at H; have c14b0 : ((x5_2 == 0) != (x8_1 == 0)) = true := c14
           (try (have c14b8 : (x8_1 == 0) = false := by (have h_ := c14b0; rw [c7b0] at h_; revert h_; cases (x8_1 == 0) <;> decide)))
           (try (have c14b9 : (x8_1 == 0) = true := by (have h_ := c14b0; rw [c7b0] at h_; revert h_; cases (x8_1 == 0) <;> decide)))
           (try (have c14b1 : decide ((x5_2 == 0) = (x8_1 == 0)) = false := by simpa using c14))
           (try (have c14b2 : ((x5_2 == 0) == (x8_1 == 0)) = false := by simpa using c14))
           (try (have c14b3 : ¬ ((x5_2 == 0) = (x8_1 == 0)) := by simpa using c14))
           clear c14; obtain rfl := Option.some.inj H; have hcz15_0 : wr.cell? ⟨gb132, 0, none⟩ = some (.int .i64 ((rd_T53 l0 x8_1).f0)) := (zC BK132.out 0).trans rfl; have hcz15_1 : wr.cell? ⟨gb132, 1, none⟩ = some (.int .i64 ((rd_T53 l0 x8_1).f1)) := (zC BK132.out 1).trans rfl; have hcz15_2 : wr.cell? ⟨gb132, 2, none⟩ = some (.string ((rd_T53 l0 x8_1).f2)) := (zC BK132.out 2).trans rfl; have hcz15_3 : wr.cell? ⟨gb132, 3, none⟩ = some (.string ((rd_T53 l0 x8_1).f3)) := (zC BK132.out 3).trans rfl; have hcz15_4 : wr.cell? ⟨gb132, 4, none⟩ = some (.string ((rd_T53 l0 x8_1).f4)) := (zC BK132.out 4).trans rfl; have hcz15_5 : wr.cell? ⟨gb132, 5, none⟩ = some (.slice A131_5 ((rd_T53 l0 x8_1).f5).length c131_5) := (zC BK132.out 5).trans rfl; have hfz15_0 := zR BK132.out 0; have hfz15_1 := zR BK132.out 1; have hfz15_2 := zR BK132.out 2; have hfz15_3 := zR BK132.out 3; have hfz15_4 := zR BK132.out 4; have hfz15_5 := zR BK132.out 5; go_wp2; go_ret; exact ⟨by first | rfl | (simp [wN, wS] <;> rfl) | (simp [*, wN, wS] <;> rfl), by with_reducible repeat first | exact HB.out | apply zA | apply zN | apply zD | refine zS ?_ GE132.out⟩
          ·
           rw [if_neg c14] at H
           have c14b0 : ((x5_2 == 0) != (x8_1 == 0)) = false := by simpa using c14
           (try (have c14b8 : (x8_1 == 0) = false := by (have h_ := c14b0; rw [c7b0] at h_; revert h_; cases (x8_1 == 0) <;> decide)))
           (try (have c14b9 : (x8_1 == 0) = true := by (have h_ := c14b0; rw [c7b0] at h_; revert h_; cases (x8_1 == 0) <;> decide)))
           (try (have c14b1 : decide ((x5_2 == 0) = (x8_1 == 0)) = true := by simpa using c14))
           (try (have c14b2 : ((x5_2 == 0) == (x8_1 == 0)) = true := by simpa using c14))
           clear c14; have H' := zk H; clear H; have hcz16_0 : wr.cell? ⟨gb132, 0, none⟩ = some (.int .i64 ((rd_T53 l0 x8_1).f0)) := (zC BK132.out 0).trans rfl; have hcz16_1 : wr.cell? ⟨gb132, 1, none⟩ = some (.int .i64 ((rd_T53 l0 x8_1).f1)) := (zC BK132.out 1).trans rfl; have hcz16_2 : wr.cell? ⟨gb132, 2, none⟩ = some (.string ((rd_T53 l0 x8_1).f2)) := (zC BK132.out 2).trans rfl; have hcz16_3 : wr.cell? ⟨gb132, 3, none⟩ = some (.string ((rd_T53 l0 x8_1).f3)) := (zC BK132.out 3).trans rfl; have hcz16_4 : wr.cell? ⟨gb132, 4, none⟩ = some (.string ((rd_T53 l0 x8_1).f4)) := (zC BK132.out 4).trans rfl; have hcz16_5 : wr.cell? ⟨gb132, 5, none⟩ = some (.slice A131_5 ((rd_T53 l0 x8_1).f5).length c131_5) := (zC BK132.out 5).trans rfl; have hfz16_0 := zR BK132.out 0; have hfz16_1 := zR BK132.out 1; have hfz16_2 := zR BK132.out 2; have hfz16_3 := zR BK132.out 3; have hfz16_4 := zR BK132.out 4; have hfz16_5 := zR BK132.out 5; go_wp2
           go_roundg k2
           case measure => have := HK1.out; have := HK2.out; omega
           case rel => exact ⟨(wrap64 (x8_1 + 1)), (by first | rfl | (simp; done) | (simp [*]; done)), H', ⟨by have := HK1.out; have := HK2.out; omega⟩, ⟨by with_reducible repeat first | exact HB.out | apply zA | apply zN | apply zD | refine zS ?_ GE132.out⟩⟩
         ·
          rw [if_neg c13] at H; have c13b0 : (x5_2 == ((rd_T53 l0 x8_1).f1)) = false := beq_eq_false_iff_ne.mpr c13; have c13b1 : (x5_2 != ((rd_T53 l0 x8_1).f1)) = true := bne_iff_ne.mpr c13; obtain ⟨ji17, hji17⟩ : ∃ j_ : Int, (wrap64 (x5_2 - 1)) = j_ := ⟨_, rfl⟩
          replace H : (if 0 ≤ (ji17) then (if (ji17) < (l0.length : Int) then (flat_formed.l1 k2 l0 x8_1 ((rd_T53 l0 (ji17)).f1) l0 (l0.length : Int) x8_1 ((rd_T53 l0 x8_1).f0) ((rd_T53 l0 x8_1).f1) ((rd_T53 l0 x8_1).f2) ((rd_T53 l0 x8_1).f3) ((rd_T53 l0 x8_1).f4) ((rd_T53 l0 x8_1).f5)) else (none)) else (none)) = some r := by first | (rw [hji17] at H; exact H) | (simp only [hji17] at H ⊢; exact H)
          have hji17w : (IntKind.i64.wrap (x5_2 - 1)) = ji17 := (i64_w _).trans hji17
          by_cases c18 : 0 ≤ (ji17)
          ·
           rw [if_pos c18] at H; have c18b0 : decide (0 ≤ (ji17)) = true := decide_eq_true c18; clear c18
           by_cases c19 : (ji17) < (l0.length : Int)
           ·
            rw [if_pos c19] at H; have c19b0 := decide_eq_true c19; clear c19; have H' := zk H; clear H; have hcz20_0 : wr.cell? ⟨gb132, 0, none⟩ = some (.int .i64 ((rd_T53 l0 x8_1).f0)) := (zC BK132.out 0).trans rfl; have hcz20_1 : wr.cell? ⟨gb132, 1, none⟩ = some (.int .i64 ((rd_T53 l0 x8_1).f1)) := (zC BK132.out 1).trans rfl; have hcz20_2 : wr.cell? ⟨gb132, 2, none⟩ = some (.string ((rd_T53 l0 x8_1).f2)) := (zC BK132.out 2).trans rfl; have hcz20_3 : wr.cell? ⟨gb132, 3, none⟩ = some (.string ((rd_T53 l0 x8_1).f3)) := (zC BK132.out 3).trans rfl; have hcz20_4 : wr.cell? ⟨gb132, 4, none⟩ = some (.string ((rd_T53 l0 x8_1).f4)) := (zC BK132.out 4).trans rfl; have hcz20_5 : wr.cell? ⟨gb132, 5, none⟩ = some (.slice A131_5 ((rd_T53 l0 x8_1).f5).length c131_5) := (zC BK132.out 5).trans rfl; have hfz20_0 := zR BK132.out 0; have hfz20_1 := zR BK132.out 1; have hfz20_2 := zR BK132.out 2; have hfz20_3 := zR BK132.out 3; have hfz20_4 := zR BK132.out 4; have hfz20_5 := zR BK132.out 5; have p133 : 0 ≤ ((ji17) : Int) := zo (by assumption); have q133 : (ji17) < (l0.length : Int) := zo (by assumption); obtain ⟨ad133, A133_5, c133_5, e133, hx133_0, hx133_1, hx133_2, hx133_3, hx133_4, hx133_5, hl133_5, hi133_5⟩ := at_T53 HR0.out (ji17) p133 q133; obtain rfl : ad131 = ad133 := (by injection e133); replace hx133_0 := zB HB hx133_0; replace hx133_1 := zB HB hx133_1; replace hx133_2 := zB HB hx133_2; replace hx133_3 := zB HB hx133_3; replace hx133_4 := zB HB hx133_4; replace hx133_5 := zB HB hx133_5; have HR133_5 := zk hi133_5; have HC133_5 := zk hl133_5; clear hi133_5 hl133_5; replace p133 := eq_true p133; replace q133 := eq_true q133; go_wp2
            go_roundg k2
            case measure => have := HK1.out; have := HK2.out; omega
            case rel => exact ⟨((rd_T53 l0 (ji17)).f1), (by first | rfl | (simp; done) | (simp only [← hji17] <;> (first | rfl | simp)) | (simp [*]; done)), H', ⟨by have := HK1.out; have := HK2.out; omega⟩, ⟨by (with_reducible repeat first | apply zM | apply zE | apply zF); exact BK132.out⟩, ⟨by with_reducible repeat first | exact HB.out | apply zA | apply zN | apply zD | refine zS ?_ GE132.out⟩⟩
           ·
            rw [if_neg c19] at H; exact absurd H (by simp)
          ·
           rw [if_neg c18] at H; exact absurd H (by simp)
     ·
      rw [if_neg c4] at H; exact absurd H (by simp)
    ·
     rw [if_neg c3] at H; exact absurd H (by simp)
   ·
    rw [if_neg c2] at H; have c2b0 := decide_eq_false c2; clear c2; obtain rfl := Option.some.inj H; go_wp2; go_ret; exact ⟨by first | rfl | (simp [wN, wS] <;> rfl) | (simp [*, wN, wS] <;> rfl), by with_reducible repeat first | exact HB.out | apply zA | apply zN | apply zD⟩
def flat_deep.l0 : Nat → List (S53) → List Int → List (S53) → Int → Int → Option (Bool)
 | 0, _, _, _, _, _ => none
 | k + 1, x0, x3, x10, x11, x12 => if x12 < x11 then (if 0 ≤ x12 then (if x12 < (x10.length : Int) then (if 0 ≤ ((rd_T53 x10 x12).f1) then (if ((rd_T53 x10 x12).f1) < (x3.length : Int) then (if 0 ≤ (wrap64 (x12 + 1)) then (if (wrap64 (x12 + 1)) < (x3.length : Int) then ((some (x3.set ((wrap64 (x12 + 1)) : Int).toNat (wrap64 ((rd x3 ((rd_T53 x10 x12).f1)) + 1)) : List Int)).bind fun y140 => (if (rd y140 (wrap64 (x12 + 1))) > 64 then (some true) else (flat_deep.l0 k x0 y140 x10 x11 (wrap64 (x12 + 1))))) else (none)) else (none)) else (none)) else (none)) else (none)) else (none)) else (some (decide ((x0.length : Int) > 4096)))
def flat_deep.f (k : Nat) (l0 : List (S53)) : Option (Bool) := if 0 ≤ (wrap64 ((l0.length : Int) + 1)) then (if (wrap64 ((l0.length : Int) + 1) : Int).toNat ≤ 35184372088832 then (flat_deep.l0 k l0 (List.replicate (wrap64 ((l0.length : Int) + 1) : Int).toNat 0) l0 (l0.length : Int) 0) else (none)) else (none)
theorem flat_deep.mono_l : ∀ k, (∀ y0 y1 y2 y3 y4, LeO (flat_deep.l0 k y0 y1 y2 y3 y4) (flat_deep.l0 (k + 1) y0 y1 y2 y3 y4))
 | 0 => fun _ _ _ _ _ r h => by simp [flat_deep.l0] at h
 | k + 1 => by
  have ih0 := flat_deep.mono_l k
  ·
   intro y0 y1 y2 y3 y4
   unfold flat_deep.l0
   with_reducible repeat' first | exact ih0 _ _ _ _ _ | exact LeO.refl _ | exact LeO.none _ | refine LeO.ite ?_ ?_ | refine LeO.bind ?_ (fun _ => ?_)
theorem flat_deep.mono : ∀ a0 k, LeO (flat_deep.f k a0) (flat_deep.f (k + 1) a0) := by
 intro a0 k
 have ih0 := flat_deep.mono_l k
 unfold flat_deep.f
 with_reducible repeat' first | exact ih0 _ _ _ _ _ | exact LeO.refl _ | exact LeO.none _ | refine LeO.ite ?_ ?_ | refine LeO.bind ?_ (fun _ => ?_)
set_option maxHeartbeats 8000000 in
set_option maxRecDepth 100000 in
theorem flat_deep.calls (k : Nat) (A0 : Option Addr) (c0 : Nat) (l0 : List (S53)) (r : Bool) (w : World) (hr0 : Kd.C k53 w A0 l0.length l0) (hc0 : l0.length ≤ c0) (h : flat_deep.f k l0 = some r) :
  Calls Try.prog 34 #[.slice A0 l0.length c0] w fun e w' => e = .returned (.bool r) ∧ Below w.heap.size w w' := by
 have hu53 := Try.underlying53
 have HR0 := zk hr0
 have HC0 := zk hc0
 clear hr0 hc0
 have HB := zk (Below.refl w.heap.size w)
 have H : (if 0 ≤ (wrap64 ((l0.length : Int) + 1)) then (if (wrap64 ((l0.length : Int) + 1) : Int).toNat ≤ 35184372088832 then (flat_deep.l0 k l0 (List.replicate (wrap64 ((l0.length : Int) + 1) : Int).toNat 0) l0 (l0.length : Int) 0) else (none)) else (none)) = some r := h
 clear h
 obtain ⟨ji2, hji2⟩ : ∃ j_ : Int, (wrap64 ((l0.length : Int) + 1)) = j_ := ⟨_, rfl⟩
 replace H : (if 0 ≤ (ji2) then (if (ji2 : Int).toNat ≤ 35184372088832 then (flat_deep.l0 k l0 (List.replicate (ji2 : Int).toNat 0) l0 (l0.length : Int) 0) else (none)) else (none)) = some r := by first | (rw [hji2] at H; exact H) | (simp only [hji2] at H ⊢; exact H)
 have hji2w : (IntKind.i64.wrap ((l0.length : Int) + 1)) = ji2 := (i64_w _).trans hji2
 by_cases c3 : 0 ≤ (ji2)
 ·
  rw [if_pos c3] at H; have c3b0 := eq_true c3; have c3b1 : decide (0 ≤ (ji2)) = true := decide_eq_true c3; clear c3
  by_cases c4 : (ji2 : Int).toNat ≤ 35184372088832
  ·
   rw [if_pos c4] at H; have c4b0 := eq_true c4; have c4b1 : decide ((ji2 : Int).toNat ≤ 35184372088832) = true := decide_eq_true c4; clear c4; obtain ⟨y134, hy134⟩ : ∃ y_ : List Int, y_ = (List.replicate (ji2 : Int).toNat 0) := ⟨_, rfl⟩
   replace H : (flat_deep.l0 k l0 y134 l0 (l0.length : Int) 0) = some r := by first | (rw [hy134]; with_reducible exact H) | (have H2_ := (Option.bind_some _ _).symm.trans H; rw [hy134]; with_reducible exact H2_) | (have H2_ := (Option.bind_some _ _).symm.trans H; with_reducible exact H2_) | with_reducible exact H | (rw [hy134]; exact H) | exact H
   have Ny134 := zk hy134; clear hy134; have H' := zk H; clear H
   go_enter Try.func34, Try.ntmps34
   go_wp2_with (first | ((with_reducible refine gd (N := 9) rfl ?_); refine Kd.R_make (Kd.int .i64) _ 3 rfl (N := 9) rfl 43 _ _ rfl ji2 rfl rfl Try.underlying43 (.int .i64 0) 8 info3 rfl (by decide) (by omega) 0 (ok := fun _ => True) (okp := fun _ => True) rfl (fun _ hk => hk) trivial (zo (by assumption)) (Nat.le_trans (Nat.mul_le_mul_right _ (zo (by assumption) : ji2.toNat ≤ 35184372088832)) (by omega)) (Below.refl _ _) (Nat.le_refl _) ?_; intro v135 w5 ho6 hb hg_ hnew_; clear hg_ hnew_; (first | rw [← Ny134.out] at ho6 | (simp only [Int.reduceToNat] at ho6; rw [← Ny134.out] at ho6)); have n0_ := zk (Kd.R_lower ho6 (zq (by with_reducible repeat first | exact HB.out | apply zA | apply zN | apply zD))); have n1_ := zk (zs (by with_reducible repeat first | exact HB.out | apply zA | apply zN | apply zD) hb); clear HB; have HO136 := n0_; have HB := n1_; clear n0_ n1_; clear hb ho6))
   go_loopg [12] k (fun kq v12 w' => ∃ (x3_1 : List Int) (x12_1 : Int), v12 = .int .i64 x12_1 ∧ Aside0 (flat_deep.l0 kq l0 x3_1 l0 (l0.length : Int) x12_1 = some r) ∧ Aside0 (kq ≤ k) ∧ Aside0 (Kd.R (Kd.int .i64) 3 w' w.heap.size (fun _ => True) v135 x3_1) ∧ Aside0 (Below w.heap.size w w'))
   case atStart => exact ⟨(y134), (0), (by first | rfl | (simp; done) | (simp [*]; done)), H', ⟨Nat.le_refl _⟩, ⟨by (with_reducible repeat (first | apply Kd.R_alloc | apply Kd.R_drewN | apply Kd.R_drew)); exact HO136.out⟩, ⟨by with_reducible repeat first | exact HB.out | apply zA | apply zN | apply zD⟩⟩
   case round =>
    clear H'; (try clear p2); (try clear c3); (try clear c3b0); (try clear c3b1); (try clear c4); (try clear c4b0); (try clear c4b1); (try clear p6); obtain ⟨x3_1, x12_1, rfl, HA, HK1, HO_3, HB⟩ := hrel
    cases gk with
    | zero => exact absurd HA.out (by simp [flat_deep.l0])
    | succ k1 =>
     have H := HA.out; clear HA; simp only [flat_deep.l0] at H
     by_cases c7 : x12_1 < (l0.length : Int)
     ·
      rw [if_pos c7] at H; have c7b0 : decide (x12_1 < (l0.length : Int)) = true := decide_eq_true c7; clear c7
      by_cases c8 : 0 ≤ x12_1
      ·
       rw [if_pos c8] at H; have c8b0 : decide (0 ≤ x12_1) = true := decide_eq_true c8; clear c8
       by_cases c9 : x12_1 < (l0.length : Int)
       ·
        rw [if_pos c9] at H; have c9b0 : decide (x12_1 < (l0.length : Int)) = true := decide_eq_true c9; clear c9
        by_cases c10 : 0 ≤ ((rd_T53 l0 x12_1).f1)
        ·
         rw [if_pos c10] at H; have c10b0 := decide_eq_true c10; clear c10
         by_cases c11 : ((rd_T53 l0 x12_1).f1) < (x3_1.length : Int)
         ·
          rw [if_pos c11] at H; have c11b0 := decide_eq_true c11; clear c11; obtain ⟨ji12, hji12⟩ : ∃ j_ : Int, (wrap64 (x12_1 + 1)) = j_ := ⟨_, rfl⟩
          replace H : (if 0 ≤ (ji12) then (if (ji12) < (x3_1.length : Int) then ((some (x3_1.set ((ji12) : Int).toNat (wrap64 ((rd x3_1 ((rd_T53 l0 x12_1).f1)) + 1)) : List Int)).bind fun y140 => (if (rd y140 (ji12)) > 64 then (some true) else (flat_deep.l0 k1 l0 y140 l0 (l0.length : Int) ji12))) else (none)) else (none)) = some r := by first | (rw [hji12] at H; exact H) | (simp only [hji12] at H ⊢; exact H)
          have hji12w : (IntKind.i64.wrap (x12_1 + 1)) = ji12 := (i64_w _).trans hji12
          by_cases c13 : 0 ≤ (ji12)
          ·
           rw [if_pos c13] at H; have c13b0 : decide (0 ≤ (ji12)) = true := decide_eq_true c13; clear c13
           by_cases c14 : (ji12) < (x3_1.length : Int)
           ·
            rw [if_pos c14] at H; have c14b0 : decide ((ji12) < (x3_1.length : Int)) = true := decide_eq_true c14; clear c14; obtain ⟨y140, hy140⟩ : ∃ y_ : List Int, y_ = (x3_1.set ((ji12) : Int).toNat (wrap64 ((rd x3_1 ((rd_T53 l0 x12_1).f1)) + 1))) := ⟨_, rfl⟩
            replace H : (if (rd y140 (ji12)) > 64 then (some true) else (flat_deep.l0 k1 l0 y140 l0 (l0.length : Int) ji12)) = some r := by first | (rw [hy140]; with_reducible exact H) | (have H2_ := (Option.bind_some _ _).symm.trans H; rw [hy140]; with_reducible exact H2_) | (have H2_ := (Option.bind_some _ _).symm.trans H; with_reducible exact H2_) | with_reducible exact H | (rw [hy140]; exact H) | exact H
            have Ny140 := zk hy140; clear hy140
            by_cases c16 : (rd y140 (ji12)) > 64
            ·
             rw [if_pos c16] at H; have c16b0 : decide (64 < (rd y140 (ji12))) = true := decide_eq_true c16; clear c16; obtain rfl := Option.some.inj H; have p137 : 0 ≤ (x12_1 : Int) := zo (by assumption); have q137 : x12_1 < (l0.length : Int) := zo (by assumption); obtain ⟨ad137, A137_5, c137_5, e137, hx137_0, hx137_1, hx137_2, hx137_3, hx137_4, hx137_5, hl137_5, hi137_5⟩ := at_T53 HR0.out x12_1 p137 q137; cases e137; replace hx137_0 := zB HB hx137_0; replace hx137_1 := zB HB hx137_1; replace hx137_2 := zB HB hx137_2; replace hx137_3 := zB HB hx137_3; replace hx137_4 := zB HB hx137_4; replace hx137_5 := zB HB hx137_5; have HR137_5 := zk hi137_5; have HC137_5 := zk hl137_5; clear hi137_5 hl137_5; replace p137 := eq_true p137; replace q137 := eq_true q137
             go_wp2_with (first | ((with_reducible refine gd (N := 5) rfl ?_); refine zb ?hg (N := 5) ?hd (cs := #[.int .i64 0, .int .i64 0, .string ⟨#[]⟩, .string ⟨#[]⟩, .string ⟨#[]⟩, .slice none 0 0]) (t := 53) ?hr ?_; (case hd => rfl); (case hg => rfl); (case hr => go_simp; first | done | rfl); intro gb138 hg w17 hbox hb; have n0_ := zk (Kd.R_below (by (with_reducible repeat (first | apply Kd.R_alloc | apply Kd.R_drewN | apply Kd.R_drew)); exact HO_3.out) hb); have n1_ := zk (zs (by with_reducible repeat first | exact HB.out | apply zA | apply zN | apply zD) hb); have n2_ := zk (hbox); have n3_ := zk ((by rw [hg]; exact (zq (by with_reducible repeat first | exact HB.out | apply zA | apply zN | apply zD)) : w.heap.size ≤ gb138)); have n4_ := n3_; clear HO_3; clear HB; have HO_3 := n0_; have HB := n1_; have BK138 := n2_; have GW138 := n3_; have GE138 := n4_; clear n0_ n1_ n2_ n3_ n4_; clear hb hbox hg; obtain ⟨hcz18_0, hcz18_1, hcz18_2, hcz18_3, hcz18_4, hcz18_5, hfz18_0, hfz18_1, hfz18_2, hfz18_3, hfz18_4, hfz18_5⟩ := zc6 BK138.out) | ((with_reducible refine gw (t := 53) (p := 5) rfl ?_); refine store_event (t := 53) (p := 5) (v := ?vo_w19) (w1 := ((((((w17.setCell ⟨gb138, 0, none⟩ (.int .i64 ((rd_T53 l0 x12_1).f0))).setCell ⟨gb138, 1, none⟩ (.int .i64 ((rd_T53 l0 x12_1).f1))).setCell ⟨gb138, 2, none⟩ (.string ((rd_T53 l0 x12_1).f2))).setCell ⟨gb138, 3, none⟩ (.string ((rd_T53 l0 x12_1).f3))).setCell ⟨gb138, 4, none⟩ (.string ((rd_T53 l0 x12_1).f4))).setCell ⟨gb138, 5, none⟩ (.slice A137_5 ((rd_T53 l0 x12_1).f5).length c137_5))) ?hg ?ho ?hn ?hr ?_; (case ho => rfl); (case hg => rfl); (case hn => rfl); (case hr => go_simp; first | done | rfl); intro w19 hw; have n0_ : Aside0 (Kd.R (Kd.int .i64) 3 w19 w.heap.size (fun _ => True) v135 x3_1) := ⟨(by rw [hw]; exact (by (with_reducible repeat (first | apply Kd.R_alloc | apply Kd.R_drewN | apply Kd.R_drew)); exact Kd.R_mono (Kd.R_far (p := ⟨gb138, 5, none⟩) (Kd.R_far (p := ⟨gb138, 4, none⟩) (Kd.R_far (p := ⟨gb138, 3, none⟩) (Kd.R_far (p := ⟨gb138, 2, none⟩) (Kd.R_far (p := ⟨gb138, 1, none⟩) (Kd.R_far (p := ⟨gb138, 0, none⟩) (Kd.R_types HO_3.out BK138.out (by decide)) (fun _ hk => hk.2) (.int .i64 ((rd_T53 l0 x12_1).f0))) (fun _ hk => hk.2) (.int .i64 ((rd_T53 l0 x12_1).f1))) (fun _ hk => hk.2) (.string ((rd_T53 l0 x12_1).f2))) (fun _ hk => hk.2) (.string ((rd_T53 l0 x12_1).f3))) (fun _ hk => hk.2) (.string ((rd_T53 l0 x12_1).f4))) (fun _ hk => hk.2) (.slice A137_5 ((rd_T53 l0 x12_1).f5).length c137_5)) (fun _ hk => trivial)))⟩; have n1_ : Aside0 (w19.heap[gb138]? = some (.cells #[.int .i64 ((rd_T53 l0 x12_1).f0), .int .i64 ((rd_T53 l0 x12_1).f1), .string ((rd_T53 l0 x12_1).f2), .string ((rd_T53 l0 x12_1).f3), .string ((rd_T53 l0 x12_1).f4), .slice A137_5 ((rd_T53 l0 x12_1).f5).length c137_5] 53 (0, 0))) := ⟨(by rw [hw]; exact (by (with_reducible repeat first | apply zM | apply zE | apply zF); refine zP (cs := #[.int .i64 ((rd_T53 l0 x12_1).f0), .int .i64 ((rd_T53 l0 x12_1).f1), .string ((rd_T53 l0 x12_1).f2), .string ((rd_T53 l0 x12_1).f3), .string ((rd_T53 l0 x12_1).f4), .slice none 0 0]) ?_ 5 _ rfl; (with_reducible repeat first | apply zM | apply zE | apply zF); refine zP (cs := #[.int .i64 ((rd_T53 l0 x12_1).f0), .int .i64 ((rd_T53 l0 x12_1).f1), .string ((rd_T53 l0 x12_1).f2), .string ((rd_T53 l0 x12_1).f3), .string ⟨#[]⟩, .slice none 0 0]) ?_ 4 _ rfl; (with_reducible repeat first | apply zM | apply zE | apply zF); refine zP (cs := #[.int .i64 ((rd_T53 l0 x12_1).f0), .int .i64 ((rd_T53 l0 x12_1).f1), .string ((rd_T53 l0 x12_1).f2), .string ⟨#[]⟩, .string ⟨#[]⟩, .slice none 0 0]) ?_ 3 _ rfl; (with_reducible repeat first | apply zM | apply zE | apply zF); refine zP (cs := #[.int .i64 ((rd_T53 l0 x12_1).f0), .int .i64 ((rd_T53 l0 x12_1).f1), .string ⟨#[]⟩, .string ⟨#[]⟩, .string ⟨#[]⟩, .slice none 0 0]) ?_ 2 _ rfl; (with_reducible repeat first | apply zM | apply zE | apply zF); refine zP (cs := #[.int .i64 ((rd_T53 l0 x12_1).f0), .int .i64 0, .string ⟨#[]⟩, .string ⟨#[]⟩, .string ⟨#[]⟩, .slice none 0 0]) ?_ 1 _ rfl; (with_reducible repeat first | apply zM | apply zE | apply zF); refine zP (cs := #[.int .i64 0, .int .i64 0, .string ⟨#[]⟩, .string ⟨#[]⟩, .string ⟨#[]⟩, .slice none 0 0]) ?_ 0 _ rfl; (with_reducible repeat first | apply zM | apply zE | apply zF); exact BK138.out))⟩; have n2_ : Aside0 (Below w.heap.size w w19) := ⟨(by rw [hw]; exact (by with_reducible repeat first | exact HB.out | apply zA | apply zN | apply zD | refine zS ?_ GE138.out))⟩; clear hw; clear HO_3; clear BK138; clear HB; have HO_3 := n0_; have BK138 := n1_; have HB := n2_; clear n0_ n1_ n2_; obtain ⟨hcz20_0, hcz20_1, hcz20_2, hcz20_3, hcz20_4, hcz20_5, hfz20_0, hfz20_1, hfz20_2, hfz20_3, hfz20_4, hfz20_5⟩ := zc6 BK138.out; obtain ⟨Ao21, co21, eo21⟩ := Kd.R_slice HO_3.out; subst eo21; have p139 : 0 ≤ (((rd_T53 l0 x12_1).f1) : Int) := zo (by assumption); have q139 : ((rd_T53 l0 x12_1).f1) < (x3_1.length : Int) := zo (by assumption); obtain ⟨ad139, e139, hx139_0⟩ := Kd.at_int (Kd.R_reads' HO_3.out).2.2 ((rd_T53 l0 x12_1).f1) p139 q139; cases e139; replace p139 := eq_true p139; replace q139 := eq_true q139; have p15 : 0 ≤ ((ji12) : Int) := zo (by assumption); have q15 : ((ji12) : Int) < ((x3_1.length : Int) : Int) := zo (by assumption); obtain ⟨go15, co15, eo15, gb15, gl15, cl15, HG15⟩ := Kd.R_form HO_3.out (by omega); (first | cases eo15 | (injection eo15 with ea_ en_ ec_; (first | subst ea_ | (injection ea_ with ea_; subst ea_)); subst ec_; clear en_)); have GB15 := zk gb15; have GG15 := zk HG15; clear gb15 gl15 HG15; (first | simp only [add_plain] at hx139_0 | skip); obtain ⟨hx15_0, hf15_0⟩ := Kd.R_celln 0 HO_3.out ((ji12) : Int) p15 q15; replace p15 := eq_true p15; replace q15 := eq_true q15; obtain ⟨hy22_, hz22_⟩ := Kd.R_celln 0 HO_3.out ((ji12) : Int) (zo (by assumption)) (zo (by assumption)); have HP22 := Kd.R_putg HO_3.out ((ji12) : Int) (wrap64 ((rd x3_1 ((rd_T53 l0 x12_1).f1)) + 1))) | ((with_reducible refine gw (t := 3) (p := 26) rfl ?_); refine store_event (t := 3) (p := 26) (v := ?vo_w23) (w1 := (w19.setCell ⟨go15, ((ji12) : Int).toNat, none⟩ (.int .i64 (wrap64 ((rd x3_1 ((rd_T53 l0 x12_1).f1)) + 1))))) ?hg ?ho ?hn ?hr ?_; (case ho => rfl); (case hg => rfl); (case hn => rfl); (case hr => go_simp; first | done | rfl); intro w23 hw; have hg : w19.grownBy w23 (some go15) := (by rw [hw]; exact HP22.2); have hp_ : Kd.R (Kd.int .i64) 3 w23 w.heap.size (fun _ => True) (.slice (some ⟨go15, 0, none⟩) x3_1.length co21) y140 := (by rw [hw, Ny140.out]; exact HP22.1); clear HP22; have n0_ := zk (hp_); have n1_ := zk (blk_grown (g := gb138) (o := .cells #[.int .i64 ((rd_T53 l0 x12_1).f0), .int .i64 ((rd_T53 l0 x12_1).f1), .string ((rd_T53 l0 x12_1).f2), .string ((rd_T53 l0 x12_1).f3), .string ((rd_T53 l0 x12_1).f4), .slice A137_5 ((rd_T53 l0 x12_1).f5).length c137_5] 53 (0, 0)) (by (with_reducible repeat first | apply zM | apply zE | apply zF); exact BK138.out) hg (Kd.R_ne HO_3.out BK138.out (by decide))); have n2_ := zk ((by rw [hw]; exact zS (HB.out) GB15.out : Below w.heap.size w w23)); clear HO_3; clear BK138; clear HB; have HO_3 := n0_; have BK138 := n1_; have HB := n2_; clear n0_ n1_ n2_; clear hg hw hp_; have p141 : 0 ≤ ((ji12) : Int) := zo (by assumption); have q141 : (ji12) < (y140.length : Int) := (by have h_ : ((ji12) : Int) < ((x3_1.length : Int) : Int) := zo (by assumption); first | (have e_ := (Kd.R_reads' HO_3.out).1; omega) | simpa only [Ny140.out, List.length_set] using h_); have ql141 : (((ji12) : Int) < ((x3_1.length : Int) : Int)) = True := eq_true (zo (by assumption)); obtain ⟨ad141, e141, hx141_0⟩ := Kd.at_int (Kd.R_reads' HO_3.out).2.2 (ji12) p141 q141; obtain rfl : (⟨go15, 0, none⟩ : Addr) = ad141 := (by injection e141); (first | simp only [add_plain] at hx141_0 | simp only [add_at] at hx141_0 | simp only [Addr.add, Nat.zero_add] at hx141_0 | skip); replace p141 := eq_true p141; replace q141 := eq_true q141))
             go_ret; exact ⟨by first | rfl | (simp [wN, wS] <;> rfl) | (simp only [← hji2, ← hji12]; first | rfl | (simp [wN, wS] <;> rfl)) | (simp [*, wN, wS] <;> rfl), by with_reducible repeat first | exact HB.out | apply zA | apply zN | apply zD | refine zS ?_ GE138.out⟩
            ·
             rw [if_neg c16] at H; have c16b0 : decide (64 < (rd y140 (ji12))) = false := decide_eq_false c16; clear c16; have H' := zk H; clear H; have p137 : 0 ≤ (x12_1 : Int) := zo (by assumption); have q137 : x12_1 < (l0.length : Int) := zo (by assumption); obtain ⟨ad137, A137_5, c137_5, e137, hx137_0, hx137_1, hx137_2, hx137_3, hx137_4, hx137_5, hl137_5, hi137_5⟩ := at_T53 HR0.out x12_1 p137 q137; cases e137; replace hx137_0 := zB HB hx137_0; replace hx137_1 := zB HB hx137_1; replace hx137_2 := zB HB hx137_2; replace hx137_3 := zB HB hx137_3; replace hx137_4 := zB HB hx137_4; replace hx137_5 := zB HB hx137_5; have HR137_5 := zk hi137_5; have HC137_5 := zk hl137_5; clear hi137_5 hl137_5; replace p137 := eq_true p137; replace q137 := eq_true q137
             go_wp2_with (first | ((with_reducible refine gd (N := 5) rfl ?_); refine zb ?hg (N := 5) ?hd (cs := #[.int .i64 0, .int .i64 0, .string ⟨#[]⟩, .string ⟨#[]⟩, .string ⟨#[]⟩, .slice none 0 0]) (t := 53) ?hr ?_; (case hd => rfl); (case hg => rfl); (case hr => go_simp; first | done | rfl); intro gb138 hg w24 hbox hb; have n0_ := zk (Kd.R_below (by (with_reducible repeat (first | apply Kd.R_alloc | apply Kd.R_drewN | apply Kd.R_drew)); exact HO_3.out) hb); have n1_ := zk (zs (by with_reducible repeat first | exact HB.out | apply zA | apply zN | apply zD) hb); have n2_ := zk (hbox); have n3_ := zk ((by rw [hg]; exact (zq (by with_reducible repeat first | exact HB.out | apply zA | apply zN | apply zD)) : w.heap.size ≤ gb138)); have n4_ := n3_; clear HO_3; clear HB; have HO_3 := n0_; have HB := n1_; have BK138 := n2_; have GW138 := n3_; have GE138 := n4_; clear n0_ n1_ n2_ n3_ n4_; clear hb hbox hg; obtain ⟨hcz25_0, hcz25_1, hcz25_2, hcz25_3, hcz25_4, hcz25_5, hfz25_0, hfz25_1, hfz25_2, hfz25_3, hfz25_4, hfz25_5⟩ := zc6 BK138.out) | ((with_reducible refine gw (t := 53) (p := 5) rfl ?_); refine store_event (t := 53) (p := 5) (v := ?vo_w26) (w1 := ((((((w24.setCell ⟨gb138, 0, none⟩ (.int .i64 ((rd_T53 l0 x12_1).f0))).setCell ⟨gb138, 1, none⟩ (.int .i64 ((rd_T53 l0 x12_1).f1))).setCell ⟨gb138, 2, none⟩ (.string ((rd_T53 l0 x12_1).f2))).setCell ⟨gb138, 3, none⟩ (.string ((rd_T53 l0 x12_1).f3))).setCell ⟨gb138, 4, none⟩ (.string ((rd_T53 l0 x12_1).f4))).setCell ⟨gb138, 5, none⟩ (.slice A137_5 ((rd_T53 l0 x12_1).f5).length c137_5))) ?hg ?ho ?hn ?hr ?_; (case ho => rfl); (case hg => rfl); (case hn => rfl); (case hr => go_simp; first | done | rfl); intro w26 hw; have n0_ : Aside0 (Kd.R (Kd.int .i64) 3 w26 w.heap.size (fun _ => True) v135 x3_1) := ⟨(by rw [hw]; exact (by (with_reducible repeat (first | apply Kd.R_alloc | apply Kd.R_drewN | apply Kd.R_drew)); exact Kd.R_mono (Kd.R_far (p := ⟨gb138, 5, none⟩) (Kd.R_far (p := ⟨gb138, 4, none⟩) (Kd.R_far (p := ⟨gb138, 3, none⟩) (Kd.R_far (p := ⟨gb138, 2, none⟩) (Kd.R_far (p := ⟨gb138, 1, none⟩) (Kd.R_far (p := ⟨gb138, 0, none⟩) (Kd.R_types HO_3.out BK138.out (by decide)) (fun _ hk => hk.2) (.int .i64 ((rd_T53 l0 x12_1).f0))) (fun _ hk => hk.2) (.int .i64 ((rd_T53 l0 x12_1).f1))) (fun _ hk => hk.2) (.string ((rd_T53 l0 x12_1).f2))) (fun _ hk => hk.2) (.string ((rd_T53 l0 x12_1).f3))) (fun _ hk => hk.2) (.string ((rd_T53 l0 x12_1).f4))) (fun _ hk => hk.2) (.slice A137_5 ((rd_T53 l0 x12_1).f5).length c137_5)) (fun _ hk => trivial)))⟩; have n1_ : Aside0 (w26.heap[gb138]? = some (.cells #[.int .i64 ((rd_T53 l0 x12_1).f0), .int .i64 ((rd_T53 l0 x12_1).f1), .string ((rd_T53 l0 x12_1).f2), .string ((rd_T53 l0 x12_1).f3), .string ((rd_T53 l0 x12_1).f4), .slice A137_5 ((rd_T53 l0 x12_1).f5).length c137_5] 53 (0, 0))) := ⟨(by rw [hw]; exact (by (with_reducible repeat first | apply zM | apply zE | apply zF); refine zP (cs := #[.int .i64 ((rd_T53 l0 x12_1).f0), .int .i64 ((rd_T53 l0 x12_1).f1), .string ((rd_T53 l0 x12_1).f2), .string ((rd_T53 l0 x12_1).f3), .string ((rd_T53 l0 x12_1).f4), .slice none 0 0]) ?_ 5 _ rfl; (with_reducible repeat first | apply zM | apply zE | apply zF); refine zP (cs := #[.int .i64 ((rd_T53 l0 x12_1).f0), .int .i64 ((rd_T53 l0 x12_1).f1), .string ((rd_T53 l0 x12_1).f2), .string ((rd_T53 l0 x12_1).f3), .string ⟨#[]⟩, .slice none 0 0]) ?_ 4 _ rfl; (with_reducible repeat first | apply zM | apply zE | apply zF); refine zP (cs := #[.int .i64 ((rd_T53 l0 x12_1).f0), .int .i64 ((rd_T53 l0 x12_1).f1), .string ((rd_T53 l0 x12_1).f2), .string ⟨#[]⟩, .string ⟨#[]⟩, .slice none 0 0]) ?_ 3 _ rfl; (with_reducible repeat first | apply zM | apply zE | apply zF); refine zP (cs := #[.int .i64 ((rd_T53 l0 x12_1).f0), .int .i64 ((rd_T53 l0 x12_1).f1), .string ⟨#[]⟩, .string ⟨#[]⟩, .string ⟨#[]⟩, .slice none 0 0]) ?_ 2 _ rfl; (with_reducible repeat first | apply zM | apply zE | apply zF); refine zP (cs := #[.int .i64 ((rd_T53 l0 x12_1).f0), .int .i64 0, .string ⟨#[]⟩, .string ⟨#[]⟩, .string ⟨#[]⟩, .slice none 0 0]) ?_ 1 _ rfl; (with_reducible repeat first | apply zM | apply zE | apply zF); refine zP (cs := #[.int .i64 0, .int .i64 0, .string ⟨#[]⟩, .string ⟨#[]⟩, .string ⟨#[]⟩, .slice none 0 0]) ?_ 0 _ rfl; (with_reducible repeat first | apply zM | apply zE | apply zF); exact BK138.out))⟩; have n2_ : Aside0 (Below w.heap.size w w26) := ⟨(by rw [hw]; exact (by with_reducible repeat first | exact HB.out | apply zA | apply zN | apply zD | refine zS ?_ GE138.out))⟩; clear hw; clear HO_3; clear BK138; clear HB; have HO_3 := n0_; have BK138 := n1_; have HB := n2_; clear n0_ n1_ n2_; obtain ⟨hcz27_0, hcz27_1, hcz27_2, hcz27_3, hcz27_4, hcz27_5, hfz27_0, hfz27_1, hfz27_2, hfz27_3, hfz27_4, hfz27_5⟩ := zc6 BK138.out; obtain ⟨Ao28, co28, eo28⟩ := Kd.R_slice HO_3.out; subst eo28; have p139 : 0 ≤ (((rd_T53 l0 x12_1).f1) : Int) := zo (by assumption); have q139 : ((rd_T53 l0 x12_1).f1) < (x3_1.length : Int) := zo (by assumption); obtain ⟨ad139, e139, hx139_0⟩ := Kd.at_int (Kd.R_reads' HO_3.out).2.2 ((rd_T53 l0 x12_1).f1) p139 q139; cases e139; replace p139 := eq_true p139; replace q139 := eq_true q139; have p15 : 0 ≤ ((ji12) : Int) := zo (by assumption); have q15 : ((ji12) : Int) < ((x3_1.length : Int) : Int) := zo (by assumption); obtain ⟨go15, co15, eo15, gb15, gl15, cl15, HG15⟩ := Kd.R_form HO_3.out (by omega); (first | cases eo15 | (injection eo15 with ea_ en_ ec_; (first | subst ea_ | (injection ea_ with ea_; subst ea_)); subst ec_; clear en_)); have GB15 := zk gb15; have GG15 := zk HG15; clear gb15 gl15 HG15; (first | simp only [add_plain] at hx139_0 | skip); obtain ⟨hx15_0, hf15_0⟩ := Kd.R_celln 0 HO_3.out ((ji12) : Int) p15 q15; replace p15 := eq_true p15; replace q15 := eq_true q15; obtain ⟨hy29_, hz29_⟩ := Kd.R_celln 0 HO_3.out ((ji12) : Int) (zo (by assumption)) (zo (by assumption)); have HP29 := Kd.R_putg HO_3.out ((ji12) : Int) (wrap64 ((rd x3_1 ((rd_T53 l0 x12_1).f1)) + 1))) | ((with_reducible refine gw (t := 3) (p := 26) rfl ?_); refine store_event (t := 3) (p := 26) (v := ?vo_w30) (w1 := (w26.setCell ⟨go15, ((ji12) : Int).toNat, none⟩ (.int .i64 (wrap64 ((rd x3_1 ((rd_T53 l0 x12_1).f1)) + 1))))) ?hg ?ho ?hn ?hr ?_; (case ho => rfl); (case hg => rfl); (case hn => rfl); (case hr => go_simp; first | done | rfl); intro w30 hw; have hg : w26.grownBy w30 (some go15) := (by rw [hw]; exact HP29.2); have hp_ : Kd.R (Kd.int .i64) 3 w30 w.heap.size (fun _ => True) (.slice (some ⟨go15, 0, none⟩) x3_1.length co28) y140 := (by rw [hw, Ny140.out]; exact HP29.1); clear HP29; have n0_ := zk (hp_); have n1_ := zk (blk_grown (g := gb138) (o := .cells #[.int .i64 ((rd_T53 l0 x12_1).f0), .int .i64 ((rd_T53 l0 x12_1).f1), .string ((rd_T53 l0 x12_1).f2), .string ((rd_T53 l0 x12_1).f3), .string ((rd_T53 l0 x12_1).f4), .slice A137_5 ((rd_T53 l0 x12_1).f5).length c137_5] 53 (0, 0)) (by (with_reducible repeat first | apply zM | apply zE | apply zF); exact BK138.out) hg (Kd.R_ne HO_3.out BK138.out (by decide))); have n2_ := zk ((by rw [hw]; exact zS (HB.out) GB15.out : Below w.heap.size w w30)); clear HO_3; clear BK138; clear HB; have HO_3 := n0_; have BK138 := n1_; have HB := n2_; clear n0_ n1_ n2_; clear hg hw hp_; have p141 : 0 ≤ ((ji12) : Int) := zo (by assumption); have q141 : (ji12) < (y140.length : Int) := (by have h_ : ((ji12) : Int) < ((x3_1.length : Int) : Int) := zo (by assumption); first | (have e_ := (Kd.R_reads' HO_3.out).1; omega) | simpa only [Ny140.out, List.length_set] using h_); have ql141 : (((ji12) : Int) < ((x3_1.length : Int) : Int)) = True := eq_true (zo (by assumption)); obtain ⟨ad141, e141, hx141_0⟩ := Kd.at_int (Kd.R_reads' HO_3.out).2.2 (ji12) p141 q141; obtain rfl : (⟨go15, 0, none⟩ : Addr) = ad141 := (by injection e141); (first | simp only [add_plain] at hx141_0 | simp only [add_at] at hx141_0 | simp only [Addr.add, Nat.zero_add] at hx141_0 | skip); replace p141 := eq_true p141; replace q141 := eq_true q141))
             go_roundg k1
             case measure => have := HK1.out; omega
             case rel => exact ⟨(y140), (ji12), (by first | rfl | (simp; done) | (simp only [← hji12] <;> (first | rfl | simp)) | (simp [*]; done)), H', ⟨by have := HK1.out; omega⟩, ⟨by (with_reducible repeat (first | apply Kd.R_alloc | apply Kd.R_drewN | apply Kd.R_drew)); exact HO_3.out⟩, ⟨by with_reducible repeat first | exact HB.out | apply zA | apply zN | apply zD | refine zS ?_ GE138.out⟩⟩
           ·
            rw [if_neg c14] at H; exact absurd H (by simp)
          ·
           rw [if_neg c13] at H; exact absurd H (by simp)
         ·
          rw [if_neg c11] at H; exact absurd H (by simp)
        ·
         rw [if_neg c10] at H; exact absurd H (by simp)
       ·
        rw [if_neg c9] at H; exact absurd H (by simp)
      ·
       rw [if_neg c8] at H; exact absurd H (by simp)
     ·
      rw [if_neg c7] at H; have c7b0 : decide (x12_1 < (l0.length : Int)) = false := decide_eq_false c7; clear c7; obtain rfl := Option.some.inj H; go_wp2; go_ret; exact ⟨by first | rfl | (simp [wN, wS] <;> rfl) | (simp only [← hji2]; first | rfl | (simp [wN, wS] <;> rfl)) | (simp [*, wN, wS] <;> rfl), by with_reducible repeat first | exact HB.out | apply zA | apply zN | apply zD⟩
  ·
   rw [if_neg c4] at H; exact absurd H (by simp)
 ·
  rw [if_neg c3] at H; exact absurd H (by simp)
def flat_cut.l0 : Nat → List (S53) → List Int → List (S53) → Int → Int → Option ((List (S53)))
 | 0, _, _, _, _, _ => none
 | k + 1, x0, x3, x10, x11, x12 => if x12 < x11 then (if 0 ≤ x12 then (if x12 < (x10.length : Int) then (if 0 ≤ ((rd_T53 x10 x12).f1) then (if ((rd_T53 x10 x12).f1) < (x3.length : Int) then (if 0 ≤ (wrap64 (x12 + 1)) then (if (wrap64 (x12 + 1)) < (x3.length : Int) then ((some (x3.set ((wrap64 (x12 + 1)) : Int).toNat (wrap64 ((rd x3 ((rd_T53 x10 x12).f1)) + 1)) : List Int)).bind fun y148 => (if (rd y148 (wrap64 (x12 + 1))) > 64 then (if (wrap64 (x12 + 1)) ≤ (x0.length : Int) then (some (x0.take ((wrap64 (x12 + 1)) : Int).toNat)) else (none)) else (if x12 = 4096 then (if (wrap64 (x12 + 1)) ≤ (x0.length : Int) then (some (x0.take ((wrap64 (x12 + 1)) : Int).toNat)) else (none)) else (flat_cut.l0 k x0 y148 x10 x11 (wrap64 (x12 + 1)))))) else (none)) else (none)) else (none)) else (none)) else (none)) else (none)) else (some x0)
def flat_cut.f (k : Nat) (l0 : List (S53)) : Option ((List (S53))) := if 0 ≤ (wrap64 ((l0.length : Int) + 1)) then (if (wrap64 ((l0.length : Int) + 1) : Int).toNat ≤ 35184372088832 then (flat_cut.l0 k l0 (List.replicate (wrap64 ((l0.length : Int) + 1) : Int).toNat 0) l0 (l0.length : Int) 0) else (none)) else (none)
theorem flat_cut.mono_l : ∀ k, (∀ y0 y1 y2 y3 y4, LeO (flat_cut.l0 k y0 y1 y2 y3 y4) (flat_cut.l0 (k + 1) y0 y1 y2 y3 y4))
 | 0 => fun _ _ _ _ _ r h => by simp [flat_cut.l0] at h
 | k + 1 => by
  have ih0 := flat_cut.mono_l k
  ·
   intro y0 y1 y2 y3 y4
   unfold flat_cut.l0
   with_reducible repeat' first | exact ih0 _ _ _ _ _ | exact LeO.refl _ | exact LeO.none _ | refine LeO.ite ?_ ?_ | refine LeO.bind ?_ (fun _ => ?_)
theorem flat_cut.mono : ∀ a0 k, LeO (flat_cut.f k a0) (flat_cut.f (k + 1) a0) := by
 intro a0 k
 have ih0 := flat_cut.mono_l k
 unfold flat_cut.f
 with_reducible repeat' first | exact ih0 _ _ _ _ _ | exact LeO.refl _ | exact LeO.none _ | refine LeO.ite ?_ ?_ | refine LeO.bind ?_ (fun _ => ?_)
set_option maxHeartbeats 8000000 in
set_option maxRecDepth 100000 in
theorem flat_cut.calls (k : Nat) (P0_ : Nat → Prop) (A0 : Option Addr) (c0 : Nat) (l0 : List (S53)) (r : List (S53)) (w : World) (hs0 : Kd.V k53 53 w w.heap.size (fun k_ => P0_ k_) (.slice A0 l0.length c0) l0) (h : flat_cut.f k l0 = some r) :
  Calls Try.prog 35 #[.slice A0 l0.length c0] w fun e w' => ∃ v0_ : Value, e = .returned (v0_) ∧ Kd.V k53 53 w' w.heap.size (fun k_ => (P0_ k_ ∨ w.heap.size ≤ k_)) v0_ r ∧ Below w.heap.size w w' := by
 have hu53 := Try.underlying53
 have HO0 := zk (show Kd.V k53 53 w w.heap.size (fun k_ => (P0_ k_ ∨ w.heap.size ≤ k_)) (.slice A0 l0.length c0) l0 from Kd.V_mono hs0 (fun k_ hk => .inl hk))
 have HB := zk (Below.refl w.heap.size w)
 have H : (if 0 ≤ (wrap64 ((l0.length : Int) + 1)) then (if (wrap64 ((l0.length : Int) + 1) : Int).toNat ≤ 35184372088832 then (flat_cut.l0 k l0 (List.replicate (wrap64 ((l0.length : Int) + 1) : Int).toNat 0) l0 (l0.length : Int) 0) else (none)) else (none)) = some r := h
 clear h
 obtain ⟨ji2, hji2⟩ : ∃ j_ : Int, (wrap64 ((l0.length : Int) + 1)) = j_ := ⟨_, rfl⟩
 replace H : (if 0 ≤ (ji2) then (if (ji2 : Int).toNat ≤ 35184372088832 then (flat_cut.l0 k l0 (List.replicate (ji2 : Int).toNat 0) l0 (l0.length : Int) 0) else (none)) else (none)) = some r := by first | (rw [hji2] at H; exact H) | (simp only [hji2] at H ⊢; exact H)
 have hji2w : (IntKind.i64.wrap ((l0.length : Int) + 1)) = ji2 := (i64_w _).trans hji2
 by_cases c3 : 0 ≤ (ji2)
 ·
  rw [if_pos c3] at H; have c3b0 := eq_true c3; have c3b1 : decide (0 ≤ (ji2)) = true := decide_eq_true c3; clear c3
  by_cases c4 : (ji2 : Int).toNat ≤ 35184372088832
  ·
   rw [if_pos c4] at H; have c4b0 := eq_true c4; have c4b1 : decide ((ji2 : Int).toNat ≤ 35184372088832) = true := decide_eq_true c4; clear c4; obtain ⟨y142, hy142⟩ : ∃ y_ : List Int, y_ = (List.replicate (ji2 : Int).toNat 0) := ⟨_, rfl⟩
   replace H : (flat_cut.l0 k l0 y142 l0 (l0.length : Int) 0) = some r := by first | (rw [hy142]; with_reducible exact H) | (have H2_ := (Option.bind_some _ _).symm.trans H; rw [hy142]; with_reducible exact H2_) | (have H2_ := (Option.bind_some _ _).symm.trans H; with_reducible exact H2_) | with_reducible exact H | (rw [hy142]; exact H) | exact H
   have Ny142 := zk hy142; clear hy142; have H' := zk H; clear H
   go_enter Try.func35, Try.ntmps35
   go_wp2_with (first | ((with_reducible refine gd (N := 9) rfl ?_); refine Kd.R_make (Kd.int .i64) _ 3 rfl (N := 9) rfl 43 _ _ rfl ji2 rfl rfl Try.underlying43 (.int .i64 0) 8 info3 rfl (by decide) (by omega) 0 (ok := fun _ => True) (okp := fun _ => True) rfl (fun _ hk => hk) trivial (zo (by assumption)) (Nat.le_trans (Nat.mul_le_mul_right _ (zo (by assumption) : ji2.toNat ≤ 35184372088832)) (by omega)) (Below.refl _ _) (Nat.le_refl _) ?_; intro v143 w5 ho6 hb hg_ hnew_; clear hg_ hnew_; (first | rw [← Ny142.out] at ho6 | (simp only [Int.reduceToNat] at ho6; rw [← Ny142.out] at ho6)); have n0_ := zk (Kd.V_elder' (by (with_reducible repeat (first | apply Kd.V_alloc | apply Kd.V_drewN | apply Kd.V_drew)); exact HO0.out) (Kd.R_base ho6) hb); have n1_ := zk (Kd.R_lower (Kd.R_newM (M := fun k_ => (w.heap.size ≤ k_)) ho6 (zq (by with_reducible repeat first | exact HB.out | apply zA | apply zN | apply zD)) (fun k_ h_ => h_)) (zq (by with_reducible repeat first | exact HB.out | apply zA | apply zN | apply zD))); have n2_ := zk (zs (by with_reducible repeat first | exact HB.out | apply zA | apply zN | apply zD) hb); clear HO0; clear HB; have HO0 := n0_; have HO144 := n1_; have HB := n2_; clear n0_ n1_ n2_; clear hb ho6))
   go_loopg [12] k (fun kq v12 w' => ∃ (x3_1 : List Int) (x12_1 : Int), v12 = .int .i64 x12_1 ∧ Aside0 (flat_cut.l0 kq l0 x3_1 l0 (l0.length : Int) x12_1 = some r) ∧ Aside0 (kq ≤ k) ∧ Aside0 (Kd.V k53 53 w' w.heap.size (fun k_ => (P0_ k_ ∨ w.heap.size ≤ k_) ∧ some k_ ≠ (v143 : Value).ownBlock) (.slice A0 l0.length c0) l0) ∧ Aside0 (Kd.R (Kd.int .i64) 3 w' w.heap.size (fun k_ => (w.heap.size ≤ k_)) v143 x3_1) ∧ Aside0 (Kd.V k53 53 w' w.heap.size (fun k_ => (P0_ k_ ∨ w.heap.size ≤ k_) ∧ some k_ ≠ (v143 : Value).ownBlock) (.slice A0 l0.length c0) l0) ∧ Aside0 (Below w.heap.size w w'))
   case atStart => exact ⟨(y142), (0), (by first | rfl | (simp; done) | (simp [*]; done)), H', ⟨Nat.le_refl _⟩, ⟨by (with_reducible repeat (first | apply Kd.V_alloc | apply Kd.V_drewN | apply Kd.V_drew)); exact HO0.out⟩, ⟨by (with_reducible repeat (first | apply Kd.R_alloc | apply Kd.R_drewN | apply Kd.R_drew)); exact Kd.R_mono HO144.out (fun _ hk => hk.1)⟩, ⟨by (with_reducible repeat (first | apply Kd.V_alloc | apply Kd.V_drewN | apply Kd.V_drew)); exact HO0.out⟩, ⟨by with_reducible repeat first | exact HB.out | apply zA | apply zN | apply zD⟩⟩
   case round =>
    clear H'; (try clear p2); (try clear c3); (try clear c3b0); (try clear c3b1); (try clear c4); (try clear c4b0); (try clear c4b1); (try clear p6); obtain ⟨x3_1, x12_1, rfl, HA, HK1, HO_0, HO_3, HO_10, HB⟩ := hrel
    cases gk with
    | zero => exact absurd HA.out (by simp [flat_cut.l0])
    | succ k1 =>
     have H := HA.out; clear HA; simp only [flat_cut.l0] at H
     by_cases c7 : x12_1 < (l0.length : Int)
     ·
      rw [if_pos c7] at H; have c7b0 : decide (x12_1 < (l0.length : Int)) = true := decide_eq_true c7; clear c7
      by_cases c8 : 0 ≤ x12_1
      ·
       rw [if_pos c8] at H; have c8b0 : decide (0 ≤ x12_1) = true := decide_eq_true c8; clear c8
       by_cases c9 : x12_1 < (l0.length : Int)
       ·
        rw [if_pos c9] at H; have c9b0 : decide (x12_1 < (l0.length : Int)) = true := decide_eq_true c9; clear c9
        by_cases c10 : 0 ≤ ((rd_T53 l0 x12_1).f1)
        ·
         rw [if_pos c10] at H; have c10b0 := decide_eq_true c10; clear c10
         by_cases c11 : ((rd_T53 l0 x12_1).f1) < (x3_1.length : Int)
         ·
          rw [if_pos c11] at H; have c11b0 := decide_eq_true c11; clear c11; obtain ⟨ji12, hji12⟩ : ∃ j_ : Int, (wrap64 (x12_1 + 1)) = j_ := ⟨_, rfl⟩
          replace H : (if 0 ≤ (ji12) then (if (ji12) < (x3_1.length : Int) then ((some (x3_1.set ((ji12) : Int).toNat (wrap64 ((rd x3_1 ((rd_T53 l0 x12_1).f1)) + 1)) : List Int)).bind fun y148 => (if (rd y148 (ji12)) > 64 then (if (ji12) ≤ (l0.length : Int) then (some (l0.take ((ji12) : Int).toNat)) else (none)) else (if x12_1 = 4096 then (if (ji12) ≤ (l0.length : Int) then (some (l0.take ((ji12) : Int).toNat)) else (none)) else (flat_cut.l0 k1 l0 y148 l0 (l0.length : Int) ji12)))) else (none)) else (none)) = some r := by first | (rw [hji12] at H; exact H) | (simp only [hji12] at H ⊢; exact H)
          have hji12w : (IntKind.i64.wrap (x12_1 + 1)) = ji12 := (i64_w _).trans hji12
          by_cases c13 : 0 ≤ (ji12)
          ·
           rw [if_pos c13] at H; have c13b0 : decide (0 ≤ (ji12)) = true := decide_eq_true c13; clear c13
           by_cases c14 : (ji12) < (x3_1.length : Int)
           ·
            rw [if_pos c14] at H; have c14b0 : decide ((ji12) < (x3_1.length : Int)) = true := decide_eq_true c14; clear c14; obtain ⟨y148, hy148⟩ : ∃ y_ : List Int, y_ = (x3_1.set ((ji12) : Int).toNat (wrap64 ((rd x3_1 ((rd_T53 l0 x12_1).f1)) + 1))) := ⟨_, rfl⟩
            replace H : (if (rd y148 (ji12)) > 64 then (if (ji12) ≤ (l0.length : Int) then (some (l0.take ((ji12) : Int).toNat)) else (none)) else (if x12_1 = 4096 then (if (ji12) ≤ (l0.length : Int) then (some (l0.take ((ji12) : Int).toNat)) else (none)) else (flat_cut.l0 k1 l0 y148 l0 (l0.length : Int) ji12))) = some r := by first | (rw [hy148]; with_reducible exact H) | (have H2_ := (Option.bind_some _ _).symm.trans H; rw [hy148]; with_reducible exact H2_) | (have H2_ := (Option.bind_some _ _).symm.trans H; with_reducible exact H2_) | with_reducible exact H | (rw [hy148]; exact H) | exact H
            have Ny148 := zk hy148; clear hy148
            by_cases c16 : (rd y148 (ji12)) > 64
            ·
             rw [if_pos c16] at H; have c16b0 : decide (64 < (rd y148 (ji12))) = true := decide_eq_true c16; clear c16; have c17b0 := eq_true (zo (by assumption) : 0 ≤ (ji12))
             by_cases c18 : (ji12) ≤ (l0.length : Int)
             ·
              rw [if_pos c18] at H; have c18b0 := eq_true c18; have c18b1 : decide ((ji12) ≤ (l0.length : Int)) = true := decide_eq_true c18; clear c18; obtain ⟨y150, hy150⟩ : ∃ y_ : List (S53), y_ = (l0.take ((ji12) : Int).toNat) := ⟨_, rfl⟩
              replace H : (some y150) = some r := by first | (rw [hy150]; with_reducible exact H) | (have H2_ := (Option.bind_some _ _).symm.trans H; rw [hy150]; with_reducible exact H2_) | (have H2_ := (Option.bind_some _ _).symm.trans H; with_reducible exact H2_) | with_reducible exact H | (rw [hy150]; exact H) | exact H
              have Ny150 := zk hy150; clear hy150; obtain rfl := Option.some.inj H; have p145 : 0 ≤ (x12_1 : Int) := zo (by assumption); have q145 : x12_1 < (l0.length : Int) := zo (by assumption); obtain ⟨ad145, A145_5, c145_5, e145, hx145_0, hx145_1, hx145_2, hx145_3, hx145_4, hx145_5, hl145_5, hi145_5⟩ := at_T53 (Kd.V_reads' HO_10.out).2.2 x12_1 p145 q145; cases e145; obtain ⟨ce145, hce145, hMe145, hcc145⟩ := Kd.V_get HO_10.out z53 x12_1 p145 (by first | exact q145 | exact zo (by assumption) | (have e_ := (Kd.V_reads' HO_10.out).1; omega)); obtain ⟨ua145_5, uc145_5, rfl, ul145_5, ge145_5⟩ := k53_openF hMe145; have hv145_5 := hcc145 5 _ rfl; rw [add_field _ _ 5 (by omega)] at hv145_5; replace hv145_5 := Option.some.inj (hv145_5.symm.trans hx145_5); injection hv145_5 with hva_ hvn_ hvc_; rw [hva_] at ge145_5; rw [hvc_] at ul145_5; have HL145_5 := zk (show Kd.V k69 69 _ w.heap.size _ _ ((rd_T53 l0 x12_1).f5) from Kd.V_mk ul145_5 ge145_5); clear hva_ hvn_ hvc_ ge145_5 ul145_5; clear hcc145 hce145; have HR145_5 := zk hi145_5; have HC145_5 := zk hl145_5; clear hi145_5 hl145_5; replace p145 := eq_true p145; replace q145 := eq_true q145
              go_wp2_with (first | ((with_reducible refine gd (N := 5) rfl ?_); refine zb ?hg (N := 5) ?hd (cs := #[.int .i64 0, .int .i64 0, .string ⟨#[]⟩, .string ⟨#[]⟩, .string ⟨#[]⟩, .slice none 0 0]) (t := 53) ?hr ?_; (case hd => rfl); (case hg => rfl); (case hr => go_simp; first | done | rfl); intro gb146 hg w19 hbox hb; have n0_ := zk (Kd.V_below (Kd.V_elderB (by (with_reducible repeat (first | apply Kd.V_alloc | apply Kd.V_drewN | apply Kd.V_drew)); exact HO_0.out) gb146 (Nat.le_of_eq hg.symm)) hb); have n1_ := zk (Kd.R_below (by (with_reducible repeat (first | apply Kd.R_alloc | apply Kd.R_drewN | apply Kd.R_drew)); exact HO_3.out) hb); have n2_ := zk (Kd.V_below (Kd.V_elderB (by (with_reducible repeat (first | apply Kd.V_alloc | apply Kd.V_drewN | apply Kd.V_drew)); exact HO_10.out) gb146 (Nat.le_of_eq hg.symm)) hb); have n3_ := zk (Kd.V_below (Kd.V_elderB (by (with_reducible repeat (first | apply Kd.V_alloc | apply Kd.V_drewN | apply Kd.V_drew)); exact HL145_5.out) gb146 (Nat.le_of_eq hg.symm)) hb); have n4_ := zk (Kd.C_below (by repeat (first | (with_reducible exact HR145_5.out) | (with_reducible refine Kd.C_alloc ?_ _) | (with_reducible refine Kd.C_drewN ?_ _) | (with_reducible refine Kd.C_drew ?_) | exact HR145_5.out)) hb); have n5_ := zk (zs (by with_reducible repeat first | exact HB.out | apply zA | apply zN | apply zD) hb); have n6_ := zk (hbox); have n7_ := zk ((by rw [hg]; exact (zq (by with_reducible repeat first | exact HB.out | apply zA | apply zN | apply zD)) : w.heap.size ≤ gb146)); have n8_ := n7_; clear HO_0; clear HO_3; clear HO_10; clear HL145_5; clear HR145_5; clear HB; have HO_0 := n0_; have HO_3 := n1_; have HO_10 := n2_; have HL145_5 := n3_; have HR145_5 := n4_; have HB := n5_; have BK146 := n6_; have GW146 := n7_; have GE146 := n8_; clear n0_ n1_ n2_ n3_ n4_ n5_ n6_ n7_ n8_; clear hb hbox hg; obtain ⟨hcz20_0, hcz20_1, hcz20_2, hcz20_3, hcz20_4, hcz20_5, hfz20_0, hfz20_1, hfz20_2, hfz20_3, hfz20_4, hfz20_5⟩ := zc6 BK146.out) | ((with_reducible refine gw (t := 53) (p := 5) rfl ?_); refine store_event (t := 53) (p := 5) (v := ?vo_w21) (w1 := ((((((w19.setCell ⟨gb146, 0, none⟩ (.int .i64 ((rd_T53 l0 x12_1).f0))).setCell ⟨gb146, 1, none⟩ (.int .i64 ((rd_T53 l0 x12_1).f1))).setCell ⟨gb146, 2, none⟩ (.string ((rd_T53 l0 x12_1).f2))).setCell ⟨gb146, 3, none⟩ (.string ((rd_T53 l0 x12_1).f3))).setCell ⟨gb146, 4, none⟩ (.string ((rd_T53 l0 x12_1).f4))).setCell ⟨gb146, 5, none⟩ (.slice A145_5 ((rd_T53 l0 x12_1).f5).length c145_5))) ?hg ?ho ?hn ?hr ?_; (case ho => rfl); (case hg => rfl); (case hn => rfl); (case hr => go_simp; first | done | rfl); intro w21 hw; have n0_ : Aside0 (Kd.V k53 53 w21 w.heap.size (fun k_ => (P0_ k_ ∨ w.heap.size ≤ k_) ∧ some k_ ≠ (v143 : Value).ownBlock ∧ k_ ≠ gb146) (.slice (some ad145) l0.length c0) l0) := ⟨(by rw [hw]; exact (by (with_reducible repeat (first | apply Kd.V_alloc | apply Kd.V_drewN | apply Kd.V_drew)); exact Kd.V_mono (Kd.V_far (p := ⟨gb146, 5, none⟩) (Kd.V_far (p := ⟨gb146, 4, none⟩) (Kd.V_far (p := ⟨gb146, 3, none⟩) (Kd.V_far (p := ⟨gb146, 2, none⟩) (Kd.V_far (p := ⟨gb146, 1, none⟩) (Kd.V_far (p := ⟨gb146, 0, none⟩) (Kd.V_mono HO_0.out (fun k_ hk => (⟨hk, hk.2⟩ : _ ∧ k_ ≠ gb146))) (fun _ hk => hk.2) (.int .i64 ((rd_T53 l0 x12_1).f0))) (fun _ hk => hk.2) (.int .i64 ((rd_T53 l0 x12_1).f1))) (fun _ hk => hk.2) (.string ((rd_T53 l0 x12_1).f2))) (fun _ hk => hk.2) (.string ((rd_T53 l0 x12_1).f3))) (fun _ hk => hk.2) (.string ((rd_T53 l0 x12_1).f4))) (fun _ hk => hk.2) (.slice A145_5 ((rd_T53 l0 x12_1).f5).length c145_5)) (fun _ hk => ⟨hk.1.1.1, ⟨hk.1.1.2, hk.1.2⟩⟩)))⟩; have n1_ : Aside0 (Kd.R (Kd.int .i64) 3 w21 w.heap.size (fun k_ => (w.heap.size ≤ k_)) v143 x3_1) := ⟨(by rw [hw]; exact (by (with_reducible repeat (first | apply Kd.R_alloc | apply Kd.R_drewN | apply Kd.R_drew)); exact Kd.R_mono (Kd.R_far (p := ⟨gb146, 5, none⟩) (Kd.R_far (p := ⟨gb146, 4, none⟩) (Kd.R_far (p := ⟨gb146, 3, none⟩) (Kd.R_far (p := ⟨gb146, 2, none⟩) (Kd.R_far (p := ⟨gb146, 1, none⟩) (Kd.R_far (p := ⟨gb146, 0, none⟩) (Kd.R_types HO_3.out BK146.out (by decide)) (fun _ hk => hk.2) (.int .i64 ((rd_T53 l0 x12_1).f0))) (fun _ hk => hk.2) (.int .i64 ((rd_T53 l0 x12_1).f1))) (fun _ hk => hk.2) (.string ((rd_T53 l0 x12_1).f2))) (fun _ hk => hk.2) (.string ((rd_T53 l0 x12_1).f3))) (fun _ hk => hk.2) (.string ((rd_T53 l0 x12_1).f4))) (fun _ hk => hk.2) (.slice A145_5 ((rd_T53 l0 x12_1).f5).length c145_5)) (fun _ hk => hk.1)))⟩; have n2_ : Aside0 (Kd.V k53 53 w21 w.heap.size (fun k_ => (P0_ k_ ∨ w.heap.size ≤ k_) ∧ some k_ ≠ (v143 : Value).ownBlock ∧ k_ ≠ gb146) (.slice (some ad145) l0.length c0) l0) := ⟨(by rw [hw]; exact (by (with_reducible repeat (first | apply Kd.V_alloc | apply Kd.V_drewN | apply Kd.V_drew)); exact Kd.V_mono (Kd.V_far (p := ⟨gb146, 5, none⟩) (Kd.V_far (p := ⟨gb146, 4, none⟩) (Kd.V_far (p := ⟨gb146, 3, none⟩) (Kd.V_far (p := ⟨gb146, 2, none⟩) (Kd.V_far (p := ⟨gb146, 1, none⟩) (Kd.V_far (p := ⟨gb146, 0, none⟩) (Kd.V_mono HO_10.out (fun k_ hk => (⟨hk, hk.2⟩ : _ ∧ k_ ≠ gb146))) (fun _ hk => hk.2) (.int .i64 ((rd_T53 l0 x12_1).f0))) (fun _ hk => hk.2) (.int .i64 ((rd_T53 l0 x12_1).f1))) (fun _ hk => hk.2) (.string ((rd_T53 l0 x12_1).f2))) (fun _ hk => hk.2) (.string ((rd_T53 l0 x12_1).f3))) (fun _ hk => hk.2) (.string ((rd_T53 l0 x12_1).f4))) (fun _ hk => hk.2) (.slice A145_5 ((rd_T53 l0 x12_1).f5).length c145_5)) (fun _ hk => ⟨hk.1.1.1, ⟨hk.1.1.2, hk.1.2⟩⟩)))⟩; have n3_ : Aside0 (Kd.V k69 69 w21 w.heap.size (fun k_ => (P0_ k_ ∨ w.heap.size ≤ k_) ∧ some k_ ≠ (v143 : Value).ownBlock ∧ k_ ≠ gb146) (.slice A145_5 ((rd_T53 l0 x12_1).f5).length c145_5) ((rd_T53 l0 x12_1).f5)) := ⟨(by rw [hw]; exact (by (with_reducible repeat (first | apply Kd.V_alloc | apply Kd.V_drewN | apply Kd.V_drew)); exact Kd.V_mono (Kd.V_far (p := ⟨gb146, 5, none⟩) (Kd.V_far (p := ⟨gb146, 4, none⟩) (Kd.V_far (p := ⟨gb146, 3, none⟩) (Kd.V_far (p := ⟨gb146, 2, none⟩) (Kd.V_far (p := ⟨gb146, 1, none⟩) (Kd.V_far (p := ⟨gb146, 0, none⟩) (Kd.V_mono HL145_5.out (fun k_ hk => (⟨hk, hk.2⟩ : _ ∧ k_ ≠ gb146))) (fun _ hk => hk.2) (.int .i64 ((rd_T53 l0 x12_1).f0))) (fun _ hk => hk.2) (.int .i64 ((rd_T53 l0 x12_1).f1))) (fun _ hk => hk.2) (.string ((rd_T53 l0 x12_1).f2))) (fun _ hk => hk.2) (.string ((rd_T53 l0 x12_1).f3))) (fun _ hk => hk.2) (.string ((rd_T53 l0 x12_1).f4))) (fun _ hk => hk.2) (.slice A145_5 ((rd_T53 l0 x12_1).f5).length c145_5)) (fun _ hk => ⟨hk.1.1.1, ⟨hk.1.1.2, hk.1.2⟩⟩)))⟩; have n4_ : Aside0 (w21.heap[gb146]? = some (.cells #[.int .i64 ((rd_T53 l0 x12_1).f0), .int .i64 ((rd_T53 l0 x12_1).f1), .string ((rd_T53 l0 x12_1).f2), .string ((rd_T53 l0 x12_1).f3), .string ((rd_T53 l0 x12_1).f4), .slice A145_5 ((rd_T53 l0 x12_1).f5).length c145_5] 53 (0, 0))) := ⟨(by rw [hw]; exact (by (with_reducible repeat first | apply zM | apply zE | apply zF); refine zP (cs := #[.int .i64 ((rd_T53 l0 x12_1).f0), .int .i64 ((rd_T53 l0 x12_1).f1), .string ((rd_T53 l0 x12_1).f2), .string ((rd_T53 l0 x12_1).f3), .string ((rd_T53 l0 x12_1).f4), .slice none 0 0]) ?_ 5 _ rfl; (with_reducible repeat first | apply zM | apply zE | apply zF); refine zP (cs := #[.int .i64 ((rd_T53 l0 x12_1).f0), .int .i64 ((rd_T53 l0 x12_1).f1), .string ((rd_T53 l0 x12_1).f2), .string ((rd_T53 l0 x12_1).f3), .string ⟨#[]⟩, .slice none 0 0]) ?_ 4 _ rfl; (with_reducible repeat first | apply zM | apply zE | apply zF); refine zP (cs := #[.int .i64 ((rd_T53 l0 x12_1).f0), .int .i64 ((rd_T53 l0 x12_1).f1), .string ((rd_T53 l0 x12_1).f2), .string ⟨#[]⟩, .string ⟨#[]⟩, .slice none 0 0]) ?_ 3 _ rfl; (with_reducible repeat first | apply zM | apply zE | apply zF); refine zP (cs := #[.int .i64 ((rd_T53 l0 x12_1).f0), .int .i64 ((rd_T53 l0 x12_1).f1), .string ⟨#[]⟩, .string ⟨#[]⟩, .string ⟨#[]⟩, .slice none 0 0]) ?_ 2 _ rfl; (with_reducible repeat first | apply zM | apply zE | apply zF); refine zP (cs := #[.int .i64 ((rd_T53 l0 x12_1).f0), .int .i64 0, .string ⟨#[]⟩, .string ⟨#[]⟩, .string ⟨#[]⟩, .slice none 0 0]) ?_ 1 _ rfl; (with_reducible repeat first | apply zM | apply zE | apply zF); refine zP (cs := #[.int .i64 0, .int .i64 0, .string ⟨#[]⟩, .string ⟨#[]⟩, .string ⟨#[]⟩, .slice none 0 0]) ?_ 0 _ rfl; (with_reducible repeat first | apply zM | apply zE | apply zF); exact BK146.out))⟩; have n5_ : Aside0 (Below w.heap.size w w21) := ⟨(by rw [hw]; exact (by with_reducible repeat first | exact HB.out | apply zA | apply zN | apply zD | refine zS ?_ GE146.out))⟩; clear hw; clear HO_0; clear HO_3; clear HO_10; clear HL145_5; clear BK146; clear HB; have HO_0 := n0_; have HO_3 := n1_; have HO_10 := n2_; have HL145_5 := n3_; have BK146 := n4_; have HB := n5_; clear n0_ n1_ n2_ n3_ n4_ n5_; obtain ⟨hcz22_0, hcz22_1, hcz22_2, hcz22_3, hcz22_4, hcz22_5, hfz22_0, hfz22_1, hfz22_2, hfz22_3, hfz22_4, hfz22_5⟩ := zc6 BK146.out; obtain ⟨Ao23, co23, eo23⟩ := Kd.R_slice HO_3.out; subst eo23; have p147 : 0 ≤ (((rd_T53 l0 x12_1).f1) : Int) := zo (by assumption); have q147 : ((rd_T53 l0 x12_1).f1) < (x3_1.length : Int) := zo (by assumption); obtain ⟨ad147, e147, hx147_0⟩ := Kd.at_int (Kd.R_reads' HO_3.out).2.2 ((rd_T53 l0 x12_1).f1) p147 q147; cases e147; replace p147 := eq_true p147; replace q147 := eq_true q147; have p15 : 0 ≤ ((ji12) : Int) := zo (by assumption); have q15 : ((ji12) : Int) < ((x3_1.length : Int) : Int) := zo (by assumption); obtain ⟨go15, co15, eo15, gb15, gl15, cl15, HG15⟩ := Kd.R_form HO_3.out (by omega); (first | cases eo15 | (injection eo15 with ea_ en_ ec_; (first | subst ea_ | (injection ea_ with ea_; subst ea_)); subst ec_; clear en_)); have GB15 := zk gb15; have GG15 := zk HG15; clear gb15 gl15 HG15; (first | simp only [add_plain] at hx147_0 | skip); obtain ⟨hx15_0, hf15_0⟩ := Kd.R_celln 0 HO_3.out ((ji12) : Int) p15 q15; replace p15 := eq_true p15; replace q15 := eq_true q15; obtain ⟨hy24_, hz24_⟩ := Kd.R_celln 0 HO_3.out ((ji12) : Int) (zo (by assumption)) (zo (by assumption)); have HP24 := Kd.R_putg HO_3.out ((ji12) : Int) (wrap64 ((rd x3_1 ((rd_T53 l0 x12_1).f1)) + 1))) | ((with_reducible refine gw (t := 3) (p := 26) rfl ?_); refine store_event (t := 3) (p := 26) (v := ?vo_w25) (w1 := (w21.setCell ⟨go15, ((ji12) : Int).toNat, none⟩ (.int .i64 (wrap64 ((rd x3_1 ((rd_T53 l0 x12_1).f1)) + 1))))) ?hg ?ho ?hn ?hr ?_; (case ho => rfl); (case hg => rfl); (case hn => rfl); (case hr => go_simp; first | done | rfl); intro w25 hw; have hg : w21.grownBy w25 (some go15) := (by rw [hw]; exact HP24.2); have hp_ : Kd.R (Kd.int .i64) 3 w25 w.heap.size (fun k_ => (w.heap.size ≤ k_)) (.slice (some ⟨go15, 0, none⟩) x3_1.length co23) y148 := (by rw [hw, Ny148.out]; exact HP24.1); clear HP24; have n0_ := zk (Kd.V_afterv (v := (.slice (some ⟨go15, 0, none⟩) x3_1.length co23)) (v1 := (.slice (some ⟨go15, 0, none⟩) x3_1.length co23)) (ok := (fun k_ => (P0_ k_ ∨ w.heap.size ≤ k_) ∧ k_ ≠ gb146)) (by (with_reducible repeat (first | apply Kd.V_alloc | apply Kd.V_drewN | apply Kd.V_drew)); exact Kd.V_mono HO_0.out (fun _ hk => ⟨⟨hk.1, hk.2.2⟩, hk.2.1⟩)) hg (.inl rfl)); have n1_ := zk (hp_); have n2_ := zk (Kd.V_afterv (v := (.slice (some ⟨go15, 0, none⟩) x3_1.length co23)) (v1 := (.slice (some ⟨go15, 0, none⟩) x3_1.length co23)) (ok := (fun k_ => (P0_ k_ ∨ w.heap.size ≤ k_) ∧ k_ ≠ gb146)) (by (with_reducible repeat (first | apply Kd.V_alloc | apply Kd.V_drewN | apply Kd.V_drew)); exact Kd.V_mono HO_10.out (fun _ hk => ⟨⟨hk.1, hk.2.2⟩, hk.2.1⟩)) hg (.inl rfl)); have n3_ := zk (Kd.V_afterv (v := (.slice (some ⟨go15, 0, none⟩) x3_1.length co23)) (v1 := (.slice (some ⟨go15, 0, none⟩) x3_1.length co23)) (ok := (fun k_ => (P0_ k_ ∨ w.heap.size ≤ k_) ∧ k_ ≠ gb146)) (by (with_reducible repeat (first | apply Kd.V_alloc | apply Kd.V_drewN | apply Kd.V_drew)); exact Kd.V_mono HL145_5.out (fun _ hk => ⟨⟨hk.1, hk.2.2⟩, hk.2.1⟩)) hg (.inl rfl)); have n4_ := zk (blk_grown (g := gb146) (o := .cells #[.int .i64 ((rd_T53 l0 x12_1).f0), .int .i64 ((rd_T53 l0 x12_1).f1), .string ((rd_T53 l0 x12_1).f2), .string ((rd_T53 l0 x12_1).f3), .string ((rd_T53 l0 x12_1).f4), .slice A145_5 ((rd_T53 l0 x12_1).f5).length c145_5] 53 (0, 0)) (by (with_reducible repeat first | apply zM | apply zE | apply zF); exact BK146.out) hg (Kd.R_ne HO_3.out BK146.out (by decide))); have n5_ := zk ((by rw [hw]; exact zS (HB.out) GB15.out : Below w.heap.size w w25)); clear HO_0; clear HO_3; clear HO_10; clear HL145_5; clear BK146; clear HB; have HO_0 := n0_; have HO_3 := n1_; have HO_10 := n2_; have HL145_5 := n3_; have BK146 := n4_; have HB := n5_; clear n0_ n1_ n2_ n3_ n4_ n5_; clear hg hw hp_; have p149 : 0 ≤ ((ji12) : Int) := zo (by assumption); have q149 : (ji12) < (y148.length : Int) := (by have h_ : ((ji12) : Int) < ((x3_1.length : Int) : Int) := zo (by assumption); first | (have e_ := (Kd.R_reads' HO_3.out).1; omega) | simpa only [Ny148.out, List.length_set] using h_); have ql149 : (((ji12) : Int) < ((x3_1.length : Int) : Int)) = True := eq_true (zo (by assumption)); obtain ⟨ad149, e149, hx149_0⟩ := Kd.at_int (Kd.R_reads' HO_3.out).2.2 (ji12) p149 q149; obtain rfl : (⟨go15, 0, none⟩ : Addr) = ad149 := (by injection e149); (first | simp only [add_plain] at hx149_0 | simp only [add_at] at hx149_0 | simp only [Addr.add, Nat.zero_add] at hx149_0 | skip); replace p149 := eq_true p149; replace q149 := eq_true q149; have q26 : ((ji12) : Int) ≤ ((l0.length : Int) : Int) := zo (by assumption); obtain ⟨i026, hi026, _, hsz26, _⟩ := info_parts info53; have hroom26 : l0.length ≤ c0 := (Kd.V_reads' HO_0.out).2.1; have hC26 : Kd.F k53 _ _ (some ad145) l0.length l0 := (Kd.V_at (base := w.heap.size) HO_0.out).2.2; have hcut26 := cut_to (P := Try.prog) 28 53 .i64 Try.underlying28 hi026 (some ad145) l0.length c0 (ji12) (zo (by assumption)) q26 hroom26; have hr26 := Kd.F_take (m := ((ji12) : Int).toNat) hC26 (by omega); have hy26 : y150.length = ((ji12) : Int).toNat := (by rw [Ny150.out, List.length_take]; omega); rw [← Ny150.out] at hr26; rw [← hy26] at hcut26; have HO154 := zk (show Kd.V k53 53 _ w.heap.size _ (.slice (some ad145) y150.length c0) y150 from Kd.V_mk (by omega) hr26); have HC154 := zk (show y150.length ≤ c0 from by omega); clear hr26 hC26 hroom26 hi026 hsz26; have KY26 := zk hy26; clear hy26; replace q26 := eq_true q26))
              go_ret; exact ⟨_, by first | rfl | (simp [wN, wS] <;> rfl) | (simp only [← hji2, ← hji12]; first | rfl | (simp [wN, wS] <;> rfl)) | (simp [*, wN, wS] <;> rfl), by (with_reducible repeat (first | apply Kd.V_alloc | apply Kd.V_drewN | apply Kd.V_drew)); exact Kd.V_mono HO154.out (fun _ hk => hk.1.1), by with_reducible repeat first | exact HB.out | apply zA | apply zN | apply zD | refine zS ?_ GE146.out⟩
             ·
              rw [if_neg c18] at H; exact absurd H (by simp)
            ·
             rw [if_neg c16] at H; have c16b0 : decide (64 < (rd y148 (ji12))) = false := decide_eq_false c16; clear c16
             by_cases c27 : x12_1 = 4096
             ·
              rw [if_pos c27] at H; have c27b0 := beq_iff_eq.mpr c27; have c27b1 := bne_eq_false_iff_eq.mpr c27; clear c27; have c28b0 := eq_true (zo (by assumption) : 0 ≤ (ji12))
              by_cases c29 : (ji12) ≤ (l0.length : Int)
              ·
               rw [if_pos c29] at H; have c29b0 := eq_true c29; have c29b1 := decide_eq_true c29; clear c29; obtain ⟨y155, hy155⟩ : ∃ y_ : List (S53), y_ = (l0.take ((ji12) : Int).toNat) := ⟨_, rfl⟩
               replace H : (some y155) = some r := by first | (rw [hy155]; with_reducible exact H) | (have H2_ := (Option.bind_some _ _).symm.trans H; rw [hy155]; with_reducible exact H2_) | (have H2_ := (Option.bind_some _ _).symm.trans H; with_reducible exact H2_) | with_reducible exact H | (rw [hy155]; exact H) | exact H
               have Ny155 := zk hy155; clear hy155; obtain rfl := Option.some.inj H; have p145 : 0 ≤ (x12_1 : Int) := zo (by assumption); have q145 : x12_1 < (l0.length : Int) := zo (by assumption); obtain ⟨ad145, A145_5, c145_5, e145, hx145_0, hx145_1, hx145_2, hx145_3, hx145_4, hx145_5, hl145_5, hi145_5⟩ := at_T53 (Kd.V_reads' HO_10.out).2.2 x12_1 p145 q145; cases e145; obtain ⟨ce145, hce145, hMe145, hcc145⟩ := Kd.V_get HO_10.out z53 x12_1 p145 (by first | exact q145 | exact zo (by assumption) | (have e_ := (Kd.V_reads' HO_10.out).1; omega)); obtain ⟨ua145_5, uc145_5, rfl, ul145_5, ge145_5⟩ := k53_openF hMe145; have hv145_5 := hcc145 5 _ rfl; rw [add_field _ _ 5 (by omega)] at hv145_5; replace hv145_5 := Option.some.inj (hv145_5.symm.trans hx145_5); injection hv145_5 with hva_ hvn_ hvc_; rw [hva_] at ge145_5; rw [hvc_] at ul145_5; have HL145_5 := zk (show Kd.V k69 69 _ w.heap.size _ _ ((rd_T53 l0 x12_1).f5) from Kd.V_mk ul145_5 ge145_5); clear hva_ hvn_ hvc_ ge145_5 ul145_5; clear hcc145 hce145; have HR145_5 := zk hi145_5; have HC145_5 := zk hl145_5; clear hi145_5 hl145_5; replace p145 := eq_true p145; replace q145 := eq_true q145
               go_wp2_with (first | ((with_reducible refine gd (N := 5) rfl ?_); refine zb ?hg (N := 5) ?hd (cs := #[.int .i64 0, .int .i64 0, .string ⟨#[]⟩, .string ⟨#[]⟩, .string ⟨#[]⟩, .slice none 0 0]) (t := 53) ?hr ?_; (case hd => rfl); (case hg => rfl); (case hr => go_simp; first | done | rfl); intro gb146 hg w30 hbox hb; have n0_ := zk (Kd.V_below (Kd.V_elderB (by (with_reducible repeat (first | apply Kd.V_alloc | apply Kd.V_drewN | apply Kd.V_drew)); exact HO_0.out) gb146 (Nat.le_of_eq hg.symm)) hb); have n1_ := zk (Kd.R_below (by (with_reducible repeat (first | apply Kd.R_alloc | apply Kd.R_drewN | apply Kd.R_drew)); exact HO_3.out) hb); have n2_ := zk (Kd.V_below (Kd.V_elderB (by (with_reducible repeat (first | apply Kd.V_alloc | apply Kd.V_drewN | apply Kd.V_drew)); exact HO_10.out) gb146 (Nat.le_of_eq hg.symm)) hb); have n3_ := zk (Kd.V_below (Kd.V_elderB (by (with_reducible repeat (first | apply Kd.V_alloc | apply Kd.V_drewN | apply Kd.V_drew)); exact HL145_5.out) gb146 (Nat.le_of_eq hg.symm)) hb); have n4_ := zk (Kd.C_below (by repeat (first | (with_reducible exact HR145_5.out) | (with_reducible refine Kd.C_alloc ?_ _) | (with_reducible refine Kd.C_drewN ?_ _) | (with_reducible refine Kd.C_drew ?_) | exact HR145_5.out)) hb); have n5_ := zk (zs (by with_reducible repeat first | exact HB.out | apply zA | apply zN | apply zD) hb); have n6_ := zk (hbox); have n7_ := zk ((by rw [hg]; exact (zq (by with_reducible repeat first | exact HB.out | apply zA | apply zN | apply zD)) : w.heap.size ≤ gb146)); have n8_ := n7_; clear HO_0; clear HO_3; clear HO_10; clear HL145_5; clear HR145_5; clear HB; have HO_0 := n0_; have HO_3 := n1_; have HO_10 := n2_; have HL145_5 := n3_; have HR145_5 := n4_; have HB := n5_; have BK146 := n6_; have GW146 := n7_; have GE146 := n8_; clear n0_ n1_ n2_ n3_ n4_ n5_ n6_ n7_ n8_; clear hb hbox hg; obtain ⟨hcz31_0, hcz31_1, hcz31_2, hcz31_3, hcz31_4, hcz31_5, hfz31_0, hfz31_1, hfz31_2, hfz31_3, hfz31_4, hfz31_5⟩ := zc6 BK146.out) | ((with_reducible refine gw (t := 53) (p := 5) rfl ?_); refine store_event (t := 53) (p := 5) (v := ?vo_w32) (w1 := ((((((w30.setCell ⟨gb146, 0, none⟩ (.int .i64 ((rd_T53 l0 x12_1).f0))).setCell ⟨gb146, 1, none⟩ (.int .i64 ((rd_T53 l0 x12_1).f1))).setCell ⟨gb146, 2, none⟩ (.string ((rd_T53 l0 x12_1).f2))).setCell ⟨gb146, 3, none⟩ (.string ((rd_T53 l0 x12_1).f3))).setCell ⟨gb146, 4, none⟩ (.string ((rd_T53 l0 x12_1).f4))).setCell ⟨gb146, 5, none⟩ (.slice A145_5 ((rd_T53 l0 x12_1).f5).length c145_5))) ?hg ?ho ?hn ?hr ?_; (case ho => rfl); (case hg => rfl); (case hn => rfl); (case hr => go_simp; first | done | rfl); intro w32 hw; have n0_ : Aside0 (Kd.V k53 53 w32 w.heap.size (fun k_ => (P0_ k_ ∨ w.heap.size ≤ k_) ∧ some k_ ≠ (v143 : Value).ownBlock ∧ k_ ≠ gb146) (.slice (some ad145) l0.length c0) l0) := ⟨(by rw [hw]; exact (by (with_reducible repeat (first | apply Kd.V_alloc | apply Kd.V_drewN | apply Kd.V_drew)); exact Kd.V_mono (Kd.V_far (p := ⟨gb146, 5, none⟩) (Kd.V_far (p := ⟨gb146, 4, none⟩) (Kd.V_far (p := ⟨gb146, 3, none⟩) (Kd.V_far (p := ⟨gb146, 2, none⟩) (Kd.V_far (p := ⟨gb146, 1, none⟩) (Kd.V_far (p := ⟨gb146, 0, none⟩) (Kd.V_mono HO_0.out (fun k_ hk => (⟨hk, hk.2⟩ : _ ∧ k_ ≠ gb146))) (fun _ hk => hk.2) (.int .i64 ((rd_T53 l0 x12_1).f0))) (fun _ hk => hk.2) (.int .i64 ((rd_T53 l0 x12_1).f1))) (fun _ hk => hk.2) (.string ((rd_T53 l0 x12_1).f2))) (fun _ hk => hk.2) (.string ((rd_T53 l0 x12_1).f3))) (fun _ hk => hk.2) (.string ((rd_T53 l0 x12_1).f4))) (fun _ hk => hk.2) (.slice A145_5 ((rd_T53 l0 x12_1).f5).length c145_5)) (fun _ hk => ⟨hk.1.1.1, ⟨hk.1.1.2, hk.1.2⟩⟩)))⟩; have n1_ : Aside0 (Kd.R (Kd.int .i64) 3 w32 w.heap.size (fun k_ => (w.heap.size ≤ k_)) v143 x3_1) := ⟨(by rw [hw]; exact (by (with_reducible repeat (first | apply Kd.R_alloc | apply Kd.R_drewN | apply Kd.R_drew)); exact Kd.R_mono (Kd.R_far (p := ⟨gb146, 5, none⟩) (Kd.R_far (p := ⟨gb146, 4, none⟩) (Kd.R_far (p := ⟨gb146, 3, none⟩) (Kd.R_far (p := ⟨gb146, 2, none⟩) (Kd.R_far (p := ⟨gb146, 1, none⟩) (Kd.R_far (p := ⟨gb146, 0, none⟩) (Kd.R_types HO_3.out BK146.out (by decide)) (fun _ hk => hk.2) (.int .i64 ((rd_T53 l0 x12_1).f0))) (fun _ hk => hk.2) (.int .i64 ((rd_T53 l0 x12_1).f1))) (fun _ hk => hk.2) (.string ((rd_T53 l0 x12_1).f2))) (fun _ hk => hk.2) (.string ((rd_T53 l0 x12_1).f3))) (fun _ hk => hk.2) (.string ((rd_T53 l0 x12_1).f4))) (fun _ hk => hk.2) (.slice A145_5 ((rd_T53 l0 x12_1).f5).length c145_5)) (fun _ hk => hk.1)))⟩; have n2_ : Aside0 (Kd.V k53 53 w32 w.heap.size (fun k_ => (P0_ k_ ∨ w.heap.size ≤ k_) ∧ some k_ ≠ (v143 : Value).ownBlock ∧ k_ ≠ gb146) (.slice (some ad145) l0.length c0) l0) := ⟨(by rw [hw]; exact (by (with_reducible repeat (first | apply Kd.V_alloc | apply Kd.V_drewN | apply Kd.V_drew)); exact Kd.V_mono (Kd.V_far (p := ⟨gb146, 5, none⟩) (Kd.V_far (p := ⟨gb146, 4, none⟩) (Kd.V_far (p := ⟨gb146, 3, none⟩) (Kd.V_far (p := ⟨gb146, 2, none⟩) (Kd.V_far (p := ⟨gb146, 1, none⟩) (Kd.V_far (p := ⟨gb146, 0, none⟩) (Kd.V_mono HO_10.out (fun k_ hk => (⟨hk, hk.2⟩ : _ ∧ k_ ≠ gb146))) (fun _ hk => hk.2) (.int .i64 ((rd_T53 l0 x12_1).f0))) (fun _ hk => hk.2) (.int .i64 ((rd_T53 l0 x12_1).f1))) (fun _ hk => hk.2) (.string ((rd_T53 l0 x12_1).f2))) (fun _ hk => hk.2) (.string ((rd_T53 l0 x12_1).f3))) (fun _ hk => hk.2) (.string ((rd_T53 l0 x12_1).f4))) (fun _ hk => hk.2) (.slice A145_5 ((rd_T53 l0 x12_1).f5).length c145_5)) (fun _ hk => ⟨hk.1.1.1, ⟨hk.1.1.2, hk.1.2⟩⟩)))⟩; have n3_ : Aside0 (Kd.V k69 69 w32 w.heap.size (fun k_ => (P0_ k_ ∨ w.heap.size ≤ k_) ∧ some k_ ≠ (v143 : Value).ownBlock ∧ k_ ≠ gb146) (.slice A145_5 ((rd_T53 l0 x12_1).f5).length c145_5) ((rd_T53 l0 x12_1).f5)) := ⟨(by rw [hw]; exact (by (with_reducible repeat (first | apply Kd.V_alloc | apply Kd.V_drewN | apply Kd.V_drew)); exact Kd.V_mono (Kd.V_far (p := ⟨gb146, 5, none⟩) (Kd.V_far (p := ⟨gb146, 4, none⟩) (Kd.V_far (p := ⟨gb146, 3, none⟩) (Kd.V_far (p := ⟨gb146, 2, none⟩) (Kd.V_far (p := ⟨gb146, 1, none⟩) (Kd.V_far (p := ⟨gb146, 0, none⟩) (Kd.V_mono HL145_5.out (fun k_ hk => (⟨hk, hk.2⟩ : _ ∧ k_ ≠ gb146))) (fun _ hk => hk.2) (.int .i64 ((rd_T53 l0 x12_1).f0))) (fun _ hk => hk.2) (.int .i64 ((rd_T53 l0 x12_1).f1))) (fun _ hk => hk.2) (.string ((rd_T53 l0 x12_1).f2))) (fun _ hk => hk.2) (.string ((rd_T53 l0 x12_1).f3))) (fun _ hk => hk.2) (.string ((rd_T53 l0 x12_1).f4))) (fun _ hk => hk.2) (.slice A145_5 ((rd_T53 l0 x12_1).f5).length c145_5)) (fun _ hk => ⟨hk.1.1.1, ⟨hk.1.1.2, hk.1.2⟩⟩)))⟩; have n4_ : Aside0 (w32.heap[gb146]? = some (.cells #[.int .i64 ((rd_T53 l0 x12_1).f0), .int .i64 ((rd_T53 l0 x12_1).f1), .string ((rd_T53 l0 x12_1).f2), .string ((rd_T53 l0 x12_1).f3), .string ((rd_T53 l0 x12_1).f4), .slice A145_5 ((rd_T53 l0 x12_1).f5).length c145_5] 53 (0, 0))) := ⟨(by rw [hw]; exact (by (with_reducible repeat first | apply zM | apply zE | apply zF); refine zP (cs := #[.int .i64 ((rd_T53 l0 x12_1).f0), .int .i64 ((rd_T53 l0 x12_1).f1), .string ((rd_T53 l0 x12_1).f2), .string ((rd_T53 l0 x12_1).f3), .string ((rd_T53 l0 x12_1).f4), .slice none 0 0]) ?_ 5 _ rfl; (with_reducible repeat first | apply zM | apply zE | apply zF); refine zP (cs := #[.int .i64 ((rd_T53 l0 x12_1).f0), .int .i64 ((rd_T53 l0 x12_1).f1), .string ((rd_T53 l0 x12_1).f2), .string ((rd_T53 l0 x12_1).f3), .string ⟨#[]⟩, .slice none 0 0]) ?_ 4 _ rfl; (with_reducible repeat first | apply zM | apply zE | apply zF); refine zP (cs := #[.int .i64 ((rd_T53 l0 x12_1).f0), .int .i64 ((rd_T53 l0 x12_1).f1), .string ((rd_T53 l0 x12_1).f2), .string ⟨#[]⟩, .string ⟨#[]⟩, .slice none 0 0]) ?_ 3 _ rfl; (with_reducible repeat first | apply zM | apply zE | apply zF); refine zP (cs := #[.int .i64 ((rd_T53 l0 x12_1).f0), .int .i64 ((rd_T53 l0 x12_1).f1), .string ⟨#[]⟩, .string ⟨#[]⟩, .string ⟨#[]⟩, .slice none 0 0]) ?_ 2 _ rfl; (with_reducible repeat first | apply zM | apply zE | apply zF); refine zP (cs := #[.int .i64 ((rd_T53 l0 x12_1).f0), .int .i64 0, .string ⟨#[]⟩, .string ⟨#[]⟩, .string ⟨#[]⟩, .slice none 0 0]) ?_ 1 _ rfl; (with_reducible repeat first | apply zM | apply zE | apply zF); refine zP (cs := #[.int .i64 0, .int .i64 0, .string ⟨#[]⟩, .string ⟨#[]⟩, .string ⟨#[]⟩, .slice none 0 0]) ?_ 0 _ rfl; (with_reducible repeat first | apply zM | apply zE | apply zF); exact BK146.out))⟩; have n5_ : Aside0 (Below w.heap.size w w32) := ⟨(by rw [hw]; exact (by with_reducible repeat first | exact HB.out | apply zA | apply zN | apply zD | refine zS ?_ GE146.out))⟩; clear hw; clear HO_0; clear HO_3; clear HO_10; clear HL145_5; clear BK146; clear HB; have HO_0 := n0_; have HO_3 := n1_; have HO_10 := n2_; have HL145_5 := n3_; have BK146 := n4_; have HB := n5_; clear n0_ n1_ n2_ n3_ n4_ n5_; obtain ⟨hcz33_0, hcz33_1, hcz33_2, hcz33_3, hcz33_4, hcz33_5, hfz33_0, hfz33_1, hfz33_2, hfz33_3, hfz33_4, hfz33_5⟩ := zc6 BK146.out; obtain ⟨Ao34, co34, eo34⟩ := Kd.R_slice HO_3.out; subst eo34; have p147 : 0 ≤ (((rd_T53 l0 x12_1).f1) : Int) := zo (by assumption); have q147 : ((rd_T53 l0 x12_1).f1) < (x3_1.length : Int) := zo (by assumption); obtain ⟨ad147, e147, hx147_0⟩ := Kd.at_int (Kd.R_reads' HO_3.out).2.2 ((rd_T53 l0 x12_1).f1) p147 q147; cases e147; replace p147 := eq_true p147; replace q147 := eq_true q147; have p15 : 0 ≤ ((ji12) : Int) := zo (by assumption); have q15 : ((ji12) : Int) < ((x3_1.length : Int) : Int) := zo (by assumption); obtain ⟨go15, co15, eo15, gb15, gl15, cl15, HG15⟩ := Kd.R_form HO_3.out (by omega); (first | cases eo15 | (injection eo15 with ea_ en_ ec_; (first | subst ea_ | (injection ea_ with ea_; subst ea_)); subst ec_; clear en_)); have GB15 := zk gb15; have GG15 := zk HG15; clear gb15 gl15 HG15; (first | simp only [add_plain] at hx147_0 | skip); obtain ⟨hx15_0, hf15_0⟩ := Kd.R_celln 0 HO_3.out ((ji12) : Int) p15 q15; replace p15 := eq_true p15; replace q15 := eq_true q15; obtain ⟨hy35_, hz35_⟩ := Kd.R_celln 0 HO_3.out ((ji12) : Int) (zo (by assumption)) (zo (by assumption)); have HP35 := Kd.R_putg HO_3.out ((ji12) : Int) (wrap64 ((rd x3_1 ((rd_T53 l0 x12_1).f1)) + 1))) | ((with_reducible refine gw (t := 3) (p := 26) rfl ?_); refine store_event (t := 3) (p := 26) (v := ?vo_w36) (w1 := (w32.setCell ⟨go15, ((ji12) : Int).toNat, none⟩ (.int .i64 (wrap64 ((rd x3_1 ((rd_T53 l0 x12_1).f1)) + 1))))) ?hg ?ho ?hn ?hr ?_; (case ho => rfl); (case hg => rfl); (case hn => rfl); (case hr => go_simp; first | done | rfl); intro w36 hw; have hg : w32.grownBy w36 (some go15) := (by rw [hw]; exact HP35.2); have hp_ : Kd.R (Kd.int .i64) 3 w36 w.heap.size (fun k_ => (w.heap.size ≤ k_)) (.slice (some ⟨go15, 0, none⟩) x3_1.length co34) y148 := (by rw [hw, Ny148.out]; exact HP35.1); clear HP35; have n0_ := zk (Kd.V_afterv (v := (.slice (some ⟨go15, 0, none⟩) x3_1.length co34)) (v1 := (.slice (some ⟨go15, 0, none⟩) x3_1.length co34)) (ok := (fun k_ => (P0_ k_ ∨ w.heap.size ≤ k_) ∧ k_ ≠ gb146)) (by (with_reducible repeat (first | apply Kd.V_alloc | apply Kd.V_drewN | apply Kd.V_drew)); exact Kd.V_mono HO_0.out (fun _ hk => ⟨⟨hk.1, hk.2.2⟩, hk.2.1⟩)) hg (.inl rfl)); have n1_ := zk (hp_); have n2_ := zk (Kd.V_afterv (v := (.slice (some ⟨go15, 0, none⟩) x3_1.length co34)) (v1 := (.slice (some ⟨go15, 0, none⟩) x3_1.length co34)) (ok := (fun k_ => (P0_ k_ ∨ w.heap.size ≤ k_) ∧ k_ ≠ gb146)) (by (with_reducible repeat (first | apply Kd.V_alloc | apply Kd.V_drewN | apply Kd.V_drew)); exact Kd.V_mono HO_10.out (fun _ hk => ⟨⟨hk.1, hk.2.2⟩, hk.2.1⟩)) hg (.inl rfl)); have n3_ := zk (Kd.V_afterv (v := (.slice (some ⟨go15, 0, none⟩) x3_1.length co34)) (v1 := (.slice (some ⟨go15, 0, none⟩) x3_1.length co34)) (ok := (fun k_ => (P0_ k_ ∨ w.heap.size ≤ k_) ∧ k_ ≠ gb146)) (by (with_reducible repeat (first | apply Kd.V_alloc | apply Kd.V_drewN | apply Kd.V_drew)); exact Kd.V_mono HL145_5.out (fun _ hk => ⟨⟨hk.1, hk.2.2⟩, hk.2.1⟩)) hg (.inl rfl)); have n4_ := zk (blk_grown (g := gb146) (o := .cells #[.int .i64 ((rd_T53 l0 x12_1).f0), .int .i64 ((rd_T53 l0 x12_1).f1), .string ((rd_T53 l0 x12_1).f2), .string ((rd_T53 l0 x12_1).f3), .string ((rd_T53 l0 x12_1).f4), .slice A145_5 ((rd_T53 l0 x12_1).f5).length c145_5] 53 (0, 0)) (by (with_reducible repeat first | apply zM | apply zE | apply zF); exact BK146.out) hg (Kd.R_ne HO_3.out BK146.out (by decide))); have n5_ := zk ((by rw [hw]; exact zS (HB.out) GB15.out : Below w.heap.size w w36)); clear HO_0; clear HO_3; clear HO_10; clear HL145_5; clear BK146; clear HB; have HO_0 := n0_; have HO_3 := n1_; have HO_10 := n2_; have HL145_5 := n3_; have BK146 := n4_; have HB := n5_; clear n0_ n1_ n2_ n3_ n4_ n5_; clear hg hw hp_; have p149 : 0 ≤ ((ji12) : Int) := zo (by assumption); have q149 : (ji12) < (y148.length : Int) := (by have h_ : ((ji12) : Int) < ((x3_1.length : Int) : Int) := zo (by assumption); first | (have e_ := (Kd.R_reads' HO_3.out).1; omega) | simpa only [Ny148.out, List.length_set] using h_); have ql149 : (((ji12) : Int) < ((x3_1.length : Int) : Int)) = True := eq_true (zo (by assumption)); obtain ⟨ad149, e149, hx149_0⟩ := Kd.at_int (Kd.R_reads' HO_3.out).2.2 (ji12) p149 q149; obtain rfl : (⟨go15, 0, none⟩ : Addr) = ad149 := (by injection e149); (first | simp only [add_plain] at hx149_0 | simp only [add_at] at hx149_0 | simp only [Addr.add, Nat.zero_add] at hx149_0 | skip); replace p149 := eq_true p149; replace q149 := eq_true q149; have q37 : ((ji12) : Int) ≤ ((l0.length : Int) : Int) := zo (by assumption); obtain ⟨i037, hi037, _, hsz37, _⟩ := info_parts info53; have hroom37 : l0.length ≤ c0 := (Kd.V_reads' HO_0.out).2.1; have hC37 : Kd.F k53 _ _ (some ad145) l0.length l0 := (Kd.V_at (base := w.heap.size) HO_0.out).2.2; have hcut37 := cut_to (P := Try.prog) 28 53 .i64 Try.underlying28 hi037 (some ad145) l0.length c0 (ji12) (zo (by assumption)) q37 hroom37; have hr37 := Kd.F_take (m := ((ji12) : Int).toNat) hC37 (by omega); have hy37 : y155.length = ((ji12) : Int).toNat := (by rw [Ny155.out, List.length_take]; omega); rw [← Ny155.out] at hr37; rw [← hy37] at hcut37; have HO159 := zk (show Kd.V k53 53 _ w.heap.size _ (.slice (some ad145) y155.length c0) y155 from Kd.V_mk (by omega) hr37); have HC159 := zk (show y155.length ≤ c0 from by omega); clear hr37 hC37 hroom37 hi037 hsz37; have KY37 := zk hy37; clear hy37; replace q37 := eq_true q37))
               go_ret; exact ⟨_, by first | rfl | (simp [wN, wS] <;> rfl) | (simp only [← hji2, ← hji12]; first | rfl | (simp [wN, wS] <;> rfl)) | (simp [*, wN, wS] <;> rfl), by (with_reducible repeat (first | apply Kd.V_alloc | apply Kd.V_drewN | apply Kd.V_drew)); exact Kd.V_mono HO159.out (fun _ hk => hk.1.1), by with_reducible repeat first | exact HB.out | apply zA | apply zN | apply zD | refine zS ?_ GE146.out⟩
              ·
               rw [if_neg c29] at H; exact absurd H (by simp)
             ·
              rw [if_neg c27] at H; have c27b0 := beq_eq_false_iff_ne.mpr c27; have c27b1 := bne_iff_ne.mpr c27; have H' := zk H; clear H; have p145 : 0 ≤ (x12_1 : Int) := zo (by assumption); have q145 : x12_1 < (l0.length : Int) := zo (by assumption); obtain ⟨ad145, A145_5, c145_5, e145, hx145_0, hx145_1, hx145_2, hx145_3, hx145_4, hx145_5, hl145_5, hi145_5⟩ := at_T53 (Kd.V_reads' HO_10.out).2.2 x12_1 p145 q145; cases e145; obtain ⟨ce145, hce145, hMe145, hcc145⟩ := Kd.V_get HO_10.out z53 x12_1 p145 (by first | exact q145 | exact zo (by assumption) | (have e_ := (Kd.V_reads' HO_10.out).1; omega)); obtain ⟨ua145_5, uc145_5, rfl, ul145_5, ge145_5⟩ := k53_openF hMe145; have hv145_5 := hcc145 5 _ rfl; rw [add_field _ _ 5 (by omega)] at hv145_5; replace hv145_5 := Option.some.inj (hv145_5.symm.trans hx145_5); injection hv145_5 with hva_ hvn_ hvc_; rw [hva_] at ge145_5; rw [hvc_] at ul145_5; have HL145_5 := zk (show Kd.V k69 69 _ w.heap.size _ _ ((rd_T53 l0 x12_1).f5) from Kd.V_mk ul145_5 ge145_5); clear hva_ hvn_ hvc_ ge145_5 ul145_5; clear hcc145 hce145; have HR145_5 := zk hi145_5; have HC145_5 := zk hl145_5; clear hi145_5 hl145_5; replace p145 := eq_true p145; replace q145 := eq_true q145
              go_wp2_with (first | ((with_reducible refine gd (N := 5) rfl ?_); refine zb ?hg (N := 5) ?hd (cs := #[.int .i64 0, .int .i64 0, .string ⟨#[]⟩, .string ⟨#[]⟩, .string ⟨#[]⟩, .slice none 0 0]) (t := 53) ?hr ?_; (case hd => rfl); (case hg => rfl); (case hr => go_simp; first | done | rfl); intro gb146 hg w38 hbox hb; have n0_ := zk (Kd.V_below (Kd.V_elderB (by (with_reducible repeat (first | apply Kd.V_alloc | apply Kd.V_drewN | apply Kd.V_drew)); exact HO_0.out) gb146 (Nat.le_of_eq hg.symm)) hb); have n1_ := zk (Kd.R_below (by (with_reducible repeat (first | apply Kd.R_alloc | apply Kd.R_drewN | apply Kd.R_drew)); exact HO_3.out) hb); have n2_ := zk (Kd.V_below (Kd.V_elderB (by (with_reducible repeat (first | apply Kd.V_alloc | apply Kd.V_drewN | apply Kd.V_drew)); exact HO_10.out) gb146 (Nat.le_of_eq hg.symm)) hb); have n3_ := zk (Kd.V_below (Kd.V_elderB (by (with_reducible repeat (first | apply Kd.V_alloc | apply Kd.V_drewN | apply Kd.V_drew)); exact HL145_5.out) gb146 (Nat.le_of_eq hg.symm)) hb); have n4_ := zk (Kd.C_below (by repeat (first | (with_reducible exact HR145_5.out) | (with_reducible refine Kd.C_alloc ?_ _) | (with_reducible refine Kd.C_drewN ?_ _) | (with_reducible refine Kd.C_drew ?_) | exact HR145_5.out)) hb); have n5_ := zk (zs (by with_reducible repeat first | exact HB.out | apply zA | apply zN | apply zD) hb); have n6_ := zk (hbox); have n7_ := zk ((by rw [hg]; exact (zq (by with_reducible repeat first | exact HB.out | apply zA | apply zN | apply zD)) : w.heap.size ≤ gb146)); have n8_ := n7_; clear HO_0; clear HO_3; clear HO_10; clear HL145_5; clear HR145_5; clear HB; have HO_0 := n0_; have HO_3 := n1_; have HO_10 := n2_; have HL145_5 := n3_; have HR145_5 := n4_; have HB := n5_; have BK146 := n6_; have GW146 := n7_; have GE146 := n8_; clear n0_ n1_ n2_ n3_ n4_ n5_ n6_ n7_ n8_; clear hb hbox hg; obtain ⟨hcz39_0, hcz39_1, hcz39_2, hcz39_3, hcz39_4, hcz39_5, hfz39_0, hfz39_1, hfz39_2, hfz39_3, hfz39_4, hfz39_5⟩ := zc6 BK146.out) | ((with_reducible refine gw (t := 53) (p := 5) rfl ?_); refine store_event (t := 53) (p := 5) (v := ?vo_w40) (w1 := ((((((w38.setCell ⟨gb146, 0, none⟩ (.int .i64 ((rd_T53 l0 x12_1).f0))).setCell ⟨gb146, 1, none⟩ (.int .i64 ((rd_T53 l0 x12_1).f1))).setCell ⟨gb146, 2, none⟩ (.string ((rd_T53 l0 x12_1).f2))).setCell ⟨gb146, 3, none⟩ (.string ((rd_T53 l0 x12_1).f3))).setCell ⟨gb146, 4, none⟩ (.string ((rd_T53 l0 x12_1).f4))).setCell ⟨gb146, 5, none⟩ (.slice A145_5 ((rd_T53 l0 x12_1).f5).length c145_5))) ?hg ?ho ?hn ?hr ?_; (case ho => rfl); (case hg => rfl); (case hn => rfl); (case hr => go_simp; first | done | rfl); intro w40 hw; have n0_ : Aside0 (Kd.V k53 53 w40 w.heap.size (fun k_ => (P0_ k_ ∨ w.heap.size ≤ k_) ∧ some k_ ≠ (v143 : Value).ownBlock ∧ k_ ≠ gb146) (.slice (some ad145) l0.length c0) l0) := ⟨(by rw [hw]; exact (by (with_reducible repeat (first | apply Kd.V_alloc | apply Kd.V_drewN | apply Kd.V_drew)); exact Kd.V_mono (Kd.V_far (p := ⟨gb146, 5, none⟩) (Kd.V_far (p := ⟨gb146, 4, none⟩) (Kd.V_far (p := ⟨gb146, 3, none⟩) (Kd.V_far (p := ⟨gb146, 2, none⟩) (Kd.V_far (p := ⟨gb146, 1, none⟩) (Kd.V_far (p := ⟨gb146, 0, none⟩) (Kd.V_mono HO_0.out (fun k_ hk => (⟨hk, hk.2⟩ : _ ∧ k_ ≠ gb146))) (fun _ hk => hk.2) (.int .i64 ((rd_T53 l0 x12_1).f0))) (fun _ hk => hk.2) (.int .i64 ((rd_T53 l0 x12_1).f1))) (fun _ hk => hk.2) (.string ((rd_T53 l0 x12_1).f2))) (fun _ hk => hk.2) (.string ((rd_T53 l0 x12_1).f3))) (fun _ hk => hk.2) (.string ((rd_T53 l0 x12_1).f4))) (fun _ hk => hk.2) (.slice A145_5 ((rd_T53 l0 x12_1).f5).length c145_5)) (fun _ hk => ⟨hk.1.1.1, ⟨hk.1.1.2, hk.1.2⟩⟩)))⟩; have n1_ : Aside0 (Kd.R (Kd.int .i64) 3 w40 w.heap.size (fun k_ => (w.heap.size ≤ k_)) v143 x3_1) := ⟨(by rw [hw]; exact (by (with_reducible repeat (first | apply Kd.R_alloc | apply Kd.R_drewN | apply Kd.R_drew)); exact Kd.R_mono (Kd.R_far (p := ⟨gb146, 5, none⟩) (Kd.R_far (p := ⟨gb146, 4, none⟩) (Kd.R_far (p := ⟨gb146, 3, none⟩) (Kd.R_far (p := ⟨gb146, 2, none⟩) (Kd.R_far (p := ⟨gb146, 1, none⟩) (Kd.R_far (p := ⟨gb146, 0, none⟩) (Kd.R_types HO_3.out BK146.out (by decide)) (fun _ hk => hk.2) (.int .i64 ((rd_T53 l0 x12_1).f0))) (fun _ hk => hk.2) (.int .i64 ((rd_T53 l0 x12_1).f1))) (fun _ hk => hk.2) (.string ((rd_T53 l0 x12_1).f2))) (fun _ hk => hk.2) (.string ((rd_T53 l0 x12_1).f3))) (fun _ hk => hk.2) (.string ((rd_T53 l0 x12_1).f4))) (fun _ hk => hk.2) (.slice A145_5 ((rd_T53 l0 x12_1).f5).length c145_5)) (fun _ hk => hk.1)))⟩; have n2_ : Aside0 (Kd.V k53 53 w40 w.heap.size (fun k_ => (P0_ k_ ∨ w.heap.size ≤ k_) ∧ some k_ ≠ (v143 : Value).ownBlock ∧ k_ ≠ gb146) (.slice (some ad145) l0.length c0) l0) := ⟨(by rw [hw]; exact (by (with_reducible repeat (first | apply Kd.V_alloc | apply Kd.V_drewN | apply Kd.V_drew)); exact Kd.V_mono (Kd.V_far (p := ⟨gb146, 5, none⟩) (Kd.V_far (p := ⟨gb146, 4, none⟩) (Kd.V_far (p := ⟨gb146, 3, none⟩) (Kd.V_far (p := ⟨gb146, 2, none⟩) (Kd.V_far (p := ⟨gb146, 1, none⟩) (Kd.V_far (p := ⟨gb146, 0, none⟩) (Kd.V_mono HO_10.out (fun k_ hk => (⟨hk, hk.2⟩ : _ ∧ k_ ≠ gb146))) (fun _ hk => hk.2) (.int .i64 ((rd_T53 l0 x12_1).f0))) (fun _ hk => hk.2) (.int .i64 ((rd_T53 l0 x12_1).f1))) (fun _ hk => hk.2) (.string ((rd_T53 l0 x12_1).f2))) (fun _ hk => hk.2) (.string ((rd_T53 l0 x12_1).f3))) (fun _ hk => hk.2) (.string ((rd_T53 l0 x12_1).f4))) (fun _ hk => hk.2) (.slice A145_5 ((rd_T53 l0 x12_1).f5).length c145_5)) (fun _ hk => ⟨hk.1.1.1, ⟨hk.1.1.2, hk.1.2⟩⟩)))⟩; have n3_ : Aside0 (Kd.V k69 69 w40 w.heap.size (fun k_ => (P0_ k_ ∨ w.heap.size ≤ k_) ∧ some k_ ≠ (v143 : Value).ownBlock ∧ k_ ≠ gb146) (.slice A145_5 ((rd_T53 l0 x12_1).f5).length c145_5) ((rd_T53 l0 x12_1).f5)) := ⟨(by rw [hw]; exact (by (with_reducible repeat (first | apply Kd.V_alloc | apply Kd.V_drewN | apply Kd.V_drew)); exact Kd.V_mono (Kd.V_far (p := ⟨gb146, 5, none⟩) (Kd.V_far (p := ⟨gb146, 4, none⟩) (Kd.V_far (p := ⟨gb146, 3, none⟩) (Kd.V_far (p := ⟨gb146, 2, none⟩) (Kd.V_far (p := ⟨gb146, 1, none⟩) (Kd.V_far (p := ⟨gb146, 0, none⟩) (Kd.V_mono HL145_5.out (fun k_ hk => (⟨hk, hk.2⟩ : _ ∧ k_ ≠ gb146))) (fun _ hk => hk.2) (.int .i64 ((rd_T53 l0 x12_1).f0))) (fun _ hk => hk.2) (.int .i64 ((rd_T53 l0 x12_1).f1))) (fun _ hk => hk.2) (.string ((rd_T53 l0 x12_1).f2))) (fun _ hk => hk.2) (.string ((rd_T53 l0 x12_1).f3))) (fun _ hk => hk.2) (.string ((rd_T53 l0 x12_1).f4))) (fun _ hk => hk.2) (.slice A145_5 ((rd_T53 l0 x12_1).f5).length c145_5)) (fun _ hk => ⟨hk.1.1.1, ⟨hk.1.1.2, hk.1.2⟩⟩)))⟩; have n4_ : Aside0 (w40.heap[gb146]? = some (.cells #[.int .i64 ((rd_T53 l0 x12_1).f0), .int .i64 ((rd_T53 l0 x12_1).f1), .string ((rd_T53 l0 x12_1).f2), .string ((rd_T53 l0 x12_1).f3), .string ((rd_T53 l0 x12_1).f4), .slice A145_5 ((rd_T53 l0 x12_1).f5).length c145_5] 53 (0, 0))) := ⟨(by rw [hw]; exact (by (with_reducible repeat first | apply zM | apply zE | apply zF); refine zP (cs := #[.int .i64 ((rd_T53 l0 x12_1).f0), .int .i64 ((rd_T53 l0 x12_1).f1), .string ((rd_T53 l0 x12_1).f2), .string ((rd_T53 l0 x12_1).f3), .string ((rd_T53 l0 x12_1).f4), .slice none 0 0]) ?_ 5 _ rfl; (with_reducible repeat first | apply zM | apply zE | apply zF); refine zP (cs := #[.int .i64 ((rd_T53 l0 x12_1).f0), .int .i64 ((rd_T53 l0 x12_1).f1), .string ((rd_T53 l0 x12_1).f2), .string ((rd_T53 l0 x12_1).f3), .string ⟨#[]⟩, .slice none 0 0]) ?_ 4 _ rfl; (with_reducible repeat first | apply zM | apply zE | apply zF); refine zP (cs := #[.int .i64 ((rd_T53 l0 x12_1).f0), .int .i64 ((rd_T53 l0 x12_1).f1), .string ((rd_T53 l0 x12_1).f2), .string ⟨#[]⟩, .string ⟨#[]⟩, .slice none 0 0]) ?_ 3 _ rfl; (with_reducible repeat first | apply zM | apply zE | apply zF); refine zP (cs := #[.int .i64 ((rd_T53 l0 x12_1).f0), .int .i64 ((rd_T53 l0 x12_1).f1), .string ⟨#[]⟩, .string ⟨#[]⟩, .string ⟨#[]⟩, .slice none 0 0]) ?_ 2 _ rfl; (with_reducible repeat first | apply zM | apply zE | apply zF); refine zP (cs := #[.int .i64 ((rd_T53 l0 x12_1).f0), .int .i64 0, .string ⟨#[]⟩, .string ⟨#[]⟩, .string ⟨#[]⟩, .slice none 0 0]) ?_ 1 _ rfl; (with_reducible repeat first | apply zM | apply zE | apply zF); refine zP (cs := #[.int .i64 0, .int .i64 0, .string ⟨#[]⟩, .string ⟨#[]⟩, .string ⟨#[]⟩, .slice none 0 0]) ?_ 0 _ rfl; (with_reducible repeat first | apply zM | apply zE | apply zF); exact BK146.out))⟩; have n5_ : Aside0 (Below w.heap.size w w40) := ⟨(by rw [hw]; exact (by with_reducible repeat first | exact HB.out | apply zA | apply zN | apply zD | refine zS ?_ GE146.out))⟩; clear hw; clear HO_0; clear HO_3; clear HO_10; clear HL145_5; clear BK146; clear HB; have HO_0 := n0_; have HO_3 := n1_; have HO_10 := n2_; have HL145_5 := n3_; have BK146 := n4_; have HB := n5_; clear n0_ n1_ n2_ n3_ n4_ n5_; obtain ⟨hcz41_0, hcz41_1, hcz41_2, hcz41_3, hcz41_4, hcz41_5, hfz41_0, hfz41_1, hfz41_2, hfz41_3, hfz41_4, hfz41_5⟩ := zc6 BK146.out; obtain ⟨Ao42, co42, eo42⟩ := Kd.R_slice HO_3.out; subst eo42; have p147 : 0 ≤ (((rd_T53 l0 x12_1).f1) : Int) := zo (by assumption); have q147 : ((rd_T53 l0 x12_1).f1) < (x3_1.length : Int) := zo (by assumption); obtain ⟨ad147, e147, hx147_0⟩ := Kd.at_int (Kd.R_reads' HO_3.out).2.2 ((rd_T53 l0 x12_1).f1) p147 q147; cases e147; replace p147 := eq_true p147; replace q147 := eq_true q147; have p15 : 0 ≤ ((ji12) : Int) := zo (by assumption); have q15 : ((ji12) : Int) < ((x3_1.length : Int) : Int) := zo (by assumption); obtain ⟨go15, co15, eo15, gb15, gl15, cl15, HG15⟩ := Kd.R_form HO_3.out (by omega); (first | cases eo15 | (injection eo15 with ea_ en_ ec_; (first | subst ea_ | (injection ea_ with ea_; subst ea_)); subst ec_; clear en_)); have GB15 := zk gb15; have GG15 := zk HG15; clear gb15 gl15 HG15; (first | simp only [add_plain] at hx147_0 | skip); obtain ⟨hx15_0, hf15_0⟩ := Kd.R_celln 0 HO_3.out ((ji12) : Int) p15 q15; replace p15 := eq_true p15; replace q15 := eq_true q15; obtain ⟨hy43_, hz43_⟩ := Kd.R_celln 0 HO_3.out ((ji12) : Int) (zo (by assumption)) (zo (by assumption)); have HP43 := Kd.R_putg HO_3.out ((ji12) : Int) (wrap64 ((rd x3_1 ((rd_T53 l0 x12_1).f1)) + 1))) | ((with_reducible refine gw (t := 3) (p := 26) rfl ?_); refine store_event (t := 3) (p := 26) (v := ?vo_w44) (w1 := (w40.setCell ⟨go15, ((ji12) : Int).toNat, none⟩ (.int .i64 (wrap64 ((rd x3_1 ((rd_T53 l0 x12_1).f1)) + 1))))) ?hg ?ho ?hn ?hr ?_; (case ho => rfl); (case hg => rfl); (case hn => rfl); (case hr => go_simp; first | done | rfl); intro w44 hw; have hg : w40.grownBy w44 (some go15) := (by rw [hw]; exact HP43.2); have hp_ : Kd.R (Kd.int .i64) 3 w44 w.heap.size (fun k_ => (w.heap.size ≤ k_)) (.slice (some ⟨go15, 0, none⟩) x3_1.length co42) y148 := (by rw [hw, Ny148.out]; exact HP43.1); clear HP43; have n0_ := zk (Kd.V_afterv (v := (.slice (some ⟨go15, 0, none⟩) x3_1.length co42)) (v1 := (.slice (some ⟨go15, 0, none⟩) x3_1.length co42)) (ok := (fun k_ => (P0_ k_ ∨ w.heap.size ≤ k_) ∧ k_ ≠ gb146)) (by (with_reducible repeat (first | apply Kd.V_alloc | apply Kd.V_drewN | apply Kd.V_drew)); exact Kd.V_mono HO_0.out (fun _ hk => ⟨⟨hk.1, hk.2.2⟩, hk.2.1⟩)) hg (.inl rfl)); have n1_ := zk (hp_); have n2_ := zk (Kd.V_afterv (v := (.slice (some ⟨go15, 0, none⟩) x3_1.length co42)) (v1 := (.slice (some ⟨go15, 0, none⟩) x3_1.length co42)) (ok := (fun k_ => (P0_ k_ ∨ w.heap.size ≤ k_) ∧ k_ ≠ gb146)) (by (with_reducible repeat (first | apply Kd.V_alloc | apply Kd.V_drewN | apply Kd.V_drew)); exact Kd.V_mono HO_10.out (fun _ hk => ⟨⟨hk.1, hk.2.2⟩, hk.2.1⟩)) hg (.inl rfl)); have n3_ := zk (Kd.V_afterv (v := (.slice (some ⟨go15, 0, none⟩) x3_1.length co42)) (v1 := (.slice (some ⟨go15, 0, none⟩) x3_1.length co42)) (ok := (fun k_ => (P0_ k_ ∨ w.heap.size ≤ k_) ∧ k_ ≠ gb146)) (by (with_reducible repeat (first | apply Kd.V_alloc | apply Kd.V_drewN | apply Kd.V_drew)); exact Kd.V_mono HL145_5.out (fun _ hk => ⟨⟨hk.1, hk.2.2⟩, hk.2.1⟩)) hg (.inl rfl)); have n4_ := zk (blk_grown (g := gb146) (o := .cells #[.int .i64 ((rd_T53 l0 x12_1).f0), .int .i64 ((rd_T53 l0 x12_1).f1), .string ((rd_T53 l0 x12_1).f2), .string ((rd_T53 l0 x12_1).f3), .string ((rd_T53 l0 x12_1).f4), .slice A145_5 ((rd_T53 l0 x12_1).f5).length c145_5] 53 (0, 0)) (by (with_reducible repeat first | apply zM | apply zE | apply zF); exact BK146.out) hg (Kd.R_ne HO_3.out BK146.out (by decide))); have n5_ := zk ((by rw [hw]; exact zS (HB.out) GB15.out : Below w.heap.size w w44)); clear HO_0; clear HO_3; clear HO_10; clear HL145_5; clear BK146; clear HB; have HO_0 := n0_; have HO_3 := n1_; have HO_10 := n2_; have HL145_5 := n3_; have BK146 := n4_; have HB := n5_; clear n0_ n1_ n2_ n3_ n4_ n5_; clear hg hw hp_; have p149 : 0 ≤ ((ji12) : Int) := zo (by assumption); have q149 : (ji12) < (y148.length : Int) := (by have h_ : ((ji12) : Int) < ((x3_1.length : Int) : Int) := zo (by assumption); first | (have e_ := (Kd.R_reads' HO_3.out).1; omega) | simpa only [Ny148.out, List.length_set] using h_); have ql149 : (((ji12) : Int) < ((x3_1.length : Int) : Int)) = True := eq_true (zo (by assumption)); obtain ⟨ad149, e149, hx149_0⟩ := Kd.at_int (Kd.R_reads' HO_3.out).2.2 (ji12) p149 q149; obtain rfl : (⟨go15, 0, none⟩ : Addr) = ad149 := (by injection e149); (first | simp only [add_plain] at hx149_0 | simp only [add_at] at hx149_0 | simp only [Addr.add, Nat.zero_add] at hx149_0 | skip); replace p149 := eq_true p149; replace q149 := eq_true q149))
              go_roundg k1
              case measure => have := HK1.out; omega
              case rel => exact ⟨(y148), (ji12), (by first | rfl | (simp; done) | (simp only [← hji12] <;> (first | rfl | simp)) | (simp [*]; done)), H', ⟨by have := HK1.out; omega⟩, ⟨by (with_reducible repeat (first | apply Kd.V_alloc | apply Kd.V_drewN | apply Kd.V_drew)); exact Kd.V_mono HO_0.out (fun _ hk => ⟨hk.1.1, hk.2⟩)⟩, ⟨by (with_reducible repeat (first | apply Kd.R_alloc | apply Kd.R_drewN | apply Kd.R_drew)); exact HO_3.out⟩, ⟨by (with_reducible repeat (first | apply Kd.V_alloc | apply Kd.V_drewN | apply Kd.V_drew)); exact Kd.V_mono HO_10.out (fun _ hk => ⟨hk.1.1, hk.2⟩)⟩, ⟨by with_reducible repeat first | exact HB.out | apply zA | apply zN | apply zD | refine zS ?_ GE146.out⟩⟩
           ·
            rw [if_neg c14] at H; exact absurd H (by simp)
          ·
           rw [if_neg c13] at H; exact absurd H (by simp)
         ·
          rw [if_neg c11] at H; exact absurd H (by simp)
        ·
         rw [if_neg c10] at H; exact absurd H (by simp)
       ·
        rw [if_neg c9] at H; exact absurd H (by simp)
      ·
       rw [if_neg c8] at H; exact absurd H (by simp)
     ·
      rw [if_neg c7] at H; have c7b0 : decide (x12_1 < (l0.length : Int)) = false := decide_eq_false c7; clear c7; obtain rfl := Option.some.inj H; go_wp2; go_ret; exact ⟨_, by first | rfl | (simp [wN, wS] <;> rfl) | (simp only [← hji2]; first | rfl | (simp [wN, wS] <;> rfl)) | (simp [*, wN, wS] <;> rfl), by (with_reducible repeat (first | apply Kd.V_alloc | apply Kd.V_drewN | apply Kd.V_drew)); exact Kd.V_mono HO_0.out (fun _ hk => hk.1), by with_reducible repeat first | exact HB.out | apply zA | apply zN | apply zD⟩
  ·
   rw [if_neg c4] at H; exact absurd H (by simp)
 ·
  rw [if_neg c3] at H; exact absurd H (by simp)
end Go.Proofs.Ytcebfldagnjddaa.G
namespace Go.Proofs.Ytcebfldagnjddaa.G
open Go.RowKit Go.Proofs.YtcebfldagnjddaaW.PrintWords Go.Proofs.YtcebfldagnjddaaW.PrintLast Go.Proofs.YtcebfldagnjddaaW.PrintMore
attribute [local go_sem] max2_int min2_int max_two min_two max_three min_three max_four min_four
set_option linter.unusedVariables false
set_option linter.unusedSimpArgs false
attribute [local go_sem high] eqA69
def pl_Attrs.l0 : Nat → List (S69) → List (S69) → Int → Int → Option (Bool)
  | 0, _, _, _, _ => none
  | k + 1, x0, x1, x12, x13 => if x13 < x12 then (if 0 ≤ x13 then (if x13 < (x0.length : Int) then (if x13 < (x1.length : Int) then (if (!((((rd_T69 x0 x13).f0).toList) == (((rd_T69 x1 x13).f0).toList)) || (!((((rd_T69 x0 x13).f1).toList) == (((rd_T69 x1 x13).f1).toList)))) = true then (some false) else (pl_Attrs.l0 k x0 x1 x12 (wrap64 (x13 + 1)))) else (none)) else (none)) else (none)) else (some true)
def pl_Attrs.f (k : Nat) (l0 : List (S69)) (l1 : List (S69)) : Option (Bool) := if (l0.length : Int) = (l1.length : Int) then (pl_Attrs.l0 k l0 l1 (l0.length : Int) 0) else (some false)
theorem pl_Attrs.mono_l : ∀ k, (∀ y0 y1 y2 y3, LeO (pl_Attrs.l0 k y0 y1 y2 y3) (pl_Attrs.l0 (k + 1) y0 y1 y2 y3))
  | 0 => fun _ _ _ _ r h => by simp [pl_Attrs.l0] at h
  | k + 1 => by
    have ih0 := pl_Attrs.mono_l k
    · intro y0 y1 y2 y3
      unfold pl_Attrs.l0
      with_reducible repeat' first | exact ih0 _ _ _ _ | exact LeO.refl _ | exact LeO.none _ | refine LeO.ite ?_ ?_ | refine LeO.bind ?_ (fun _ => ?_)
theorem pl_Attrs.mono : ∀ a0 a1 k, LeO (pl_Attrs.f k a0 a1) (pl_Attrs.f (k + 1) a0 a1) := by
  intro a0 a1 k; have ih0 := pl_Attrs.mono_l k; unfold pl_Attrs.f
  with_reducible repeat' first | exact ih0 _ _ _ _ | exact LeO.refl _ | exact LeO.none _ | refine LeO.ite ?_ ?_ | refine LeO.bind ?_ (fun _ => ?_)
set_option maxHeartbeats 8000000 in
set_option maxRecDepth 100000 in
theorem pl_Attrs.calls (k : Nat) (A0 : Option Addr) (c0 : Nat) (l0 : List (S69)) (A1 : Option Addr) (c1 : Nat) (l1 : List (S69)) (r : Bool) (w : World) (hr0 : Kd.C k69 w A0 l0.length l0) (hc0 : l0.length ≤ c0) (hr1 : Kd.C k69 w A1 l1.length l1) (hc1 : l1.length ≤ c1) (h : pl_Attrs.f k l0 l1 = some r) :
    Calls Try.prog 37 #[.slice A0 l0.length c0, .slice A1 l1.length c1] w fun e w' => e = .returned (.bool r) ∧ Drawn0 w w' := by
  have hu69 := Try.underlying69; have HR0 := zk hr0; have HC0 := zk hc0; clear hr0 hc0; have HR1 := zk hr1; have HC1 := zk hc1; clear hr1 hc1; have H : (if (l0.length : Int) = (l1.length : Int) then (pl_Attrs.l0 k l0 l1 (l0.length : Int) 0) else (some false)) = some r := h; clear h
  by_cases c3 : (l0.length : Int) = (l1.length : Int)
  · rw [if_pos c3] at H
    have c3b0 := beq_iff_eq.mpr c3
    have c3b1 := bne_eq_false_iff_eq.mpr c3
    have c3b2 : (l0.length == l1.length) = true := by first | simpa using c3 | (simp at c3 ⊢; omega)
    clear c3
    have H' := zk H
    clear H
    go_enter Try.func37, Try.ntmps37
    go_wp2
    repeat (go_quiet (fail); try go_wp2)
    go_loopg [13] k (fun kq v13 w' => ∃ (x13_1 : Int), v13 = .int .i64 x13_1 ∧ Aside0 (pl_Attrs.l0 kq l0 l1 (l0.length : Int) x13_1 = some r) ∧ Aside0 (kq ≤ k) ∧ Drawn0 w w')
    case atStart => exact ⟨(0), (by first | rfl | (simp; done) | (simp [*]; done)), H', ⟨Nat.le_refl _⟩, by repeat (first | exact Drawn0.refl _ | apply Drawn0.step)⟩
    case round =>
      clear H'; (try clear c1); (try clear p2); (try clear c3); (try clear c3b0); (try clear c3b1); (try clear c3b2); obtain ⟨x13_1, rfl, HA, HK1, ⟨m1, rfl⟩⟩ := hrel
      cases gk with
      | zero => exact absurd HA.out (by simp [pl_Attrs.l0])
      | succ k1 =>
        have H := HA.out; clear HA; simp only [pl_Attrs.l0] at H
        by_cases c4 : x13_1 < (l0.length : Int)
        · rw [if_pos c4] at H
          have c4b0 := decide_eq_true c4
          clear c4
          by_cases c5 : 0 ≤ x13_1
          · rw [if_pos c5] at H
            have c5b0 := decide_eq_true c5
            clear c5
            by_cases c6 : x13_1 < (l0.length : Int)
            · rw [if_pos c6] at H
              have c6b0 := decide_eq_true c6
              clear c6
              by_cases c7 : x13_1 < (l1.length : Int)
              · rw [if_pos c7] at H
                have c7b0 := decide_eq_true c7
                clear c7
                by_cases c8 : (!((((rd_T69 l0 x13_1).f0).toList) == (((rd_T69 l1 x13_1).f0).toList)) || (!((((rd_T69 l0 x13_1).f1).toList) == (((rd_T69 l1 x13_1).f1).toList)))) = true
                · rw [if_pos c8] at H
                  have c8b0 : (!((((rd_T69 l0 x13_1).f0).toList) == (((rd_T69 l1 x13_1).f0).toList)) || (!((((rd_T69 l0 x13_1).f1).toList) == (((rd_T69 l1 x13_1).f1).toList)))) = true := c8
                  clear c8
                  obtain rfl := Option.some.inj H
                  have p201 : 0 ≤ (x13_1 : Int) := zo (by assumption)
                  have q201 : x13_1 < (l0.length : Int) := zo (by assumption)
                  obtain ⟨ad201, e201, hx201_0, hx201_1⟩ := at_T69 HR0.out x13_1 p201 q201
                  cases e201
                  replace p201 := eq_true p201
                  replace q201 := eq_true q201
                  have p202 : 0 ≤ (x13_1 : Int) := zo (by assumption)
                  have q202 : x13_1 < (l1.length : Int) := zo (by assumption)
                  obtain ⟨ad202, e202, hx202_0, hx202_1⟩ := at_T69 HR1.out x13_1 p202 q202
                  cases e202
                  replace p202 := eq_true p202
                  replace q202 := eq_true q202
                  go_wp2
                  repeat (go_quiet (fail); try go_wp2)
                  go_ret
                  exact ⟨by first | rfl | (simp; done) | (simp [*]; done), by repeat (first | exact Drawn0.refl _ | apply Drawn0.step)⟩
                · rw [if_neg c8] at H
                  have c8b0 : (!((((rd_T69 l0 x13_1).f0).toList) == (((rd_T69 l1 x13_1).f0).toList)) || (!((((rd_T69 l0 x13_1).f1).toList) == (((rd_T69 l1 x13_1).f1).toList)))) = false := by simpa using c8
                  clear c8
                  have H' := zk H
                  clear H
                  have p201 : 0 ≤ (x13_1 : Int) := zo (by assumption)
                  have q201 : x13_1 < (l0.length : Int) := zo (by assumption)
                  obtain ⟨ad201, e201, hx201_0, hx201_1⟩ := at_T69 HR0.out x13_1 p201 q201
                  cases e201
                  replace p201 := eq_true p201
                  replace q201 := eq_true q201
                  have p202 : 0 ≤ (x13_1 : Int) := zo (by assumption)
                  have q202 : x13_1 < (l1.length : Int) := zo (by assumption)
                  obtain ⟨ad202, e202, hx202_0, hx202_1⟩ := at_T69 HR1.out x13_1 p202 q202
                  cases e202
                  replace p202 := eq_true p202
                  replace q202 := eq_true q202
                  go_wp2
                  repeat (go_quiet (fail); try go_wp2)
                  go_roundg k1
                  case measure => have := HK1.out; omega
                  case rel => exact ⟨(wrap64 (x13_1 + 1)), (by first | rfl | (simp; done) | (simp [*]; done)), H', ⟨by have := HK1.out; omega⟩, by repeat (first | exact Drawn0.refl _ | apply Drawn0.step)⟩
              · rw [if_neg c7] at H
                exact absurd H (by simp)
            · rw [if_neg c6] at H
              exact absurd H (by simp)
          · rw [if_neg c5] at H
            exact absurd H (by simp)
        · rw [if_neg c4] at H
          have c4b0 := decide_eq_false c4
          clear c4
          obtain rfl := Option.some.inj H
          go_wp2
          repeat (go_quiet (fail); try go_wp2)
          go_ret
          exact ⟨by first | rfl | (simp; done) | (simp [*]; done), by repeat (first | exact Drawn0.refl _ | apply Drawn0.step)⟩
  · rw [if_neg c3] at H
    have c3b0 := beq_eq_false_iff_ne.mpr c3
    have c3b1 := bne_iff_ne.mpr c3
    have c3b2 : (l0.length == l1.length) = false := by first | simpa using c3 | (simp at c3 ⊢; omega)
    obtain rfl := Option.some.inj H
    go_enter Try.func37, Try.ntmps37
    go_wp2
    repeat (go_quiet (fail); try go_wp2)
    go_ret
    exact ⟨by first | rfl | (simp; done) | (simp [*]; done), by repeat (first | exact Drawn0.refl _ | apply Drawn0.step)⟩
end Go.Proofs.Ytcebfldagnjddaa.G
namespace Go.Proofs.Ytcebfldagnjddaa.G
open List renaming setIfInBounds_toArray → zt, set_cons_zero → zu, set_cons_succ → zv
open Bool renaming true → T, false → F
open Go.RowKit Go.Proofs.YtcebfldagnjddaaW.PrintWords Go.Proofs.YtcebfldagnjddaaW.PrintLast Go.Proofs.YtcebfldagnjddaaW.PrintMore
attribute [local go_sem] max2_int min2_int max_two min_two max_three min_three max_four min_four
set_option linter.unusedVariables false
set_option linter.unusedSimpArgs false
mutual
def pl_Nodes.j0 : Nat → Bool → ByteArray → ByteArray → ByteArray → List (S69) → List (S25) → ByteArray → ByteArray → ByteArray → List (S69) → List (S25) → Option (Bool)
 | 0, _, _, _, _, _, _, _, _, _, _, _ => none
 | k + 1, x41, x204000, x204001, x204002, x204003, x204004, x205000, x205001, x205002, x205003, x205004 => if x41 = true then (some false) else (pl_Nodes.l0 k (x204004.length : Int) 0 x204000 x204001 x204002 x204003 x204004 x205000 x205001 x205002 x205003 x205004)
def pl_Nodes.l0 : Nat → Int → Int → ByteArray → ByteArray → ByteArray → List (S69) → List (S25) → ByteArray → ByteArray → ByteArray → List (S69) → List (S25) → Option (Bool)
 | 0, _, _, _, _, _, _, _, _, _, _, _, _ => none
 | k + 1, x44, x45, x204000, x204001, x204002, x204003, x204004, x205000, x205001, x205002, x205003, x205004 => if x45 < x44 then (if 0 ≤ x45 then (if x45 < (x204004.length : Int) then (if x45 < (x205004.length : Int) then ((pl_Nodes.f k ((rd_T25 x204004 x45).f0) ((rd_T25 x204004 x45).f1) ((rd_T25 x204004 x45).f2) ((rd_T25 x204004 x45).f3) ((rd_T25 x204004 x45).f4) ((rd_T25 x205004 x45).f0) ((rd_T25 x205004 x45).f1) ((rd_T25 x205004 x45).f2) ((rd_T25 x205004 x45).f3) ((rd_T25 x205004 x45).f4)).bind fun t208 => (if t208 = true then (pl_Nodes.l0 k x44 (wrap64 (x45 + 1)) x204000 x204001 x204002 x204003 x204004 x205000 x205001 x205002 x205003 x205004) else (some false))) else (none)) else (none)) else (none)) else (some true)
def pl_Nodes.f : Nat → ByteArray → ByteArray → ByteArray → List (S69) → List (S25) → ByteArray → ByteArray → ByteArray → List (S69) → List (S25) → Option (Bool)
 | 0, _, _, _, _, _, _, _, _, _, _ => none
 | k + 1, a0_0, a0_1, a0_2, l0_3, l0_4, a1_0, a1_1, a1_2, l1_3, l1_4 => if a0_0.toList = a1_0.toList then (if a0_1.toList = a1_1.toList then (if a0_2.toList = a1_2.toList then ((pl_Attrs.f k l0_3 l1_3).bind fun t205 => (if t205 = true then (pl_Nodes.j0 k ((l0_4.length : Int) != (l1_4.length : Int)) a0_0 a0_1 a0_2 l0_3 l0_4 a1_0 a1_1 a1_2 l1_3 l1_4) else (pl_Nodes.j0 k true a0_0 a0_1 a0_2 l0_3 l0_4 a1_0 a1_1 a1_2 l1_3 l1_4))) else (pl_Nodes.j0 k true a0_0 a0_1 a0_2 l0_3 l0_4 a1_0 a1_1 a1_2 l1_3 l1_4)) else (pl_Nodes.j0 k true a0_0 a0_1 a0_2 l0_3 l0_4 a1_0 a1_1 a1_2 l1_3 l1_4)) else (pl_Nodes.j0 k true a0_0 a0_1 a0_2 l0_3 l0_4 a1_0 a1_1 a1_2 l1_3 l1_4)
end
theorem pl_Nodes.mono_l : ∀ k, (∀ y0 y1 y2 y3 y4 y5 y6 y7 y8 y9, LeO (pl_Nodes.f k y0 y1 y2 y3 y4 y5 y6 y7 y8 y9) (pl_Nodes.f (k + 1) y0 y1 y2 y3 y4 y5 y6 y7 y8 y9)) ∧ (∀ y0 y1 y2 y3 y4 y5 y6 y7 y8 y9 y10, LeO (pl_Nodes.j0 k y0 y1 y2 y3 y4 y5 y6 y7 y8 y9 y10) (pl_Nodes.j0 (k + 1) y0 y1 y2 y3 y4 y5 y6 y7 y8 y9 y10)) ∧ (∀ y0 y1 y2 y3 y4 y5 y6 y7 y8 y9 y10 y11, LeO (pl_Nodes.l0 k y0 y1 y2 y3 y4 y5 y6 y7 y8 y9 y10 y11) (pl_Nodes.l0 (k + 1) y0 y1 y2 y3 y4 y5 y6 y7 y8 y9 y10 y11))
 | 0 => ⟨fun _ _ _ _ _ _ _ _ _ _ r h => by simp [pl_Nodes.f] at h, fun _ _ _ _ _ _ _ _ _ _ _ r h => by simp [pl_Nodes.j0] at h, fun _ _ _ _ _ _ _ _ _ _ _ _ r h => by simp [pl_Nodes.l0] at h⟩
 | k + 1 => by
  obtain ⟨ih0, ih1, ih2⟩ := pl_Nodes.mono_l k
  refine ⟨?_, ?_, ?_⟩
  ·
   intro y0 y1 y2 y3 y4 y5 y6 y7 y8 y9
   unfold pl_Nodes.f
   with_reducible repeat' first | exact ih0 _ _ _ _ _ _ _ _ _ _ | exact ih1 _ _ _ _ _ _ _ _ _ _ _ | exact ih2 _ _ _ _ _ _ _ _ _ _ _ _ | exact pl_Attrs.mono _ _ _ | exact LeO.refl _ | exact LeO.none _ | refine LeO.ite ?_ ?_ | refine LeO.bind ?_ (fun _ => ?_)
  ·
   intro y0 y1 y2 y3 y4 y5 y6 y7 y8 y9 y10
   unfold pl_Nodes.j0
   with_reducible repeat' first | exact ih0 _ _ _ _ _ _ _ _ _ _ | exact ih1 _ _ _ _ _ _ _ _ _ _ _ | exact ih2 _ _ _ _ _ _ _ _ _ _ _ _ | exact pl_Attrs.mono _ _ _ | exact LeO.refl _ | exact LeO.none _ | refine LeO.ite ?_ ?_ | refine LeO.bind ?_ (fun _ => ?_)
  ·
   intro y0 y1 y2 y3 y4 y5 y6 y7 y8 y9 y10 y11
   unfold pl_Nodes.l0
   with_reducible repeat' first | exact ih0 _ _ _ _ _ _ _ _ _ _ | exact ih1 _ _ _ _ _ _ _ _ _ _ _ | exact ih2 _ _ _ _ _ _ _ _ _ _ _ _ | exact pl_Attrs.mono _ _ _ | exact LeO.refl _ | exact LeO.none _ | refine LeO.ite ?_ ?_ | refine LeO.bind ?_ (fun _ => ?_)
theorem pl_Nodes.mono : ∀ a0 a1 a2 a3 a4 a5 a6 a7 a8 a9 k, LeO (pl_Nodes.f k a0 a1 a2 a3 a4 a5 a6 a7 a8 a9) (pl_Nodes.f (k + 1) a0 a1 a2 a3 a4 a5 a6 a7 a8 a9) := by
 intro a0 a1 a2 a3 a4 a5 a6 a7 a8 a9 k
 obtain ⟨ih0, ih1, ih2⟩ := pl_Nodes.mono_l k
 exact ih0 a0 a1 a2 a3 a4 a5 a6 a7 a8 a9
def pl_Nodes.T6 : Bool × List (List Nat × List Nat) := (true, [([], []), ([0], [0]), ([], []), ([1, 2], [1, 2]), ([3], [3]), ([], []), ([5], [5]), ([], []), ([6, 7], [6, 7]), ([8], [8]), ([4, 9], [4, 9]), ([10], [10])])
def pl_Nodes.B6 : List Nat := [0, 1, 0, 7, 15, 0, 32, 0, 224, 480, 1023, 2047]
theorem pl_Nodes.tab6 : rtab .any (opsOf Try.f13 6) = pl_Nodes.T6 := by kernel_rfl
theorem pl_Nodes.bits6 : waitsOk pl_Nodes.T6.2 pl_Nodes.B6 = true := by kernel_rfl
set_option maxHeartbeats 8000000 in
set_option maxRecDepth 100000 in
theorem pl_Nodes.calls (k : Nat) : ∀ (a0_0 : ByteArray) (a0_1 : ByteArray) (a0_2 : ByteArray) (A0_3 : Option Addr) (c0_3 : Nat) (l0_3 : List (S69)) (A0_4 : Option Addr) (c0_4 : Nat) (l0_4 : List (S25)) (a1_0 : ByteArray) (a1_1 : ByteArray) (a1_2 : ByteArray) (A1_3 : Option Addr) (c1_3 : Nat) (l1_3 : List (S69)) (A1_4 : Option Addr) (c1_4 : Nat) (l1_4 : List (S25)) (r : Bool) (w : World) (hr0_3 : Kd.C k69 w A0_3 l0_3.length l0_3) (hc0_3 : l0_3.length ≤ c0_3) (hr0_4 : Kd.C k25 w A0_4 l0_4.length l0_4) (hc0_4 : l0_4.length ≤ c0_4) (hr1_3 : Kd.C k69 w A1_3 l1_3.length l1_3) (hc1_3 : l1_3.length ≤ c1_3) (hr1_4 : Kd.C k25 w A1_4 l1_4.length l1_4) (hc1_4 : l1_4.length ≤ c1_4) (h : pl_Nodes.f k a0_0 a0_1 a0_2 l0_3 l0_4 a1_0 a1_1 a1_2 l1_3 l1_4 = some r),
  Calls Try.prog 13 #[.agg #[.string a0_0, .string a0_1, .string a0_2, .slice A0_3 l0_3.length c0_3, .slice A0_4 l0_4.length c0_4], .agg #[.string a1_0, .string a1_1, .string a1_2, .slice A1_3 l1_3.length c1_3, .slice A1_4 l1_4.length c1_4]] w fun e w' => e = .returned (.bool r) ∧ Below w.heap.size w w' := by
 induction k using Nat.strongRecOn with
 | _ k ih =>
 intro a0_0 a0_1 a0_2 A0_3 c0_3 l0_3 A0_4 c0_4 l0_4 a1_0 a1_1 a1_2 A1_3 c1_3 l1_3 A1_4 c1_4 l1_4 r w hr0_3 hc0_3 hr0_4 hc0_4 hr1_3 hc1_3 hr1_4 hc1_4 h
 cases k with
 | zero => exact absurd h (by simp [pl_Nodes.f])
 | succ k =>
 simp only [pl_Nodes.f] at h
 have hu25 := Try.underlying25
 have HR0_3 := zk hr0_3
 have HC0_3 := zk hc0_3
 clear hr0_3 hc0_3
 have HR0_4 := zk hr0_4
 have HC0_4 := zk hc0_4
 clear hr0_4 hc0_4
 have HR1_3 := zk hr1_3
 have HC1_3 := zk hc1_3
 clear hr1_3 hc1_3
 have HR1_4 := zk hr1_4
 have HC1_4 := zk hc1_4
 clear hr1_4 hc1_4
 have HB := zk (Below.refl w.heap.size w)
 have H : (if a0_0.toList = a1_0.toList then (if a0_1.toList = a1_1.toList then (if a0_2.toList = a1_2.toList then ((pl_Attrs.f k l0_3 l1_3).bind fun t205 => (if t205 = true then (pl_Nodes.j0 k ((l0_4.length : Int) != (l1_4.length : Int)) a0_0 a0_1 a0_2 l0_3 l0_4 a1_0 a1_1 a1_2 l1_3 l1_4) else (pl_Nodes.j0 k true a0_0 a0_1 a0_2 l0_3 l0_4 a1_0 a1_1 a1_2 l1_3 l1_4))) else (pl_Nodes.j0 k true a0_0 a0_1 a0_2 l0_3 l0_4 a1_0 a1_1 a1_2 l1_3 l1_4)) else (pl_Nodes.j0 k true a0_0 a0_1 a0_2 l0_3 l0_4 a1_0 a1_1 a1_2 l1_3 l1_4)) else (pl_Nodes.j0 k true a0_0 a0_1 a0_2 l0_3 l0_4 a1_0 a1_1 a1_2 l1_3 l1_4)) = some r := h
 clear h
 have HC3 := zk H
 clear H
 go_enter Try.func13, Try.ntmps13
 go_upto_region 1 with (first | ((with_reducible refine gd (N := 2) rfl ?_); (try (refine gg (by rfl) ?_; dsimp only)); refine zb ?hg (N := 2) ?hd (cs := #[.string a0_0, .string a0_1, .string a0_2, .slice A0_3 l0_3.length c0_3, .slice A0_4 l0_4.length c0_4]) (t := 25) ?hr ?_; (case hd => rfl); (case hg => rfl); (case hr => go_simp; first | done | rfl); intro gb203 hg w4 hbox hb; have n0_ := zk (zs (by with_reducible repeat first | exact HB.out | apply zA | apply zN | apply zD) hb); have n1_ := zk (hbox); have n2_ := zk ((by rw [hg]; exact (zq (by with_reducible repeat first | exact HB.out | apply zA | apply zN | apply zD)) : w.heap.size ≤ gb203)); have n3_ := n2_; clear HB; have HB := n0_; have BK203 := n1_; have GW203 := n2_; have GE203 := n3_; clear n0_ n1_ n2_ n3_; clear hb hbox hg) | ((with_reducible refine gd (N := 3) rfl ?_); (try (refine gg (by rfl) ?_; dsimp only)); refine zb ?hg (N := 3) ?hd (cs := #[.string a1_0, .string a1_1, .string a1_2, .slice A1_3 l1_3.length c1_3, .slice A1_4 l1_4.length c1_4]) (t := 25) ?hr ?_; (case hd => rfl); (case hg => rfl); (case hr => go_simp; first | done | rfl); intro gb204 hg w5 hbox hb; have n0_ := zk (blk_below (g := gb203) (o := .cells #[.string a0_0, .string a0_1, .string a0_2, .slice A0_3 l0_3.length c0_3, .slice A0_4 l0_4.length c0_4] 25 (0, 0)) (by (with_reducible repeat first | apply zM | apply zE | apply zF); exact BK203.out) hb); have n1_ := zk (zs (by with_reducible repeat first | exact HB.out | apply zA | apply zN | apply zD | refine zS ?_ GE203.out) hb); have n2_ := zk (hbox); have n3_ := zk ((by rw [hg]; exact (zq (by with_reducible repeat first | exact HB.out | apply zA | apply zN | apply zD | refine zS ?_ GE203.out)) : w.heap.size ≤ gb204)); have n4_ := n3_; have n5_ := zk ((by rw [hg]; exact Nat.ne_of_lt (blk_lt (g := gb203) (o := .cells #[.string a0_0, .string a0_1, .string a0_2, .slice A0_3 l0_3.length c0_3, .slice A0_4 l0_4.length c0_4] 25 (0, 0)) (by (with_reducible repeat first | apply zM | apply zE | apply zF); exact BK203.out)) : gb203 ≠ gb204)); have n6_ := zk ((by rw [hg]; exact Nat.ne_of_gt (blk_lt (g := gb203) (o := .cells #[.string a0_0, .string a0_1, .string a0_2, .slice A0_3 l0_3.length c0_3, .slice A0_4 l0_4.length c0_4] 25 (0, 0)) (by (with_reducible repeat first | apply zM | apply zE | apply zF); exact BK203.out)) : gb204 ≠ gb203)); clear BK203; clear HB; have BK203 := n0_; have HB := n1_; have BK204 := n2_; have GW204 := n3_; have GE204 := n4_; have NB203_204 := n5_; have NB204_203 := n6_; clear n0_ n1_ n2_ n3_ n4_ n5_ n6_; clear hb hbox hg))
 (try simp only [Act.put, zt, zu, zv])
 go_cut [41] (fun v41 wc => ∃ (kq : Nat) (x41_2 : Bool), v41 = .bool x41_2 ∧ Aside0 (pl_Nodes.j0 kq x41_2 a0_0 a0_1 a0_2 l0_3 l0_4 a1_0 a1_1 a1_2 l1_3 l1_4 = some r) ∧ Aside0 (kq ≤ k) ∧ Aside0 (wc.heap[gb203]? = some (.cells #[.string a0_0, .string a0_1, .string a0_2, (.slice A0_3 l0_3.length c0_3), (.slice A0_4 l0_4.length c0_4)] 25 (0, 0))) ∧ Aside0 (wc.heap[gb204]? = some (.cells #[.string a1_0, .string a1_1, .string a1_2, (.slice A1_3 l1_3.length c1_3), (.slice A1_4 l1_4.length c1_4)] 25 (0, 0))) ∧ Aside0 (Below w.heap.size w wc))
 case first =>
  have H := HC3.out; clear HC3
  by_cases c6 : a0_0.toList = a1_0.toList
  ·
   rw [if_pos c6] at H; have c6b0 := beq_iff_eq.mpr c6; have c6b1 := bne_eq_false_iff_eq.mpr c6; clear c6
   (first | rw [c6b0] | (simp only [i64_w, i32_w]; rw [c6b0]) | skip)
   by_cases c7 : a0_1.toList = a1_1.toList
   ·
    rw [if_pos c7] at H; have c7b0 := beq_iff_eq.mpr c7; have c7b1 := bne_eq_false_iff_eq.mpr c7; clear c7
    by_cases c8 : a0_2.toList = a1_2.toList
    ·
     rw [if_pos c8] at H; have c8b0 := beq_iff_eq.mpr c8; have c8b1 := bne_eq_false_iff_eq.mpr c8; clear c8; replace H := Option.bind_eq_some_iff.mp H; obtain ⟨t205, A90, H⟩ := H; replace H : (if t205 = true then (pl_Nodes.j0 k ((l0_4.length : Int) != (l1_4.length : Int)) a0_0 a0_1 a0_2 l0_3 l0_4 a1_0 a1_1 a1_2 l1_3 l1_4) else (pl_Nodes.j0 k true a0_0 a0_1 a0_2 l0_3 l0_4 a1_0 a1_1 a1_2 l1_3 l1_4)) = some r := H; have A9 := zk A90; clear A90
     by_cases c10 : t205 = true
     ·
      subst c10
      have H1 : (pl_Nodes.j0 k ((l0_4.length : Int) != (l1_4.length : Int)) a0_0 a0_1 a0_2 l0_3 l0_4 a1_0 a1_1 a1_2 l1_3 l1_4) = some r := by rw [if_pos rfl] at H; exact H
      clear H; have H := H1; clear H1; have H' := zk H; clear H; have hnb11 := NB203_204.out; have hnc11 := NB204_203.out; have hcz12_0 : w5.cell? ⟨gb203, 0, none⟩ = some (.string a0_0) := (zC BK203.out 0).trans rfl; have hcz12_1 : w5.cell? ⟨gb203, 1, none⟩ = some (.string a0_1) := (zC BK203.out 1).trans rfl; have hcz12_2 : w5.cell? ⟨gb203, 2, none⟩ = some (.string a0_2) := (zC BK203.out 2).trans rfl; have hcz12_3 : w5.cell? ⟨gb203, 3, none⟩ = some (.slice A0_3 l0_3.length c0_3) := (zC BK203.out 3).trans rfl; have hcz12_4 : w5.cell? ⟨gb203, 4, none⟩ = some (.slice A0_4 l0_4.length c0_4) := (zC BK203.out 4).trans rfl; have hfz12_0 := zR BK203.out 0; have hfz12_1 := zR BK203.out 1; have hfz12_2 := zR BK203.out 2; have hfz12_3 := zR BK203.out 3; have hfz12_4 := zR BK203.out 4; have hcz13_0 : w5.cell? ⟨gb204, 0, none⟩ = some (.string a1_0) := (zC BK204.out 0).trans rfl; have hcz13_1 : w5.cell? ⟨gb204, 1, none⟩ = some (.string a1_1) := (zC BK204.out 1).trans rfl; have hcz13_2 : w5.cell? ⟨gb204, 2, none⟩ = some (.string a1_2) := (zC BK204.out 2).trans rfl; have hcz13_3 : w5.cell? ⟨gb204, 3, none⟩ = some (.slice A1_3 l1_3.length c1_3) := (zC BK204.out 3).trans rfl; have hcz13_4 : w5.cell? ⟨gb204, 4, none⟩ = some (.slice A1_4 l1_4.length c1_4) := (zC BK204.out 4).trans rfl; have hfz13_0 := zR BK204.out 0; have hfz13_1 := zR BK204.out 1; have hfz13_2 := zR BK204.out 2; have hfz13_3 := zR BK204.out 3; have hfz13_4 := zR BK204.out 4
      go_wp2_with (first | (go_at_call 37; (with_reducible refine (pl_Attrs.calls k _ _ l0_3 _ _ l1_3 true _ ?side1 ?side2 ?side3 ?side4 A9.out).mono ?_); (case side1 => repeat (first | exact (Kd.C_below HR0_3.out HB.out) | (with_reducible refine Kd.C_alloc ?_ _) | (with_reducible refine Kd.C_drewN ?_ _) | (with_reducible refine Kd.C_drew ?_))); (case side2 => exact HC0_3.out); (case side3 => repeat (first | exact (Kd.C_below HR1_3.out HB.out) | (with_reducible refine Kd.C_alloc ?_ _) | (with_reducible refine Kd.C_drewN ?_ _) | (with_reducible refine Kd.C_drew ?_))); (case side4 => exact HC1_3.out); rintro e w' ⟨rfl, ⟨nd, rfl⟩⟩))
      go_meet
      case rel => exact ⟨_, (((l0_4.length : Int) != (l1_4.length : Int))), (by first | rfl | (simp; done) | (simp [*]; done)), H', ⟨by first | omega | exact Nat.le_refl _⟩, ⟨by (with_reducible repeat first | apply zM | apply zE | apply zF); exact BK203.out⟩, ⟨by (with_reducible repeat first | apply zM | apply zE | apply zF); exact BK204.out⟩, ⟨by with_reducible repeat first | exact HB.out | apply zA | apply zN | apply zD | refine zS ?_ GE203.out | refine zS ?_ GE204.out⟩⟩
     ·
      replace c10 := Bool.eq_false_iff.mpr c10; subst c10
      have H1 : (pl_Nodes.j0 k true a0_0 a0_1 a0_2 l0_3 l0_4 a1_0 a1_1 a1_2 l1_3 l1_4) = some r := by rw [if_neg (show ¬ (false = true) by decide)] at H; exact H
      clear H; have H := H1; clear H1; have H' := zk H; clear H; have hnb14 := NB203_204.out; have hnc14 := NB204_203.out; have hcz15_0 : w5.cell? ⟨gb203, 0, none⟩ = some (.string a0_0) := (zC BK203.out 0).trans rfl; have hcz15_1 : w5.cell? ⟨gb203, 1, none⟩ = some (.string a0_1) := (zC BK203.out 1).trans rfl; have hcz15_2 : w5.cell? ⟨gb203, 2, none⟩ = some (.string a0_2) := (zC BK203.out 2).trans rfl; have hcz15_3 : w5.cell? ⟨gb203, 3, none⟩ = some (.slice A0_3 l0_3.length c0_3) := (zC BK203.out 3).trans rfl; have hcz15_4 : w5.cell? ⟨gb203, 4, none⟩ = some (.slice A0_4 l0_4.length c0_4) := (zC BK203.out 4).trans rfl; have hfz15_0 := zR BK203.out 0; have hfz15_1 := zR BK203.out 1; have hfz15_2 := zR BK203.out 2; have hfz15_3 := zR BK203.out 3; have hfz15_4 := zR BK203.out 4; have hcz16_0 : w5.cell? ⟨gb204, 0, none⟩ = some (.string a1_0) := (zC BK204.out 0).trans rfl; have hcz16_1 : w5.cell? ⟨gb204, 1, none⟩ = some (.string a1_1) := (zC BK204.out 1).trans rfl; have hcz16_2 : w5.cell? ⟨gb204, 2, none⟩ = some (.string a1_2) := (zC BK204.out 2).trans rfl; have hcz16_3 : w5.cell? ⟨gb204, 3, none⟩ = some (.slice A1_3 l1_3.length c1_3) := (zC BK204.out 3).trans rfl; have hcz16_4 : w5.cell? ⟨gb204, 4, none⟩ = some (.slice A1_4 l1_4.length c1_4) := (zC BK204.out 4).trans rfl; have hfz16_0 := zR BK204.out 0; have hfz16_1 := zR BK204.out 1; have hfz16_2 := zR BK204.out 2; have hfz16_3 := zR BK204.out 3; have hfz16_4 := zR BK204.out 4
      go_wp2_with (first | (go_at_call 37; (with_reducible refine (pl_Attrs.calls k _ _ l0_3 _ _ l1_3 false _ ?side1 ?side2 ?side3 ?side4 A9.out).mono ?_); (case side1 => repeat (first | exact (Kd.C_below HR0_3.out HB.out) | (with_reducible refine Kd.C_alloc ?_ _) | (with_reducible refine Kd.C_drewN ?_ _) | (with_reducible refine Kd.C_drew ?_))); (case side2 => exact HC0_3.out); (case side3 => repeat (first | exact (Kd.C_below HR1_3.out HB.out) | (with_reducible refine Kd.C_alloc ?_ _) | (with_reducible refine Kd.C_drewN ?_ _) | (with_reducible refine Kd.C_drew ?_))); (case side4 => exact HC1_3.out); rintro e w' ⟨rfl, ⟨nd, rfl⟩⟩))
      go_meet
      case rel => exact ⟨_, (true), (by first | rfl | (simp; done) | (simp [*]; done)), H', ⟨by first | omega | exact Nat.le_refl _⟩, ⟨by (with_reducible repeat first | apply zM | apply zE | apply zF); exact BK203.out⟩, ⟨by (with_reducible repeat first | apply zM | apply zE | apply zF); exact BK204.out⟩, ⟨by with_reducible repeat first | exact HB.out | apply zA | apply zN | apply zD | refine zS ?_ GE203.out | refine zS ?_ GE204.out⟩⟩
    ·
     rw [if_neg c8] at H; have c8b0 := beq_eq_false_iff_ne.mpr c8; have c8b1 := bne_iff_ne.mpr c8; have H' := zk H; clear H; have hnb17 := NB203_204.out; have hnc17 := NB204_203.out; have hcz18_0 : w5.cell? ⟨gb203, 0, none⟩ = some (.string a0_0) := (zC BK203.out 0).trans rfl; have hcz18_1 : w5.cell? ⟨gb203, 1, none⟩ = some (.string a0_1) := (zC BK203.out 1).trans rfl; have hcz18_2 : w5.cell? ⟨gb203, 2, none⟩ = some (.string a0_2) := (zC BK203.out 2).trans rfl; have hcz18_3 : w5.cell? ⟨gb203, 3, none⟩ = some (.slice A0_3 l0_3.length c0_3) := (zC BK203.out 3).trans rfl; have hcz18_4 : w5.cell? ⟨gb203, 4, none⟩ = some (.slice A0_4 l0_4.length c0_4) := (zC BK203.out 4).trans rfl; have hfz18_0 := zR BK203.out 0; have hfz18_1 := zR BK203.out 1; have hfz18_2 := zR BK203.out 2; have hfz18_3 := zR BK203.out 3; have hfz18_4 := zR BK203.out 4; have hcz19_0 : w5.cell? ⟨gb204, 0, none⟩ = some (.string a1_0) := (zC BK204.out 0).trans rfl; have hcz19_1 : w5.cell? ⟨gb204, 1, none⟩ = some (.string a1_1) := (zC BK204.out 1).trans rfl; have hcz19_2 : w5.cell? ⟨gb204, 2, none⟩ = some (.string a1_2) := (zC BK204.out 2).trans rfl; have hcz19_3 : w5.cell? ⟨gb204, 3, none⟩ = some (.slice A1_3 l1_3.length c1_3) := (zC BK204.out 3).trans rfl; have hcz19_4 : w5.cell? ⟨gb204, 4, none⟩ = some (.slice A1_4 l1_4.length c1_4) := (zC BK204.out 4).trans rfl; have hfz19_0 := zR BK204.out 0; have hfz19_1 := zR BK204.out 1; have hfz19_2 := zR BK204.out 2; have hfz19_3 := zR BK204.out 3; have hfz19_4 := zR BK204.out 4; go_wp2
     go_meet
     case rel => exact ⟨_, (true), (by first | rfl | (simp; done) | (simp [*]; done)), H', ⟨by first | omega | exact Nat.le_refl _⟩, ⟨by (with_reducible repeat first | apply zM | apply zE | apply zF); exact BK203.out⟩, ⟨by (with_reducible repeat first | apply zM | apply zE | apply zF); exact BK204.out⟩, ⟨by with_reducible repeat first | exact HB.out | apply zA | apply zN | apply zD | refine zS ?_ GE203.out | refine zS ?_ GE204.out⟩⟩
   ·
    rw [if_neg c7] at H; have c7b0 := beq_eq_false_iff_ne.mpr c7; have c7b1 := bne_iff_ne.mpr c7; have H' := zk H; clear H; have hnb20 := NB203_204.out; have hnc20 := NB204_203.out; have hcz21_0 : w5.cell? ⟨gb203, 0, none⟩ = some (.string a0_0) := (zC BK203.out 0).trans rfl; have hcz21_1 : w5.cell? ⟨gb203, 1, none⟩ = some (.string a0_1) := (zC BK203.out 1).trans rfl; have hcz21_2 : w5.cell? ⟨gb203, 2, none⟩ = some (.string a0_2) := (zC BK203.out 2).trans rfl; have hcz21_3 : w5.cell? ⟨gb203, 3, none⟩ = some (.slice A0_3 l0_3.length c0_3) := (zC BK203.out 3).trans rfl; have hcz21_4 : w5.cell? ⟨gb203, 4, none⟩ = some (.slice A0_4 l0_4.length c0_4) := (zC BK203.out 4).trans rfl; have hfz21_0 := zR BK203.out 0; have hfz21_1 := zR BK203.out 1; have hfz21_2 := zR BK203.out 2; have hfz21_3 := zR BK203.out 3; have hfz21_4 := zR BK203.out 4; have hcz22_0 : w5.cell? ⟨gb204, 0, none⟩ = some (.string a1_0) := (zC BK204.out 0).trans rfl; have hcz22_1 : w5.cell? ⟨gb204, 1, none⟩ = some (.string a1_1) := (zC BK204.out 1).trans rfl; have hcz22_2 : w5.cell? ⟨gb204, 2, none⟩ = some (.string a1_2) := (zC BK204.out 2).trans rfl; have hcz22_3 : w5.cell? ⟨gb204, 3, none⟩ = some (.slice A1_3 l1_3.length c1_3) := (zC BK204.out 3).trans rfl; have hcz22_4 : w5.cell? ⟨gb204, 4, none⟩ = some (.slice A1_4 l1_4.length c1_4) := (zC BK204.out 4).trans rfl; have hfz22_0 := zR BK204.out 0; have hfz22_1 := zR BK204.out 1; have hfz22_2 := zR BK204.out 2; have hfz22_3 := zR BK204.out 3; have hfz22_4 := zR BK204.out 4; go_wp2
    go_meet
    case rel => exact ⟨_, (true), (by first | rfl | (simp; done) | (simp [*]; done)), H', ⟨by first | omega | exact Nat.le_refl _⟩, ⟨by (with_reducible repeat first | apply zM | apply zE | apply zF); exact BK203.out⟩, ⟨by (with_reducible repeat first | apply zM | apply zE | apply zF); exact BK204.out⟩, ⟨by with_reducible repeat first | exact HB.out | apply zA | apply zN | apply zD | refine zS ?_ GE203.out | refine zS ?_ GE204.out⟩⟩
  ·
   rw [if_neg c6] at H; have c6b0 := beq_eq_false_iff_ne.mpr c6; have c6b1 := bne_iff_ne.mpr c6
   (first | rw [c6b0] | (simp only [i64_w, i32_w]; rw [c6b0]) | skip)
   have H' := zk H; clear H; have hnb23 := NB203_204.out; have hnc23 := NB204_203.out; have hcz24_0 : w5.cell? ⟨gb203, 0, none⟩ = some (.string a0_0) := (zC BK203.out 0).trans rfl; have hcz24_1 : w5.cell? ⟨gb203, 1, none⟩ = some (.string a0_1) := (zC BK203.out 1).trans rfl; have hcz24_2 : w5.cell? ⟨gb203, 2, none⟩ = some (.string a0_2) := (zC BK203.out 2).trans rfl; have hcz24_3 : w5.cell? ⟨gb203, 3, none⟩ = some (.slice A0_3 l0_3.length c0_3) := (zC BK203.out 3).trans rfl; have hcz24_4 : w5.cell? ⟨gb203, 4, none⟩ = some (.slice A0_4 l0_4.length c0_4) := (zC BK203.out 4).trans rfl; have hfz24_0 := zR BK203.out 0; have hfz24_1 := zR BK203.out 1; have hfz24_2 := zR BK203.out 2; have hfz24_3 := zR BK203.out 3; have hfz24_4 := zR BK203.out 4; have hcz25_0 : w5.cell? ⟨gb204, 0, none⟩ = some (.string a1_0) := (zC BK204.out 0).trans rfl; have hcz25_1 : w5.cell? ⟨gb204, 1, none⟩ = some (.string a1_1) := (zC BK204.out 1).trans rfl; have hcz25_2 : w5.cell? ⟨gb204, 2, none⟩ = some (.string a1_2) := (zC BK204.out 2).trans rfl; have hcz25_3 : w5.cell? ⟨gb204, 3, none⟩ = some (.slice A1_3 l1_3.length c1_3) := (zC BK204.out 3).trans rfl; have hcz25_4 : w5.cell? ⟨gb204, 4, none⟩ = some (.slice A1_4 l1_4.length c1_4) := (zC BK204.out 4).trans rfl; have hfz25_0 := zR BK204.out 0; have hfz25_1 := zR BK204.out 1; have hfz25_2 := zR BK204.out 2; have hfz25_3 := zR BK204.out 3; have hfz25_4 := zR BK204.out 4; go_wp2
   go_meet
   case rel => exact ⟨_, (true), (by first | rfl | (simp; done) | (simp [*]; done)), H', ⟨by first | omega | exact Nat.le_refl _⟩, ⟨by (with_reducible repeat first | apply zM | apply zE | apply zF); exact BK203.out⟩, ⟨by (with_reducible repeat first | apply zM | apply zE | apply zF); exact BK204.out⟩, ⟨by with_reducible repeat first | exact HB.out | apply zA | apply zN | apply zD | refine zS ?_ GE203.out | refine zS ?_ GE204.out⟩⟩
 case rest =>
  clear HC3; (try clear c1); (try clear c2); (try clear p2); (try clear c6); (try clear c6b0); (try clear c6b1); (try clear c7); (try clear c7b0); (try clear c7b1); (try clear c8); (try clear c8b0); (try clear c8b1); (try clear c10); (try clear c11); (try clear c13); (try clear c14); (try clear c17); (try clear c20); (try clear c23); obtain ⟨kq, x41_2, rfl, HA, HJ2, BK203, BK204, HB⟩ := hcut
  cases kq with
  | zero => exact absurd HA.out (by simp [pl_Nodes.j0])
  | succ kj2 =>
   have H := HA.out; clear HA; simp only [pl_Nodes.j0] at H
   by_cases c26 : x41_2 = true
   ·
    subst c26
    have H1 : (some false) = some r := by rw [if_pos rfl] at H; exact H
    clear H; have H := H1; clear H1; obtain rfl := Option.some.inj H; go_wp2; go_ret; exact ⟨by first | rfl | (simp [wN, wS] <;> rfl) | (simp [*, wN, wS] <;> rfl), by with_reducible repeat first | exact HB.out | apply zA | apply zN | apply zD | refine zS ?_ GE203.out | refine zS ?_ GE204.out⟩
   ·
    replace c26 := Bool.eq_false_iff.mpr c26; subst c26
    have H1 : (pl_Nodes.l0 kj2 (l0_4.length : Int) 0 a0_0 a0_1 a0_2 l0_3 l0_4 a1_0 a1_1 a1_2 l1_3 l1_4) = some r := by rw [if_neg (show ¬ (false = true) by decide)] at H; exact H
    clear H; have H := H1; clear H1; have H' := zk H; clear H; have hnb27 := NB203_204.out; have hnc27 := NB204_203.out; have hcz28_0 : wc.cell? ⟨gb203, 0, none⟩ = some (.string a0_0) := (zC BK203.out 0).trans rfl; have hcz28_1 : wc.cell? ⟨gb203, 1, none⟩ = some (.string a0_1) := (zC BK203.out 1).trans rfl; have hcz28_2 : wc.cell? ⟨gb203, 2, none⟩ = some (.string a0_2) := (zC BK203.out 2).trans rfl; have hcz28_3 : wc.cell? ⟨gb203, 3, none⟩ = some (.slice A0_3 l0_3.length c0_3) := (zC BK203.out 3).trans rfl; have hcz28_4 : wc.cell? ⟨gb203, 4, none⟩ = some (.slice A0_4 l0_4.length c0_4) := (zC BK203.out 4).trans rfl; have hfz28_0 := zR BK203.out 0; have hfz28_1 := zR BK203.out 1; have hfz28_2 := zR BK203.out 2; have hfz28_3 := zR BK203.out 3; have hfz28_4 := zR BK203.out 4; go_wp2
    go_loopg [45] kj2 (fun kq v45 w' => ∃ (x45_2 : Int), v45 = .int .i64 x45_2 ∧ Aside0 (pl_Nodes.l0 kq (l0_4.length : Int) x45_2 a0_0 a0_1 a0_2 l0_3 l0_4 a1_0 a1_1 a1_2 l1_3 l1_4 = some r) ∧ Aside0 (kq ≤ kj2) ∧ Aside0 (w'.heap[gb203]? = some (.cells #[.string a0_0, .string a0_1, .string a0_2, (.slice A0_3 l0_3.length c0_3), (.slice A0_4 l0_4.length c0_4)] 25 (0, 0))) ∧ Aside0 (w'.heap[gb204]? = some (.cells #[.string a1_0, .string a1_1, .string a1_2, (.slice A1_3 l1_3.length c1_3), (.slice A1_4 l1_4.length c1_4)] 25 (0, 0))) ∧ Aside0 (Below w.heap.size w w'))
    case atStart => exact ⟨(0), (by first | rfl | (simp; done) | (simp [*]; done)), H', ⟨Nat.le_refl _⟩, ⟨by (with_reducible repeat first | apply zM | apply zE | apply zF); exact BK203.out⟩, ⟨by (with_reducible repeat first | apply zM | apply zE | apply zF); exact BK204.out⟩, ⟨by with_reducible repeat first | exact HB.out | apply zA | apply zN | apply zD | refine zS ?_ GE203.out | refine zS ?_ GE204.out⟩⟩
    case round =>
     clear H'; (try clear c1); (try clear c2); (try clear p2); (try clear c6); (try clear c6b0); (try clear c6b1); (try clear c7); (try clear c7b0); (try clear c7b1); (try clear c8); (try clear c8b0); (try clear c8b1); (try clear c10); (try clear c11); (try clear c13); (try clear c14); (try clear c17); (try clear c20); (try clear c23); (try clear c26); (try clear c27); (try clear p2)
     (try clear BK203); (try clear BK204)
     obtain ⟨x45_2, rfl, HA, HK2, BK203, BK204, HB⟩ := hrel
     cases gk with
     | zero => exact absurd HA.out (by simp [pl_Nodes.l0])
     | succ k2 =>
      have H := HA.out; clear HA; simp only [pl_Nodes.l0] at H
      by_cases c29 : x45_2 < (l0_4.length : Int)
      ·
       rw [if_pos c29] at H; have c29b0 := decide_eq_true c29; clear c29
       by_cases c30 : 0 ≤ x45_2
       ·
        rw [if_pos c30] at H; have c30b0 := decide_eq_true c30; clear c30
        by_cases c31 : x45_2 < (l0_4.length : Int)
        ·
         rw [if_pos c31] at H; have c31b0 := decide_eq_true c31; clear c31
         by_cases c32 : x45_2 < (l1_4.length : Int)
         ·
          rw [if_pos c32] at H; have c32b0 := decide_eq_true c32; clear c32; replace H := Option.bind_eq_some_iff.mp H; obtain ⟨t208, A330, H⟩ := H; replace H : (if t208 = true then (pl_Nodes.l0 k2 (l0_4.length : Int) (wrap64 (x45_2 + 1)) a0_0 a0_1 a0_2 l0_3 l0_4 a1_0 a1_1 a1_2 l1_3 l1_4) else (some false)) = some r := H; have A33 := zk A330; clear A330
          by_cases c34 : t208 = true
          ·
           subst c34
           have H1 : (pl_Nodes.l0 k2 (l0_4.length : Int) (wrap64 (x45_2 + 1)) a0_0 a0_1 a0_2 l0_3 l0_4 a1_0 a1_1 a1_2 l1_3 l1_4) = some r := by rw [if_pos rfl] at H; exact H
           clear H; have H := H1; clear H1; have H' := zk H; clear H
           try go_wp2
           have n0_ := zk (zE BK203.out); have n1_ := zk (zE BK204.out); have n2_ := zk (zD HB.out); clear BK203; clear BK204; clear HB; have BK203 := n0_; have BK204 := n1_; have HB := n2_; clear n0_ n1_ n2_; have p206 : 0 ≤ (x45_2 : Int) := zo (by assumption); have q206 : x45_2 < (l0_4.length : Int) := zo (by assumption); obtain ⟨ad206, A206_3, c206_3, A206_4, c206_4, e206, hx206_0, hx206_1, hx206_2, hx206_3, hx206_4, hl206_3, hi206_3, hl206_4, hi206_4⟩ := at_T25 HR0_4.out x45_2 p206 q206; have hw206_4 := hx206_4; have hw206_3 := hx206_3; have hw206_2 := hx206_2; have hw206_1 := hx206_1; have hw206_0 := hx206_0; cases e206; replace hx206_0 := zB HB hx206_0; replace hx206_1 := zB HB hx206_1; replace hx206_2 := zB HB hx206_2; replace hx206_3 := zB HB hx206_3; replace hx206_4 := zB HB hx206_4; have HR206_3 := zk hi206_3; have HC206_3 := zk hl206_3; clear hi206_3 hl206_3; have HR206_4 := zk hi206_4; have HC206_4 := zk hl206_4; clear hi206_4 hl206_4; replace p206 := eq_true p206; replace q206 := eq_true q206; have p207 : 0 ≤ (x45_2 : Int) := zo (by assumption); have q207 : x45_2 < (l1_4.length : Int) := zo (by assumption); obtain ⟨ad207, A207_3, c207_3, A207_4, c207_4, e207, hx207_0, hx207_1, hx207_2, hx207_3, hx207_4, hl207_3, hi207_3, hl207_4, hi207_4⟩ := at_T25 HR1_4.out x45_2 p207 q207; have hw207_4 := hx207_4; have hw207_3 := hx207_3; have hw207_2 := hx207_2; have hw207_1 := hx207_1; have hw207_0 := hx207_0; cases e207; replace hx207_0 := zB HB hx207_0; replace hx207_1 := zB HB hx207_1; replace hx207_2 := zB HB hx207_2; replace hx207_3 := zB HB hx207_3; replace hx207_4 := zB HB hx207_4; have HR207_3 := zk hi207_3; have HC207_3 := zk hl207_3; clear hi207_3 hl207_3; have HR207_4 := zk hi207_4; have HC207_4 := zk hl207_4; clear hi207_4 hl207_4; replace p207 := eq_true p207; replace q207 := eq_true q207; refine start_ (n := 12) (S := fun w' => w'.cell? ⟨gb203, 0, none⟩ = some (.string a0_0) ∧ w'.cell? ⟨gb203, 1, none⟩ = some (.string a0_1) ∧ w'.cell? ⟨gb203, 2, none⟩ = some (.string a0_2) ∧ w'.cell? ⟨gb203, 3, none⟩ = some (.slice A0_3 l0_3.length c0_3) ∧ w'.cell? ⟨gb203, 4, none⟩ = some (.slice (some ad206) l0_4.length c0_4) ∧ w'.cell? ⟨gb204, 0, none⟩ = some (.string a1_0) ∧ w'.cell? ⟨gb204, 1, none⟩ = some (.string a1_1) ∧ w'.cell? ⟨gb204, 2, none⟩ = some (.string a1_2) ∧ w'.cell? ⟨gb204, 3, none⟩ = some (.slice A1_3 l1_3.length c1_3) ∧ w'.cell? ⟨gb204, 4, none⟩ = some (.slice (some ad207) l1_4.length c1_4) ∧ w'.cell? (ad206.add ((x45_2).toNat * 5)) = some (.string ((rd_T25 l0_4 x45_2).f0)) ∧ w'.cell? ⟨(ad206.add ((x45_2).toNat * 5)).block, (ad206.add ((x45_2).toNat * 5)).off + 1, none⟩ = some (.string ((rd_T25 l0_4 x45_2).f1)) ∧ w'.cell? ⟨(ad206.add ((x45_2).toNat * 5)).block, (ad206.add ((x45_2).toNat * 5)).off + 2, none⟩ = some (.string ((rd_T25 l0_4 x45_2).f2)) ∧ w'.cell? ⟨(ad206.add ((x45_2).toNat * 5)).block, (ad206.add ((x45_2).toNat * 5)).off + 3, none⟩ = some (.slice A206_3 ((rd_T25 l0_4 x45_2).f3).length c206_3) ∧ w'.cell? ⟨(ad206.add ((x45_2).toNat * 5)).block, (ad206.add ((x45_2).toNat * 5)).off + 4, none⟩ = some (.slice A206_4 ((rd_T25 l0_4 x45_2).f4).length c206_4) ∧ w'.cell? (ad207.add ((x45_2).toNat * 5)) = some (.string ((rd_T25 l1_4 x45_2).f0)) ∧ w'.cell? ⟨(ad207.add ((x45_2).toNat * 5)).block, (ad207.add ((x45_2).toNat * 5)).off + 1, none⟩ = some (.string ((rd_T25 l1_4 x45_2).f1)) ∧ w'.cell? ⟨(ad207.add ((x45_2).toNat * 5)).block, (ad207.add ((x45_2).toNat * 5)).off + 2, none⟩ = some (.string ((rd_T25 l1_4 x45_2).f2)) ∧ w'.cell? ⟨(ad207.add ((x45_2).toNat * 5)).block, (ad207.add ((x45_2).toNat * 5)).off + 3, none⟩ = some (.slice A207_3 ((rd_T25 l1_4 x45_2).f3).length c207_3) ∧ w'.cell? ⟨(ad207.add ((x45_2).toNat * 5)).block, (ad207.add ((x45_2).toNat * 5)).off + 4, none⟩ = some (.slice A207_4 ((rd_T25 l1_4 x45_2).f4).length c207_4)) (ds := []) #[F,F,F,F,F,F,F,F,F,F,F,F] (by kernel_rfl) rfl rfl ⟨(zC BK203.out 0).trans rfl, (zC BK203.out 1).trans rfl, (zC BK203.out 2).trans rfl, (zC BK203.out 3).trans rfl, (zC BK203.out 4).trans rfl, (zC BK204.out 0).trans rfl, (zC BK204.out 1).trans rfl, (zC BK204.out 2).trans rfl, (zC BK204.out 3).trans rfl, (zC BK204.out 4).trans rfl, (zB HB hw206_0), (zB HB hw206_1), (zB HB hw206_2), (zB HB hw206_3), (zB HB hw206_4), (zB HB hw207_0), (zB HB hw207_1), (zB HB hw207_2), (zB HB hw207_3), (zB HB hw207_4)⟩ (fun hHeld => ?_); refine with_tabW pl_Nodes.tab6 pl_Nodes.bits6 (fun HT_ HW_ => ?_); generalize wr.drew = w35 at BK203 BK204 HB HR206_3 HR206_4 HR207_3 HR207_4 hx206_0 hx206_1 hx206_2 hx206_3 hx206_4 hx207_0 hx207_1 hx207_2 hx207_3 hx207_4 hHeld ⊢; refine pure_ (i := 0) (N := some 48) (v := ?_) (a' := ?_) #[T,F,F,F,F,F,F,F,F,F,F,F] rfl rfl (any_of HT_.out (by kernel_rfl)) (fun _ _ _ h => h) (Or.inl ⟨by rfl, ?_⟩) ?_ ?_; rotate_left; (intro w'; go_simp; (with_reducible rfl)); rotate_left; (simp only [Act.put, zt, zu, zv, i64_w, i32_w]; rfl); refine pure_ (i := 2) (N := some 50) (v := ?_) (a' := ?_) #[T,F,T,F,F,F,F,F,F,F,F,F] rfl rfl (any_of HT_.out (by kernel_rfl)) (fun _ _ _ h => h) (Or.inl ⟨by rfl, ?_⟩) ?_ ?_; rotate_left; (intro w'; go_simp; (with_reducible rfl)); rotate_left; (simp only [Act.put, zt, zu, zv, i64_w, i32_w]; rfl); refine pure_ (i := 5) (N := some 53) (v := ?_) (a' := ?_) #[T,F,T,F,F,T,F,F,F,F,F,F] rfl rfl (any_of HT_.out (by kernel_rfl)) (fun _ _ _ h => h) (Or.inl ⟨by rfl, ?_⟩) ?_ ?_; rotate_left; (intro w'; go_simp; (with_reducible rfl)); rotate_left; (simp only [Act.put, zt, zu, zv, i64_w, i32_w]; rfl); refine pure_ (i := 7) (N := some 55) (v := ?_) (a' := ?_) #[T,F,T,F,F,T,F,T,F,F,F,F] rfl rfl (any_of HT_.out (by kernel_rfl)) (fun _ _ _ h => h) (Or.inl ⟨by rfl, ?_⟩) ?_ ?_; rotate_left; (intro w'; go_simp; (with_reducible rfl)); rotate_left; (simp only [Act.put, zt, zu, zv, i64_w, i32_w]; rfl); refine take_ (i := 1) (N := some 49) (v := ?_) (a' := ?_) #[T,T,T,F,F,T,F,T,F,F,F,F] rfl rfl (take_ofW HT_.out HW_.out (by kernel_rfl)) (fun _ _ _ h => h) (Or.inl ⟨by rfl, ?_⟩) hHeld ?_ ?_; rotate_left; (rintro w' ⟨s0, s1, s2, s3, s4, s5, s6, s7, s8, s9, s10, s11, s12, s13, s14, s15, s16, s17, s18, s19⟩; go_simp; (with_reducible rfl)); rotate_left; (simp only [Act.put, zt, zu, zv, i64_w, i32_w]; rfl); refine pure_ (i := 3) (N := some 51) (v := ?_) (a' := ?_) #[T,T,T,T,F,T,F,T,F,F,F,F] rfl rfl (any_of HT_.out (by kernel_rfl)) (fun _ _ _ h => h) (Or.inl ⟨by rfl, ?_⟩) ?_ ?_; rotate_left; (intro w'; go_simp; (with_reducible rfl)); rotate_left; (simp only [Act.put, zt, zu, zv, i64_w, i32_w]; rfl); refine take_ (i := 4) (N := some 52) (v := ?_) (a' := ?_) #[T,T,T,T,T,T,F,T,F,F,F,F] rfl rfl (take_ofW HT_.out HW_.out (by kernel_rfl)) (fun _ _ _ h => h) (Or.inl ⟨by rfl, ?_⟩) hHeld ?_ ?_; rotate_left; (rintro w' ⟨s0, s1, s2, s3, s4, s5, s6, s7, s8, s9, s10, s11, s12, s13, s14, s15, s16, s17, s18, s19⟩; go_simp; (with_reducible rfl)); rotate_left; (simp only [Act.put, zt, zu, zv, i64_w, i32_w]; rfl); refine take_ (i := 6) (N := some 54) (v := ?_) (a' := ?_) #[T,T,T,T,T,T,T,T,F,F,F,F] rfl rfl (take_ofW HT_.out HW_.out (by kernel_rfl)) (fun _ _ _ h => h) (Or.inl ⟨by rfl, ?_⟩) hHeld ?_ ?_; rotate_left; (rintro w' ⟨s0, s1, s2, s3, s4, s5, s6, s7, s8, s9, s10, s11, s12, s13, s14, s15, s16, s17, s18, s19⟩; go_simp; (with_reducible rfl)); rotate_left; (simp only [Act.put, zt, zu, zv, i64_w, i32_w]; rfl); refine pure_ (i := 8) (N := some 56) (v := ?_) (a' := ?_) #[T,T,T,T,T,T,T,T,T,F,F,F] rfl rfl (any_of HT_.out (by kernel_rfl)) (fun _ _ _ h => h) (Or.inl ⟨by rfl, ?_⟩) ?_ ?_; rotate_left; (intro w'; go_simp; (with_reducible rfl)); rotate_left; (simp only [Act.put, zt, zu, zv, i64_w, i32_w]; rfl); refine take_ (i := 9) (N := some 57) (v := ?_) (a' := ?_) #[T,T,T,T,T,T,T,T,T,T,F,F] rfl rfl (take_ofW HT_.out HW_.out (by kernel_rfl)) (fun _ _ _ h => h) (Or.inl ⟨by rfl, ?_⟩) hHeld ?_ ?_; rotate_left; (rintro w' ⟨s0, s1, s2, s3, s4, s5, s6, s7, s8, s9, s10, s11, s12, s13, s14, s15, s16, s17, s18, s19⟩; go_simp; (with_reducible rfl)); rotate_left; (simp only [Act.put, zt, zu, zv, i64_w, i32_w]; rfl); refine one_ (i := 10) (N := some 58) #[T,T,T,T,T,T,T,T,T,T,T,F] rfl rfl (one_of HT_.out (by kernel_rfl)) (by decide) (fun K hK => ?_); refine goes_ Try.func13 (by kernel_rfl) rfl #[.agg #[.string ((rd_T25 l0_4 x45_2).f0), .string ((rd_T25 l0_4 x45_2).f1), .string ((rd_T25 l0_4 x45_2).f2), .slice A206_3 ((rd_T25 l0_4 x45_2).f3).length c206_3, .slice A206_4 ((rd_T25 l0_4 x45_2).f4).length c206_4], .agg #[.string ((rd_T25 l1_4 x45_2).f0), .string ((rd_T25 l1_4 x45_2).f1), .string ((rd_T25 l1_4 x45_2).f2), .slice A207_3 ((rd_T25 l1_4 x45_2).f3).length c207_3, .slice A207_4 ((rd_T25 l1_4 x45_2).f4).length c207_4]] (by rfl) rfl rfl (by (try simp only [List.map_toArray, List.map_cons, List.map_nil]); first | done | rfl | (simp only [List.length_drop, List.length_take]; rfl)) ?_
           with_reducible refine (ih k2 (by have := HJ2.out; have := HK2.out; omega) ((rd_T25 l0_4 x45_2).f0) ((rd_T25 l0_4 x45_2).f1) ((rd_T25 l0_4 x45_2).f2) _ _ ((rd_T25 l0_4 x45_2).f3) _ _ ((rd_T25 l0_4 x45_2).f4) ((rd_T25 l1_4 x45_2).f0) ((rd_T25 l1_4 x45_2).f1) ((rd_T25 l1_4 x45_2).f2) _ _ ((rd_T25 l1_4 x45_2).f3) _ _ ((rd_T25 l1_4 x45_2).f4) true _ ?side1 ?side2 ?side3 ?side4 ?side5 ?side6 ?side7 ?side8 A33.out).mono ?_
           (case side1 => repeat (first | exact (Kd.C_below HR206_3.out HB.out) | (with_reducible refine Kd.C_alloc ?_ _) | (with_reducible refine Kd.C_drewN ?_ _) | (with_reducible refine Kd.C_drew ?_)))
           (case side2 => exact HC206_3.out)
           (case side3 => repeat (first | exact (Kd.C_below HR206_4.out HB.out) | (with_reducible refine Kd.C_alloc ?_ _) | (with_reducible refine Kd.C_drewN ?_ _) | (with_reducible refine Kd.C_drew ?_)))
           (case side4 => exact HC206_4.out)
           (case side5 => repeat (first | exact (Kd.C_below HR207_3.out HB.out) | (with_reducible refine Kd.C_alloc ?_ _) | (with_reducible refine Kd.C_drewN ?_ _) | (with_reducible refine Kd.C_drew ?_)))
           (case side6 => exact HC207_3.out)
           (case side7 => repeat (first | exact (Kd.C_below HR207_4.out HB.out) | (with_reducible refine Kd.C_alloc ?_ _) | (with_reducible refine Kd.C_drewN ?_ _) | (with_reducible refine Kd.C_drew ?_)))
           (case side8 => exact HC207_4.out)
           rintro e w36 ⟨rfl, hb⟩; refine ⟨_, rfl, ?_⟩; have n0_ := zk (blk_below (g := gb203) (o := .cells #[.string a0_0, .string a0_1, .string a0_2, .slice A0_3 l0_3.length c0_3, .slice (some ad206) l0_4.length c0_4] 25 (0, 0)) (by (with_reducible repeat first | apply zM | apply zE | apply zF); exact BK203.out) hb); have n1_ := zk (blk_below (g := gb204) (o := .cells #[.string a1_0, .string a1_1, .string a1_2, .slice A1_3 l1_3.length c1_3, .slice (some ad207) l1_4.length c1_4] 25 (0, 0)) (by (with_reducible repeat first | apply zM | apply zE | apply zF); exact BK204.out) hb); have n2_ := zk (zs (by with_reducible repeat first | exact HB.out | apply zA | apply zN | apply zD | refine zS ?_ GE203.out | refine zS ?_ GE204.out) hb); clear BK203; clear BK204; clear HB; have BK203 := n0_; have BK204 := n1_; have HB := n2_; clear n0_ n1_ n2_
           (try clear hb)
           (try clear hb2)
           (try clear hk)
           (try clear hi)
           refine hK.out _ _ ⟨(zC BK203.out 0).trans rfl, (zC BK203.out 1).trans rfl, (zC BK203.out 2).trans rfl, (zC BK203.out 3).trans rfl, (zC BK203.out 4).trans rfl, (zC BK204.out 0).trans rfl, (zC BK204.out 1).trans rfl, (zC BK204.out 2).trans rfl, (zC BK204.out 3).trans rfl, (zC BK204.out 4).trans rfl, (zB HB hw206_0), (zB HB hw206_1), (zB HB hw206_2), (zB HB hw206_3), (zB HB hw206_4), (zB HB hw207_0), (zB HB hw207_1), (zB HB hw207_2), (zB HB hw207_3), (zB HB hw207_4)⟩ (fun hHeld => ?_); clear hK K; refine norm_ (a' := ?_) ?_ ?_; rotate_left
           ·
            show Act.put _ (some 58) _ = _
            simp only [Act.put, zt, zu, zv, i64_w, i32_w]; rfl
           refine pure_ (i := 11) (N := some 59) (v := ?_) (a' := ?_) #[T,T,T,T,T,T,T,T,T,T,T,T] rfl rfl (any_of HT_.out (by kernel_rfl)) (fun _ _ _ h => h) (Or.inl ⟨by rfl, ?_⟩) ?_ ?_; rotate_left; (intro w'; go_simp; (with_reducible rfl)); rotate_left; (simp only [Act.put, zt, zu, zv, i64_w, i32_w]; rfl); refine done_ (done_of HT_.out (by kernel_rfl)) ?_
           try go_wp2
           go_roundg k2
           case measure => have := HJ2.out; have := HK2.out; omega
           case rel => exact ⟨(wrap64 (x45_2 + 1)), (by first | rfl | (simp; done) | (simp [*]; done)), H', ⟨by have := HJ2.out; have := HK2.out; omega⟩, ⟨by (with_reducible repeat first | apply zM | apply zE | apply zF); exact BK203.out⟩, ⟨by (with_reducible repeat first | apply zM | apply zE | apply zF); exact BK204.out⟩, ⟨by with_reducible repeat first | exact HB.out | apply zA | apply zN | apply zD | refine zS ?_ GE203.out | refine zS ?_ GE204.out⟩⟩
          ·
           replace c34 := Bool.eq_false_iff.mpr c34; subst c34
           have H1 : (some false) = some r := by rw [if_neg (show ¬ (false = true) by decide)] at H; exact H
           clear H; have H := H1; clear H1; obtain rfl := Option.some.inj H
           try go_wp2
           have n0_ := zk (zE BK203.out); have n1_ := zk (zE BK204.out); have n2_ := zk (zD HB.out); clear BK203; clear BK204; clear HB; have BK203 := n0_; have BK204 := n1_; have HB := n2_; clear n0_ n1_ n2_; have p206 : 0 ≤ (x45_2 : Int) := zo (by assumption); have q206 : x45_2 < (l0_4.length : Int) := zo (by assumption); obtain ⟨ad206, A206_3, c206_3, A206_4, c206_4, e206, hx206_0, hx206_1, hx206_2, hx206_3, hx206_4, hl206_3, hi206_3, hl206_4, hi206_4⟩ := at_T25 HR0_4.out x45_2 p206 q206; have hw206_4 := hx206_4; have hw206_3 := hx206_3; have hw206_2 := hx206_2; have hw206_1 := hx206_1; have hw206_0 := hx206_0; cases e206; replace hx206_0 := zB HB hx206_0; replace hx206_1 := zB HB hx206_1; replace hx206_2 := zB HB hx206_2; replace hx206_3 := zB HB hx206_3; replace hx206_4 := zB HB hx206_4; have HR206_3 := zk hi206_3; have HC206_3 := zk hl206_3; clear hi206_3 hl206_3; have HR206_4 := zk hi206_4; have HC206_4 := zk hl206_4; clear hi206_4 hl206_4; replace p206 := eq_true p206; replace q206 := eq_true q206; have p207 : 0 ≤ (x45_2 : Int) := zo (by assumption); have q207 : x45_2 < (l1_4.length : Int) := zo (by assumption); obtain ⟨ad207, A207_3, c207_3, A207_4, c207_4, e207, hx207_0, hx207_1, hx207_2, hx207_3, hx207_4, hl207_3, hi207_3, hl207_4, hi207_4⟩ := at_T25 HR1_4.out x45_2 p207 q207; have hw207_4 := hx207_4; have hw207_3 := hx207_3; have hw207_2 := hx207_2; have hw207_1 := hx207_1; have hw207_0 := hx207_0; cases e207; replace hx207_0 := zB HB hx207_0; replace hx207_1 := zB HB hx207_1; replace hx207_2 := zB HB hx207_2; replace hx207_3 := zB HB hx207_3; replace hx207_4 := zB HB hx207_4; have HR207_3 := zk hi207_3; have HC207_3 := zk hl207_3; clear hi207_3 hl207_3; have HR207_4 := zk hi207_4; have HC207_4 := zk hl207_4; clear hi207_4 hl207_4; replace p207 := eq_true p207; replace q207 := eq_true q207; refine start_ (n := 12) (S := fun w' => w'.cell? ⟨gb203, 0, none⟩ = some (.string a0_0) ∧ w'.cell? ⟨gb203, 1, none⟩ = some (.string a0_1) ∧ w'.cell? ⟨gb203, 2, none⟩ = some (.string a0_2) ∧ w'.cell? ⟨gb203, 3, none⟩ = some (.slice A0_3 l0_3.length c0_3) ∧ w'.cell? ⟨gb203, 4, none⟩ = some (.slice (some ad206) l0_4.length c0_4) ∧ w'.cell? ⟨gb204, 0, none⟩ = some (.string a1_0) ∧ w'.cell? ⟨gb204, 1, none⟩ = some (.string a1_1) ∧ w'.cell? ⟨gb204, 2, none⟩ = some (.string a1_2) ∧ w'.cell? ⟨gb204, 3, none⟩ = some (.slice A1_3 l1_3.length c1_3) ∧ w'.cell? ⟨gb204, 4, none⟩ = some (.slice (some ad207) l1_4.length c1_4) ∧ w'.cell? (ad206.add ((x45_2).toNat * 5)) = some (.string ((rd_T25 l0_4 x45_2).f0)) ∧ w'.cell? ⟨(ad206.add ((x45_2).toNat * 5)).block, (ad206.add ((x45_2).toNat * 5)).off + 1, none⟩ = some (.string ((rd_T25 l0_4 x45_2).f1)) ∧ w'.cell? ⟨(ad206.add ((x45_2).toNat * 5)).block, (ad206.add ((x45_2).toNat * 5)).off + 2, none⟩ = some (.string ((rd_T25 l0_4 x45_2).f2)) ∧ w'.cell? ⟨(ad206.add ((x45_2).toNat * 5)).block, (ad206.add ((x45_2).toNat * 5)).off + 3, none⟩ = some (.slice A206_3 ((rd_T25 l0_4 x45_2).f3).length c206_3) ∧ w'.cell? ⟨(ad206.add ((x45_2).toNat * 5)).block, (ad206.add ((x45_2).toNat * 5)).off + 4, none⟩ = some (.slice A206_4 ((rd_T25 l0_4 x45_2).f4).length c206_4) ∧ w'.cell? (ad207.add ((x45_2).toNat * 5)) = some (.string ((rd_T25 l1_4 x45_2).f0)) ∧ w'.cell? ⟨(ad207.add ((x45_2).toNat * 5)).block, (ad207.add ((x45_2).toNat * 5)).off + 1, none⟩ = some (.string ((rd_T25 l1_4 x45_2).f1)) ∧ w'.cell? ⟨(ad207.add ((x45_2).toNat * 5)).block, (ad207.add ((x45_2).toNat * 5)).off + 2, none⟩ = some (.string ((rd_T25 l1_4 x45_2).f2)) ∧ w'.cell? ⟨(ad207.add ((x45_2).toNat * 5)).block, (ad207.add ((x45_2).toNat * 5)).off + 3, none⟩ = some (.slice A207_3 ((rd_T25 l1_4 x45_2).f3).length c207_3) ∧ w'.cell? ⟨(ad207.add ((x45_2).toNat * 5)).block, (ad207.add ((x45_2).toNat * 5)).off + 4, none⟩ = some (.slice A207_4 ((rd_T25 l1_4 x45_2).f4).length c207_4)) (ds := []) #[F,F,F,F,F,F,F,F,F,F,F,F] (by kernel_rfl) rfl rfl ⟨(zC BK203.out 0).trans rfl, (zC BK203.out 1).trans rfl, (zC BK203.out 2).trans rfl, (zC BK203.out 3).trans rfl, (zC BK203.out 4).trans rfl, (zC BK204.out 0).trans rfl, (zC BK204.out 1).trans rfl, (zC BK204.out 2).trans rfl, (zC BK204.out 3).trans rfl, (zC BK204.out 4).trans rfl, (zB HB hw206_0), (zB HB hw206_1), (zB HB hw206_2), (zB HB hw206_3), (zB HB hw206_4), (zB HB hw207_0), (zB HB hw207_1), (zB HB hw207_2), (zB HB hw207_3), (zB HB hw207_4)⟩ (fun hHeld => ?_); refine with_tabW pl_Nodes.tab6 pl_Nodes.bits6 (fun HT_ HW_ => ?_); generalize wr.drew = w37 at BK203 BK204 HB HR206_3 HR206_4 HR207_3 HR207_4 hx206_0 hx206_1 hx206_2 hx206_3 hx206_4 hx207_0 hx207_1 hx207_2 hx207_3 hx207_4 hHeld ⊢; refine pure_ (i := 0) (N := some 48) (v := ?_) (a' := ?_) #[T,F,F,F,F,F,F,F,F,F,F,F] rfl rfl (any_of HT_.out (by kernel_rfl)) (fun _ _ _ h => h) (Or.inl ⟨by rfl, ?_⟩) ?_ ?_; rotate_left; (intro w'; go_simp; (with_reducible rfl)); rotate_left; (simp only [Act.put, zt, zu, zv, i64_w, i32_w]; rfl); refine pure_ (i := 2) (N := some 50) (v := ?_) (a' := ?_) #[T,F,T,F,F,F,F,F,F,F,F,F] rfl rfl (any_of HT_.out (by kernel_rfl)) (fun _ _ _ h => h) (Or.inl ⟨by rfl, ?_⟩) ?_ ?_; rotate_left; (intro w'; go_simp; (with_reducible rfl)); rotate_left; (simp only [Act.put, zt, zu, zv, i64_w, i32_w]; rfl); refine pure_ (i := 5) (N := some 53) (v := ?_) (a' := ?_) #[T,F,T,F,F,T,F,F,F,F,F,F] rfl rfl (any_of HT_.out (by kernel_rfl)) (fun _ _ _ h => h) (Or.inl ⟨by rfl, ?_⟩) ?_ ?_; rotate_left; (intro w'; go_simp; (with_reducible rfl)); rotate_left; (simp only [Act.put, zt, zu, zv, i64_w, i32_w]; rfl); refine pure_ (i := 7) (N := some 55) (v := ?_) (a' := ?_) #[T,F,T,F,F,T,F,T,F,F,F,F] rfl rfl (any_of HT_.out (by kernel_rfl)) (fun _ _ _ h => h) (Or.inl ⟨by rfl, ?_⟩) ?_ ?_; rotate_left; (intro w'; go_simp; (with_reducible rfl)); rotate_left; (simp only [Act.put, zt, zu, zv, i64_w, i32_w]; rfl); refine take_ (i := 1) (N := some 49) (v := ?_) (a' := ?_) #[T,T,T,F,F,T,F,T,F,F,F,F] rfl rfl (take_ofW HT_.out HW_.out (by kernel_rfl)) (fun _ _ _ h => h) (Or.inl ⟨by rfl, ?_⟩) hHeld ?_ ?_; rotate_left; (rintro w' ⟨s0, s1, s2, s3, s4, s5, s6, s7, s8, s9, s10, s11, s12, s13, s14, s15, s16, s17, s18, s19⟩; go_simp; (with_reducible rfl)); rotate_left; (simp only [Act.put, zt, zu, zv, i64_w, i32_w]; rfl); refine pure_ (i := 3) (N := some 51) (v := ?_) (a' := ?_) #[T,T,T,T,F,T,F,T,F,F,F,F] rfl rfl (any_of HT_.out (by kernel_rfl)) (fun _ _ _ h => h) (Or.inl ⟨by rfl, ?_⟩) ?_ ?_; rotate_left; (intro w'; go_simp; (with_reducible rfl)); rotate_left; (simp only [Act.put, zt, zu, zv, i64_w, i32_w]; rfl); refine take_ (i := 4) (N := some 52) (v := ?_) (a' := ?_) #[T,T,T,T,T,T,F,T,F,F,F,F] rfl rfl (take_ofW HT_.out HW_.out (by kernel_rfl)) (fun _ _ _ h => h) (Or.inl ⟨by rfl, ?_⟩) hHeld ?_ ?_; rotate_left; (rintro w' ⟨s0, s1, s2, s3, s4, s5, s6, s7, s8, s9, s10, s11, s12, s13, s14, s15, s16, s17, s18, s19⟩; go_simp; (with_reducible rfl)); rotate_left; (simp only [Act.put, zt, zu, zv, i64_w, i32_w]; rfl); refine take_ (i := 6) (N := some 54) (v := ?_) (a' := ?_) #[T,T,T,T,T,T,T,T,F,F,F,F] rfl rfl (take_ofW HT_.out HW_.out (by kernel_rfl)) (fun _ _ _ h => h) (Or.inl ⟨by rfl, ?_⟩) hHeld ?_ ?_; rotate_left; (rintro w' ⟨s0, s1, s2, s3, s4, s5, s6, s7, s8, s9, s10, s11, s12, s13, s14, s15, s16, s17, s18, s19⟩; go_simp; (with_reducible rfl)); rotate_left; (simp only [Act.put, zt, zu, zv, i64_w, i32_w]; rfl); refine pure_ (i := 8) (N := some 56) (v := ?_) (a' := ?_) #[T,T,T,T,T,T,T,T,T,F,F,F] rfl rfl (any_of HT_.out (by kernel_rfl)) (fun _ _ _ h => h) (Or.inl ⟨by rfl, ?_⟩) ?_ ?_; rotate_left; (intro w'; go_simp; (with_reducible rfl)); rotate_left; (simp only [Act.put, zt, zu, zv, i64_w, i32_w]; rfl); refine take_ (i := 9) (N := some 57) (v := ?_) (a' := ?_) #[T,T,T,T,T,T,T,T,T,T,F,F] rfl rfl (take_ofW HT_.out HW_.out (by kernel_rfl)) (fun _ _ _ h => h) (Or.inl ⟨by rfl, ?_⟩) hHeld ?_ ?_; rotate_left; (rintro w' ⟨s0, s1, s2, s3, s4, s5, s6, s7, s8, s9, s10, s11, s12, s13, s14, s15, s16, s17, s18, s19⟩; go_simp; (with_reducible rfl)); rotate_left; (simp only [Act.put, zt, zu, zv, i64_w, i32_w]; rfl); refine one_ (i := 10) (N := some 58) #[T,T,T,T,T,T,T,T,T,T,T,F] rfl rfl (one_of HT_.out (by kernel_rfl)) (by decide) (fun K hK => ?_); refine goes_ Try.func13 (by kernel_rfl) rfl #[.agg #[.string ((rd_T25 l0_4 x45_2).f0), .string ((rd_T25 l0_4 x45_2).f1), .string ((rd_T25 l0_4 x45_2).f2), .slice A206_3 ((rd_T25 l0_4 x45_2).f3).length c206_3, .slice A206_4 ((rd_T25 l0_4 x45_2).f4).length c206_4], .agg #[.string ((rd_T25 l1_4 x45_2).f0), .string ((rd_T25 l1_4 x45_2).f1), .string ((rd_T25 l1_4 x45_2).f2), .slice A207_3 ((rd_T25 l1_4 x45_2).f3).length c207_3, .slice A207_4 ((rd_T25 l1_4 x45_2).f4).length c207_4]] (by rfl) rfl rfl (by (try simp only [List.map_toArray, List.map_cons, List.map_nil]); first | done | rfl | (simp only [List.length_drop, List.length_take]; rfl)) ?_
           with_reducible refine (ih k2 (by have := HJ2.out; have := HK2.out; omega) ((rd_T25 l0_4 x45_2).f0) ((rd_T25 l0_4 x45_2).f1) ((rd_T25 l0_4 x45_2).f2) _ _ ((rd_T25 l0_4 x45_2).f3) _ _ ((rd_T25 l0_4 x45_2).f4) ((rd_T25 l1_4 x45_2).f0) ((rd_T25 l1_4 x45_2).f1) ((rd_T25 l1_4 x45_2).f2) _ _ ((rd_T25 l1_4 x45_2).f3) _ _ ((rd_T25 l1_4 x45_2).f4) false _ ?side1 ?side2 ?side3 ?side4 ?side5 ?side6 ?side7 ?side8 A33.out).mono ?_
           (case side1 => repeat (first | exact (Kd.C_below HR206_3.out HB.out) | (with_reducible refine Kd.C_alloc ?_ _) | (with_reducible refine Kd.C_drewN ?_ _) | (with_reducible refine Kd.C_drew ?_)))
           (case side2 => exact HC206_3.out)
           (case side3 => repeat (first | exact (Kd.C_below HR206_4.out HB.out) | (with_reducible refine Kd.C_alloc ?_ _) | (with_reducible refine Kd.C_drewN ?_ _) | (with_reducible refine Kd.C_drew ?_)))
           (case side4 => exact HC206_4.out)
           (case side5 => repeat (first | exact (Kd.C_below HR207_3.out HB.out) | (with_reducible refine Kd.C_alloc ?_ _) | (with_reducible refine Kd.C_drewN ?_ _) | (with_reducible refine Kd.C_drew ?_)))
           (case side6 => exact HC207_3.out)
           (case side7 => repeat (first | exact (Kd.C_below HR207_4.out HB.out) | (with_reducible refine Kd.C_alloc ?_ _) | (with_reducible refine Kd.C_drewN ?_ _) | (with_reducible refine Kd.C_drew ?_)))
           (case side8 => exact HC207_4.out)
           rintro e w38 ⟨rfl, hb⟩; refine ⟨_, rfl, ?_⟩; have n0_ := zk (blk_below (g := gb203) (o := .cells #[.string a0_0, .string a0_1, .string a0_2, .slice A0_3 l0_3.length c0_3, .slice (some ad206) l0_4.length c0_4] 25 (0, 0)) (by (with_reducible repeat first | apply zM | apply zE | apply zF); exact BK203.out) hb); have n1_ := zk (blk_below (g := gb204) (o := .cells #[.string a1_0, .string a1_1, .string a1_2, .slice A1_3 l1_3.length c1_3, .slice (some ad207) l1_4.length c1_4] 25 (0, 0)) (by (with_reducible repeat first | apply zM | apply zE | apply zF); exact BK204.out) hb); have n2_ := zk (zs (by with_reducible repeat first | exact HB.out | apply zA | apply zN | apply zD | refine zS ?_ GE203.out | refine zS ?_ GE204.out) hb); clear BK203; clear BK204; clear HB; have BK203 := n0_; have BK204 := n1_; have HB := n2_; clear n0_ n1_ n2_
           (try clear hb)
           (try clear hb2)
           (try clear hk)
           (try clear hi)
           refine hK.out _ _ ⟨(zC BK203.out 0).trans rfl, (zC BK203.out 1).trans rfl, (zC BK203.out 2).trans rfl, (zC BK203.out 3).trans rfl, (zC BK203.out 4).trans rfl, (zC BK204.out 0).trans rfl, (zC BK204.out 1).trans rfl, (zC BK204.out 2).trans rfl, (zC BK204.out 3).trans rfl, (zC BK204.out 4).trans rfl, (zB HB hw206_0), (zB HB hw206_1), (zB HB hw206_2), (zB HB hw206_3), (zB HB hw206_4), (zB HB hw207_0), (zB HB hw207_1), (zB HB hw207_2), (zB HB hw207_3), (zB HB hw207_4)⟩ (fun hHeld => ?_); clear hK K; refine norm_ (a' := ?_) ?_ ?_; rotate_left
           ·
            show Act.put _ (some 58) _ = _
            simp only [Act.put, zt, zu, zv, i64_w, i32_w]; rfl
           refine pure_ (i := 11) (N := some 59) (v := ?_) (a' := ?_) #[T,T,T,T,T,T,T,T,T,T,T,T] rfl rfl (any_of HT_.out (by kernel_rfl)) (fun _ _ _ h => h) (Or.inl ⟨by rfl, ?_⟩) ?_ ?_; rotate_left; (intro w'; go_simp; (with_reducible rfl)); rotate_left; (simp only [Act.put, zt, zu, zv, i64_w, i32_w]; rfl); refine done_ (done_of HT_.out (by kernel_rfl)) ?_
           try go_wp2
           go_ret; exact ⟨by first | rfl | (simp [wN, wS] <;> rfl) | (simp [*, wN, wS] <;> rfl), by with_reducible repeat first | exact HB.out | apply zA | apply zN | apply zD | refine zS ?_ GE203.out | refine zS ?_ GE204.out⟩
         ·
          rw [if_neg c32] at H; exact absurd H (by simp)
        ·
         rw [if_neg c31] at H; exact absurd H (by simp)
       ·
        rw [if_neg c30] at H; exact absurd H (by simp)
      ·
       rw [if_neg c29] at H; have c29b0 := decide_eq_false c29; clear c29; obtain rfl := Option.some.inj H; go_wp2; go_ret; exact ⟨by first | rfl | (simp [wN, wS] <;> rfl) | (simp [*, wN, wS] <;> rfl), by with_reducible repeat first | exact HB.out | apply zA | apply zN | apply zD | refine zS ?_ GE203.out | refine zS ?_ GE204.out⟩
def r02_inner.f (a0 : Int) (a1 : Bool) : Option (Bool) := if a0 ≥ 97 then (if a0 ≤ 122 then (some true) else (if a0 ≥ 48 then (if a0 ≤ 57 then (some true) else (if a0 = 45 then (some true) else (if a1 = true then (if a0 = 58 then (some true) else (some (a0 == 46))) else (some false)))) else (if a0 = 45 then (some true) else (if a1 = true then (if a0 = 58 then (some true) else (some (a0 == 46))) else (some false))))) else (if a0 ≥ 48 then (if a0 ≤ 57 then (some true) else (if a0 = 45 then (some true) else (if a1 = true then (if a0 = 58 then (some true) else (some (a0 == 46))) else (some false)))) else (if a0 = 45 then (some true) else (if a1 = true then (if a0 = 58 then (some true) else (some (a0 == 46))) else (some false))))
set_option maxHeartbeats 8000000 in
set_option maxRecDepth 100000 in
theorem r02_inner.calls (a0 : Int) (a1 : Bool) (r : Bool) (w : World) (h : r02_inner.f a0 a1 = some r) :
    Calls Try.prog 53 #[.int .u8 a0, .bool a1] w fun e w' => e = .returned (.bool r) ∧ Drawn0 w w' := by
  have H : (if a0 ≥ 97 then (if a0 ≤ 122 then (some true) else (if a0 ≥ 48 then (if a0 ≤ 57 then (some true) else (if a0 = 45 then (some true) else (if a1 = true then (if a0 = 58 then (some true) else (some (a0 == 46))) else (some false)))) else (if a0 = 45 then (some true) else (if a1 = true then (if a0 = 58 then (some true) else (some (a0 == 46))) else (some false))))) else (if a0 ≥ 48 then (if a0 ≤ 57 then (some true) else (if a0 = 45 then (some true) else (if a1 = true then (if a0 = 58 then (some true) else (some (a0 == 46))) else (some false)))) else (if a0 = 45 then (some true) else (if a1 = true then (if a0 = 58 then (some true) else (some (a0 == 46))) else (some false))))) = some r := h; clear h
  by_cases c3 : a0 ≥ 97
  · rw [if_pos c3] at H
    have c3b0 : decide (97 ≤ a0) = true := decide_eq_true c3
    clear c3
    by_cases c4 : a0 ≤ 122
    · rw [if_pos c4] at H
      have c4b0 : decide (a0 ≤ 122) = true := decide_eq_true c4
      clear c4
      obtain rfl := Option.some.inj H
      go_enter Try.func53, Try.ntmps53
      go_wp2
      go_ret
      exact ⟨by first | rfl | (simp; done) | (simp [*]; done), by repeat (first | exact Drawn0.refl _ | apply Drawn0.step)⟩
    · rw [if_neg c4] at H
      have c4b0 : decide (a0 ≤ 122) = false := decide_eq_false c4
      clear c4
      by_cases c5 : a0 ≥ 48
      · rw [if_pos c5] at H
        have c5b0 : decide (48 ≤ a0) = true := decide_eq_true c5
        clear c5
        by_cases c6 : a0 ≤ 57
        · rw [if_pos c6] at H
          have c6b0 : decide (a0 ≤ 57) = true := decide_eq_true c6
          clear c6
          obtain rfl := Option.some.inj H
          go_enter Try.func53, Try.ntmps53
          go_wp2
          go_ret
          exact ⟨by first | rfl | (simp; done) | (simp [*]; done), by repeat (first | exact Drawn0.refl _ | apply Drawn0.step)⟩
        · rw [if_neg c6] at H
          have c6b0 : decide (a0 ≤ 57) = false := decide_eq_false c6
          clear c6
          by_cases c7 : a0 = 45
          · rw [if_pos c7] at H
            have c7b0 : (a0 == 45) = true := beq_iff_eq.mpr c7
            have c7b1 : (a0 != 45) = false := bne_eq_false_iff_eq.mpr c7
            clear c7
            obtain rfl := Option.some.inj H
            go_enter Try.func53, Try.ntmps53
            go_wp2
            go_ret
            exact ⟨by first | rfl | (simp; done) | (simp [*]; done), by repeat (first | exact Drawn0.refl _ | apply Drawn0.step)⟩
          · rw [if_neg c7] at H
            have c7b0 : (a0 == 45) = false := beq_eq_false_iff_ne.mpr c7
            have c7b1 : (a0 != 45) = true := bne_iff_ne.mpr c7
            by_cases c8 : a1 = true
            · subst c8
              have H1 : (if a0 = 58 then (some true) else (some (a0 == 46))) = some r := by rw [if_pos rfl] at H; exact H
              clear H
              have H := H1
              clear H1
              by_cases c9 : a0 = 58
              · rw [if_pos c9] at H
                have c9b0 : (a0 == 58) = true := beq_iff_eq.mpr c9
                have c9b1 : (a0 != 58) = false := bne_eq_false_iff_eq.mpr c9
                clear c9
                obtain rfl := Option.some.inj H
                go_enter Try.func53, Try.ntmps53
                go_wp2
                go_ret
                exact ⟨by first | rfl | (simp; done) | (simp [*]; done), by repeat (first | exact Drawn0.refl _ | apply Drawn0.step)⟩
              · rw [if_neg c9] at H
                have c9b0 : (a0 == 58) = false := beq_eq_false_iff_ne.mpr c9
                have c9b1 : (a0 != 58) = true := bne_iff_ne.mpr c9
                obtain rfl := Option.some.inj H
                go_enter Try.func53, Try.ntmps53
                go_wp2
                go_ret
                exact ⟨by first | rfl | (simp; done) | (simp [*]; done), by repeat (first | exact Drawn0.refl _ | apply Drawn0.step)⟩
            · replace c8 := Bool.eq_false_iff.mpr c8
              subst c8
              have H1 : (some false) = some r := by rw [if_neg (show ¬ (false = true) by decide)] at H; exact H
              clear H
              have H := H1
              clear H1
              obtain rfl := Option.some.inj H
              go_enter Try.func53, Try.ntmps53
              go_wp2
              go_ret
              exact ⟨by first | rfl | (simp; done) | (simp [*]; done), by repeat (first | exact Drawn0.refl _ | apply Drawn0.step)⟩
      · rw [if_neg c5] at H
        have c5b0 : decide (48 ≤ a0) = false := decide_eq_false c5
        clear c5
        by_cases c10 : a0 = 45
        · rw [if_pos c10] at H
          have c10b0 : (a0 == 45) = true := beq_iff_eq.mpr c10
          have c10b1 : (a0 != 45) = false := bne_eq_false_iff_eq.mpr c10
          clear c10
          obtain rfl := Option.some.inj H
          go_enter Try.func53, Try.ntmps53
          go_wp2
          go_ret
          exact ⟨by first | rfl | (simp; done) | (simp [*]; done), by repeat (first | exact Drawn0.refl _ | apply Drawn0.step)⟩
        · rw [if_neg c10] at H
          have c10b0 : (a0 == 45) = false := beq_eq_false_iff_ne.mpr c10
          have c10b1 : (a0 != 45) = true := bne_iff_ne.mpr c10
          by_cases c11 : a1 = true
          · subst c11
            have H1 : (if a0 = 58 then (some true) else (some (a0 == 46))) = some r := by rw [if_pos rfl] at H; exact H
            clear H
            have H := H1
            clear H1
            by_cases c12 : a0 = 58
            · rw [if_pos c12] at H
              have c12b0 : (a0 == 58) = true := beq_iff_eq.mpr c12
              have c12b1 : (a0 != 58) = false := bne_eq_false_iff_eq.mpr c12
              clear c12
              obtain rfl := Option.some.inj H
              go_enter Try.func53, Try.ntmps53
              go_wp2
              go_ret
              exact ⟨by first | rfl | (simp; done) | (simp [*]; done), by repeat (first | exact Drawn0.refl _ | apply Drawn0.step)⟩
            · rw [if_neg c12] at H
              have c12b0 : (a0 == 58) = false := beq_eq_false_iff_ne.mpr c12
              have c12b1 : (a0 != 58) = true := bne_iff_ne.mpr c12
              obtain rfl := Option.some.inj H
              go_enter Try.func53, Try.ntmps53
              go_wp2
              go_ret
              exact ⟨by first | rfl | (simp; done) | (simp [*]; done), by repeat (first | exact Drawn0.refl _ | apply Drawn0.step)⟩
          · replace c11 := Bool.eq_false_iff.mpr c11
            subst c11
            have H1 : (some false) = some r := by rw [if_neg (show ¬ (false = true) by decide)] at H; exact H
            clear H
            have H := H1
            clear H1
            obtain rfl := Option.some.inj H
            go_enter Try.func53, Try.ntmps53
            go_wp2
            go_ret
            exact ⟨by first | rfl | (simp; done) | (simp [*]; done), by repeat (first | exact Drawn0.refl _ | apply Drawn0.step)⟩
  · rw [if_neg c3] at H
    have c3b0 : decide (97 ≤ a0) = false := decide_eq_false c3
    clear c3
    by_cases c13 : a0 ≥ 48
    · rw [if_pos c13] at H
      have c13b0 : decide (48 ≤ a0) = true := decide_eq_true c13
      clear c13
      by_cases c14 : a0 ≤ 57
      · rw [if_pos c14] at H
        have c14b0 : decide (a0 ≤ 57) = true := decide_eq_true c14
        clear c14
        obtain rfl := Option.some.inj H
        go_enter Try.func53, Try.ntmps53
        go_wp2
        go_ret
        exact ⟨by first | rfl | (simp; done) | (simp [*]; done), by repeat (first | exact Drawn0.refl _ | apply Drawn0.step)⟩
      · rw [if_neg c14] at H
        have c14b0 : decide (a0 ≤ 57) = false := decide_eq_false c14
        clear c14
        by_cases c15 : a0 = 45
        · rw [if_pos c15] at H
          have c15b0 : (a0 == 45) = true := beq_iff_eq.mpr c15
          have c15b1 : (a0 != 45) = false := bne_eq_false_iff_eq.mpr c15
          clear c15
          obtain rfl := Option.some.inj H
          go_enter Try.func53, Try.ntmps53
          go_wp2
          go_ret
          exact ⟨by first | rfl | (simp; done) | (simp [*]; done), by repeat (first | exact Drawn0.refl _ | apply Drawn0.step)⟩
        · rw [if_neg c15] at H
          have c15b0 : (a0 == 45) = false := beq_eq_false_iff_ne.mpr c15
          have c15b1 : (a0 != 45) = true := bne_iff_ne.mpr c15
          by_cases c16 : a1 = true
          · subst c16
            have H1 : (if a0 = 58 then (some true) else (some (a0 == 46))) = some r := by rw [if_pos rfl] at H; exact H
            clear H
            have H := H1
            clear H1
            by_cases c17 : a0 = 58
            · rw [if_pos c17] at H
              have c17b0 := beq_iff_eq.mpr c17
              have c17b1 := bne_eq_false_iff_eq.mpr c17
              clear c17
              obtain rfl := Option.some.inj H
              go_enter Try.func53, Try.ntmps53
              go_wp2
              go_ret
              exact ⟨by first | rfl | (simp; done) | (simp [*]; done), by repeat (first | exact Drawn0.refl _ | apply Drawn0.step)⟩
            · rw [if_neg c17] at H
              have c17b0 := beq_eq_false_iff_ne.mpr c17
              have c17b1 := bne_iff_ne.mpr c17
              obtain rfl := Option.some.inj H
              go_enter Try.func53, Try.ntmps53
              go_wp2
              go_ret
              exact ⟨by first | rfl | (simp; done) | (simp [*]; done), by repeat (first | exact Drawn0.refl _ | apply Drawn0.step)⟩
          · replace c16 := Bool.eq_false_iff.mpr c16
            subst c16
            have H1 : (some false) = some r := by rw [if_neg (show ¬ (false = true) by decide)] at H; exact H
            clear H
            have H := H1
            clear H1
            obtain rfl := Option.some.inj H
            go_enter Try.func53, Try.ntmps53
            go_wp2
            go_ret
            exact ⟨by first | rfl | (simp; done) | (simp [*]; done), by repeat (first | exact Drawn0.refl _ | apply Drawn0.step)⟩
    · rw [if_neg c13] at H
      have c13b0 : decide (48 ≤ a0) = false := decide_eq_false c13
      clear c13
      by_cases c18 : a0 = 45
      · rw [if_pos c18] at H
        have c18b0 := beq_iff_eq.mpr c18
        have c18b1 := bne_eq_false_iff_eq.mpr c18
        clear c18
        obtain rfl := Option.some.inj H
        go_enter Try.func53, Try.ntmps53
        go_wp2
        go_ret
        exact ⟨by first | rfl | (simp; done) | (simp [*]; done), by repeat (first | exact Drawn0.refl _ | apply Drawn0.step)⟩
      · rw [if_neg c18] at H
        have c18b0 := beq_eq_false_iff_ne.mpr c18
        have c18b1 := bne_iff_ne.mpr c18
        by_cases c19 : a1 = true
        · subst c19
          have H1 : (if a0 = 58 then (some true) else (some (a0 == 46))) = some r := by rw [if_pos rfl] at H; exact H
          clear H
          have H := H1
          clear H1
          by_cases c20 : a0 = 58
          · rw [if_pos c20] at H
            have c20b0 := beq_iff_eq.mpr c20
            have c20b1 := bne_eq_false_iff_eq.mpr c20
            clear c20
            obtain rfl := Option.some.inj H
            go_enter Try.func53, Try.ntmps53
            go_wp2
            go_ret
            exact ⟨by first | rfl | (simp; done) | (simp [*]; done), by repeat (first | exact Drawn0.refl _ | apply Drawn0.step)⟩
          · rw [if_neg c20] at H
            have c20b0 := beq_eq_false_iff_ne.mpr c20
            have c20b1 := bne_iff_ne.mpr c20
            obtain rfl := Option.some.inj H
            go_enter Try.func53, Try.ntmps53
            go_wp2
            go_ret
            exact ⟨by first | rfl | (simp; done) | (simp [*]; done), by repeat (first | exact Drawn0.refl _ | apply Drawn0.step)⟩
        · replace c19 := Bool.eq_false_iff.mpr c19
          subst c19
          have H1 : (some false) = some r := by rw [if_neg (show ¬ (false = true) by decide)] at H; exact H
          clear H
          have H := H1
          clear H1
          obtain rfl := Option.some.inj H
          go_enter Try.func53, Try.ntmps53
          go_wp2
          go_ret
          exact ⟨by first | rfl | (simp; done) | (simp [*]; done), by repeat (first | exact Drawn0.refl _ | apply Drawn0.step)⟩
mutual
def r02_Named.j0 : Nat → ByteArray → Bool → Bool → Option (Bool)
  | 0, _, _, _ => none
  | k + 1, x0, x1, x23 => if x23 = true then (some false) else (r02_Named.l0 k x0 x1 1)
def r02_Named.l0 : Nat → ByteArray → Bool → Int → Option (Bool)
  | 0, _, _, _ => none
  | k + 1, x0, x1, x5 => if x5 < (x0.size : Int) then (if 0 ≤ x5 then ((r02_inner.f (bt x0 x5) x1).bind fun t264 => (if t264 = true then (r02_Named.l0 k x0 x1 (wrap64 (x5 + 1))) else (some false))) else (none)) else (some true)
end
def r02_Named.f (k : Nat) (a0 : ByteArray) (a1 : Bool) : Option (Bool) := if (a0.size : Int) < 1 then (r02_Named.j0 k a0 a1 true) else (if (a0.size : Int) > 32 then (r02_Named.j0 k a0 a1 true) else (if 0 < (a0.size : Int) then (if (bt a0 0) < 97 then (r02_Named.j0 k a0 a1 true) else (r02_Named.j0 k a0 a1 (decide ((bt a0 0) > 122)))) else (none)))
set_option maxHeartbeats 8000000 in
set_option maxRecDepth 100000 in
theorem r02_Named.calls (k : Nat) (a0 : ByteArray) (a1 : Bool) (r : Bool) (w : World) (h : r02_Named.f k a0 a1 = some r) :
    Calls Try.prog 49 #[.string a0, .bool a1] w fun e w' => e = .returned (.bool r) ∧ Drawn0 w w' := by
  have H : (if (a0.size : Int) < 1 then (r02_Named.j0 k a0 a1 true) else (if (a0.size : Int) > 32 then (r02_Named.j0 k a0 a1 true) else (if 0 < (a0.size : Int) then (if (bt a0 0) < 97 then (r02_Named.j0 k a0 a1 true) else (r02_Named.j0 k a0 a1 (decide ((bt a0 0) > 122)))) else (none)))) = some r := h; clear h; have HC3 := zk H; clear H
  go_enter Try.func49, Try.ntmps49
  go_upto_region 1 with (fail)
  go_cut [23] (fun v23 wc => ∃ (kq : Nat) (x23_2 : Bool), v23 = .bool x23_2 ∧ Aside0 (r02_Named.j0 kq a0 a1 x23_2 = some r) ∧ Aside0 (kq ≤ k) ∧ Drawn0 w wc)
  case first =>
    have H := HC3.out; clear HC3
    by_cases c4 : (a0.size : Int) < 1
    · rw [if_pos c4] at H
      have c4b0 : decide ((a0.size : Int) < 1) = true := decide_eq_true c4
      have c4b1 : decide (a0.size < 1) = true := decide_eq_true (by omega)
      clear c4
      (first | rw [c4b0] | (simp only [i64_w, i32_w]; rw [c4b0]) | skip)
      have H' := zk H
      clear H
      go_wp2
      go_meet
      case rel => exact ⟨_, (true), (by first | rfl | (simp; done) | (simp [*]; done)), H', ⟨by first | omega | exact Nat.le_refl _⟩, by repeat (first | exact Drawn0.refl _ | apply Drawn0.step)⟩
    · rw [if_neg c4] at H
      have c4b0 : decide ((a0.size : Int) < 1) = false := decide_eq_false c4
      have c4b1 : decide (a0.size < 1) = false := decide_eq_false (by omega)
      clear c4
      (first | rw [c4b0] | (simp only [i64_w, i32_w]; rw [c4b0]) | skip)
      by_cases c5 : (a0.size : Int) > 32
      · rw [if_pos c5] at H
        have c5b0 : decide (32 < (a0.size : Int)) = true := decide_eq_true c5
        have c5b1 : decide (32 < a0.size) = true := decide_eq_true (by omega)
        clear c5
        have H' := zk H
        clear H
        go_wp2
        go_meet
        case rel => exact ⟨_, (true), (by first | rfl | (simp; done) | (simp [*]; done)), H', ⟨by first | omega | exact Nat.le_refl _⟩, by repeat (first | exact Drawn0.refl _ | apply Drawn0.step)⟩
      · rw [if_neg c5] at H
        have c5b0 : decide (32 < (a0.size : Int)) = false := decide_eq_false c5
        have c5b1 : decide (32 < a0.size) = false := decide_eq_false (by omega)
        clear c5
        by_cases c6 : 0 < (a0.size : Int)
        · rw [if_pos c6] at H
          have c6b0 : decide (0 < (a0.size : Int)) = true := decide_eq_true c6
          have c6b1 : decide (0 < a0.size) = true := decide_eq_true (by omega)
          clear c6
          by_cases c8 : (bt a0 0) < 97
          · rw [if_pos c8] at H
            have c8b0 : decide ((bt a0 0) < 97) = true := decide_eq_true c8
            clear c8
            have H' := zk H
            clear H
            have p7 : 0 ≤ (0 : Int) := (by omega)
            have q7 : 0 < a0.size := (by have : (0 : Int) < (a0.size : Int) := zo (by assumption); omega)
            have hx7 : ∀ h : 0 < a0.size, ((a0[0]'h).toNat : Int) = bt a0 0 := bt_at a0 0
            clear p7
            have qi7 : (0 < (a0.size : Int)) = True := eq_true (zo (by assumption))
            replace q7 := eq_true q7
            go_wp2
            go_meet
            case rel => exact ⟨_, (true), (by first | rfl | (simp; done) | (simp [*]; done)), H', ⟨by first | omega | exact Nat.le_refl _⟩, by repeat (first | exact Drawn0.refl _ | apply Drawn0.step)⟩
          · rw [if_neg c8] at H
            have c8b0 : decide ((bt a0 0) < 97) = false := decide_eq_false c8
            clear c8
            have H' := zk H
            clear H
            have p7 : 0 ≤ (0 : Int) := (by omega)
            have q7 : 0 < a0.size := (by have : (0 : Int) < (a0.size : Int) := zo (by assumption); omega)
            have hx7 : ∀ h : 0 < a0.size, ((a0[0]'h).toNat : Int) = bt a0 0 := bt_at a0 0
            clear p7
            have qi7 : (0 < (a0.size : Int)) = True := eq_true (zo (by assumption))
            replace q7 := eq_true q7
            have p9 : 0 ≤ (0 : Int) := (by omega)
            have q9 : 0 < a0.size := (by have : (0 : Int) < (a0.size : Int) := zo (by assumption); omega)
            have hx9 : ∀ h : 0 < a0.size, ((a0[0]'h).toNat : Int) = bt a0 0 := bt_at a0 0
            clear p9
            have qi9 : (0 < (a0.size : Int)) = True := eq_true (zo (by assumption))
            replace q9 := eq_true q9
            go_wp2
            go_meet
            case rel => exact ⟨_, (decide ((bt a0 0) > 122)), (by first | rfl | (simp; done) | (simp [*]; done)), H', ⟨by first | omega | exact Nat.le_refl _⟩, by repeat (first | exact Drawn0.refl _ | apply Drawn0.step)⟩
        · rw [if_neg c6] at H
          exact absurd H (by simp)
  case rest =>
    clear HC3; (try clear p2); (try clear c4); (try clear c4b0); (try clear c4b1); (try clear c5); (try clear c5b0); (try clear c5b1); (try clear c6); (try clear c6b0); (try clear c6b1); (try clear p7); (try clear q7); (try clear hx7); (try clear qi7); (try clear c8); (try clear c8b0); (try clear p9); (try clear q9); (try clear hx9); (try clear qi9); (try clear p7); (try clear p9); (try clear q7); (try clear q9); obtain ⟨kq, x23_2, rfl, HA, HJ2, ⟨mc2, rfl⟩⟩ := hcut
    cases kq with
    | zero => exact absurd HA.out (by simp [r02_Named.j0])
    | succ kj2 =>
      have H := HA.out; clear HA; simp only [r02_Named.j0] at H
      by_cases c10 : x23_2 = true
      · subst c10
        have H1 : (some false) = some r := by rw [if_pos rfl] at H; exact H
        clear H
        have H := H1
        clear H1
        obtain rfl := Option.some.inj H
        go_wp2
        go_ret
        exact ⟨by first | rfl | (simp; done) | (simp [*]; done), by repeat (first | exact Drawn0.refl _ | apply Drawn0.step)⟩
      · replace c10 := Bool.eq_false_iff.mpr c10
        subst c10
        have H1 : (r02_Named.l0 kj2 a0 a1 1) = some r := by rw [if_neg (show ¬ (false = true) by decide)] at H; exact H
        clear H
        have H := H1
        clear H1
        have H' := zk H
        clear H
        go_wp2
        go_loopg [5] kj2 (fun kq v5 w' => ∃ (x5_2 : Int), v5 = .int .i64 x5_2 ∧ Aside0 (r02_Named.l0 kq a0 a1 x5_2 = some r) ∧ Aside0 (kq ≤ kj2) ∧ Drawn0 w w')
        case atStart => exact ⟨(1), (by first | rfl | (simp; done) | (simp [*]; done)), H', ⟨Nat.le_refl _⟩, by repeat (first | exact Drawn0.refl _ | apply Drawn0.step)⟩
        case round =>
          clear H'; (try clear c1); (try clear c2); (try clear p2); (try clear c4); (try clear c4b0); (try clear c4b1); (try clear c5); (try clear c5b0); (try clear c5b1); (try clear c6); (try clear c6b0); (try clear c6b1); (try clear p7); (try clear q7); (try clear hx7); (try clear qi7); (try clear c8); (try clear c8b0); (try clear p9); (try clear q9); (try clear hx9); (try clear qi9); (try clear c10); (try clear p2); (try clear p7); (try clear p9); (try clear q7); (try clear q9); obtain ⟨x5_2, rfl, HA, HK2, ⟨m2, rfl⟩⟩ := hrel
          cases gk with
          | zero => exact absurd HA.out (by simp [r02_Named.l0])
          | succ k2 =>
            have H := HA.out; clear HA; simp only [r02_Named.l0] at H
            by_cases c11 : x5_2 < (a0.size : Int)
            · rw [if_pos c11] at H
              have c11b0 : decide (x5_2 < (a0.size : Int)) = true := decide_eq_true c11
              clear c11
              by_cases c12 : 0 ≤ x5_2
              · rw [if_pos c12] at H
                have c12b0 : decide (0 ≤ x5_2) = true := decide_eq_true c12
                clear c12
                replace H := Option.bind_eq_some_iff.mp H
                obtain ⟨t264, A140, H⟩ := H
                replace H : (if t264 = true then (r02_Named.l0 k2 a0 a1 (wrap64 (x5_2 + 1))) else (some false)) = some r := H
                have A14 := zk A140
                clear A140
                by_cases c15 : t264 = true
                · subst c15
                  have H1 : (r02_Named.l0 k2 a0 a1 (wrap64 (x5_2 + 1))) = some r := by rw [if_pos rfl] at H; exact H
                  clear H
                  have H := H1
                  clear H1
                  have H' := zk H
                  clear H
                  have p13 : 0 ≤ (x5_2 : Int) := zo (by assumption)
                  have q13 : x5_2 < (a0.size : Int) := zo (by assumption)
                  have hx13 := bt_at a0 x5_2
                  replace p13 := eq_true p13
                  replace q13 := eq_true q13
                  go_wp2_with (first | ((with_reducible refine gk (f := 53) rfl ?_); refine gl (some 34) rfl rfl Try.func53 (by kernel_rfl) rfl #[.int .u8 (bt a0 x5_2), .bool a1] rfl (by (try simp only [List.map_toArray, List.map_cons, List.map_nil]); first | done | rfl | (simp only [List.length_drop, List.length_take]; rfl)) ?_; (with_reducible refine (r02_inner.calls (bt a0 x5_2) a1 true _ A14.out).mono ?_); rintro e w' ⟨rfl, ⟨nd, rfl⟩⟩; refine ⟨_, rfl, ?_⟩))
                  go_roundg k2
                  case measure => have := HJ2.out; have := HK2.out; omega
                  case rel => exact ⟨(wrap64 (x5_2 + 1)), (by first | rfl | (simp; done) | (simp [*]; done)), H', ⟨by have := HJ2.out; have := HK2.out; omega⟩, by repeat (first | exact Drawn0.refl _ | apply Drawn0.step)⟩
                · replace c15 := Bool.eq_false_iff.mpr c15
                  subst c15
                  have H1 : (some false) = some r := by rw [if_neg (show ¬ (false = true) by decide)] at H; exact H
                  clear H
                  have H := H1
                  clear H1
                  obtain rfl := Option.some.inj H
                  have p13 : 0 ≤ (x5_2 : Int) := zo (by assumption)
                  have q13 : x5_2 < (a0.size : Int) := zo (by assumption)
                  have hx13 := bt_at a0 x5_2
                  replace p13 := eq_true p13
                  replace q13 := eq_true q13
                  go_wp2_with (first | ((with_reducible refine gk (f := 53) rfl ?_); refine gl (some 34) rfl rfl Try.func53 (by kernel_rfl) rfl #[.int .u8 (bt a0 x5_2), .bool a1] rfl (by (try simp only [List.map_toArray, List.map_cons, List.map_nil]); first | done | rfl | (simp only [List.length_drop, List.length_take]; rfl)) ?_; (with_reducible refine (r02_inner.calls (bt a0 x5_2) a1 false _ A14.out).mono ?_); rintro e w' ⟨rfl, ⟨nd, rfl⟩⟩; refine ⟨_, rfl, ?_⟩))
                  go_ret
                  exact ⟨by first | rfl | (simp; done) | (simp [*]; done), by repeat (first | exact Drawn0.refl _ | apply Drawn0.step)⟩
              · rw [if_neg c12] at H
                exact absurd H (by simp)
            · rw [if_neg c11] at H
              have c11b0 : decide (x5_2 < (a0.size : Int)) = false := decide_eq_false c11; clear c11; obtain rfl := Option.some.inj H; go_wp2; go_ret; exact ⟨by first | rfl | (simp; done) | (simp [*]; done), by repeat (first | exact Drawn0.refl _ | apply Drawn0.step)⟩
mutual
def r02_Compare.l0 : Nat → ByteArray → ByteArray → Int → Option (Int)
  | 0, _, _, _ => none
  | k + 1, x0, x1, x5 => if x5 < (x0.size : Int) then (r02_Compare.j1 k x0 x1 x5 (decide (x5 < (x1.size : Int)))) else (r02_Compare.j1 k x0 x1 x5 false)
def r02_Compare.j1 : Nat → ByteArray → ByteArray → Int → Bool → Option (Int)
  | 0, _, _, _, _ => none
  | k + 1, x0, x1, x5, x15 => if x15 = true then (if 0 ≤ x5 then (if x5 < (x0.size : Int) then (if x5 < (x1.size : Int) then (if (bt x0 x5) < (bt x1 x5) then (some (-1)) else (if (bt x0 x5) > (bt x1 x5) then (some 1) else (r02_Compare.l0 k x0 x1 (wrap64 (x5 + 1))))) else (none)) else (none)) else (none)) else (if (x0.size : Int) < (x1.size : Int) then (some (-1)) else (if (x0.size : Int) > (x1.size : Int) then (some 1) else (some 0)))
end
def r02_Compare.f (k : Nat) (a0 : ByteArray) (a1 : ByteArray) : Option (Int) := r02_Compare.l0 k a0 a1 0
set_option maxHeartbeats 8000000 in
set_option maxRecDepth 100000 in
theorem r02_Compare.calls (k : Nat) (a0 : ByteArray) (a1 : ByteArray) (r : Int) (w : World) (h : r02_Compare.f k a0 a1 = some r) :
    Calls Try.prog 54 #[.string a0, .string a1] w fun e w' => e = .returned (.int .i64 r) ∧ Drawn0 w w' := by
  have H : (r02_Compare.l0 k a0 a1 0) = some r := h; clear h; have H' := zk H; clear H
  go_enter Try.func54, Try.ntmps54
  go_wp2
  repeat (go_quiet (fail); try go_wp2)
  go_loopg [5] k (fun kq v5 w' => ∃ (x5_1 : Int), v5 = .int .i64 x5_1 ∧ Aside0 (r02_Compare.l0 kq a0 a1 x5_1 = some r) ∧ Aside0 (kq ≤ k) ∧ Drawn0 w w')
  case atStart => exact ⟨(0), (by first | rfl | (simp; done) | (simp [*]; done)), H', ⟨Nat.le_refl _⟩, by repeat (first | exact Drawn0.refl _ | apply Drawn0.step)⟩
  case round =>
    clear H'; (try clear p2); obtain ⟨x5_1, rfl, HA, HK1, ⟨m1, rfl⟩⟩ := hrel
    cases gk with
    | zero => exact absurd HA.out (by simp [r02_Compare.l0])
    | succ k1 =>
      have H := HA.out; clear HA; simp only [r02_Compare.l0] at H; have HC3 := zk H; clear H
      go_upto_region 2 with (fail)
      repeat (go_quiet (fail); go_upto_region 2 with (fail))
      go_cut [15] (fun v15 wc => ∃ (kq : Nat) (x15_2 : Bool), v15 = .bool x15_2 ∧ Aside0 (r02_Compare.j1 kq a0 a1 x5_1 x15_2 = some r) ∧ Aside0 (kq ≤ k1) ∧ Drawn0 w wc)
      case first =>
        have H := HC3.out; clear HC3
        by_cases c4 : x5_1 < (a0.size : Int)
        · rw [if_pos c4] at H
          have c4b0 : decide (x5_1 < (a0.size : Int)) = true := decide_eq_true c4
          clear c4
          (first | rw [c4b0] | (simp only [i64_w, i32_w]; rw [c4b0]) | skip)
          have H' := zk H
          clear H
          go_wp2
          repeat (go_quiet (fail); try go_wp2)
          go_meet
          case rel => exact ⟨_, (decide (x5_1 < (a1.size : Int))), (by first | rfl | (simp; done) | (simp [*]; done)), H', ⟨by have := HK1.out; first | omega | exact Nat.le_refl _⟩, by repeat (first | exact Drawn0.refl _ | apply Drawn0.step)⟩
        · rw [if_neg c4] at H
          have c4b0 : decide (x5_1 < (a0.size : Int)) = false := decide_eq_false c4
          clear c4
          (first | rw [c4b0] | (simp only [i64_w, i32_w]; rw [c4b0]) | skip)
          have H' := zk H
          clear H
          go_wp2
          repeat (go_quiet (fail); try go_wp2)
          go_meet
          case rel => exact ⟨_, (false), (by first | rfl | (simp; done) | (simp [*]; done)), H', ⟨by have := HK1.out; first | omega | exact Nat.le_refl _⟩, by repeat (first | exact Drawn0.refl _ | apply Drawn0.step)⟩
      case rest =>
        clear HC3; (try clear p2); (try clear c4); (try clear c4b0); (try clear p2); obtain ⟨kq, x15_2, rfl, HA, HJ2, ⟨mc2, rfl⟩⟩ := hcut
        cases kq with
        | zero => exact absurd HA.out (by simp [r02_Compare.j1])
        | succ kj2 =>
          have H := HA.out; clear HA; simp only [r02_Compare.j1] at H
          by_cases c5 : x15_2 = true
          · subst c5
            have H1 : (if 0 ≤ x5_1 then (if x5_1 < (a0.size : Int) then (if x5_1 < (a1.size : Int) then (if (bt a0 x5_1) < (bt a1 x5_1) then (some (-1)) else (if (bt a0 x5_1) > (bt a1 x5_1) then (some 1) else (r02_Compare.l0 kj2 a0 a1 (wrap64 (x5_1 + 1))))) else (none)) else (none)) else (none)) = some r := by rw [if_pos rfl] at H; exact H
            clear H
            have H := H1
            clear H1
            by_cases c6 : 0 ≤ x5_1
            · rw [if_pos c6] at H
              have c6b0 : decide (0 ≤ x5_1) = true := decide_eq_true c6
              clear c6
              by_cases c7 : x5_1 < (a0.size : Int)
              · rw [if_pos c7] at H
                have c7b0 : decide (x5_1 < (a0.size : Int)) = true := decide_eq_true c7
                clear c7
                by_cases c9 : x5_1 < (a1.size : Int)
                · rw [if_pos c9] at H
                  have c9b0 : decide (x5_1 < (a1.size : Int)) = true := decide_eq_true c9
                  clear c9
                  by_cases c11 : (bt a0 x5_1) < (bt a1 x5_1)
                  · rw [if_pos c11] at H
                    have c11b0 : decide ((bt a0 x5_1) < (bt a1 x5_1)) = true := decide_eq_true c11
                    clear c11
                    obtain rfl := Option.some.inj H
                    have p8 : 0 ≤ (x5_1 : Int) := zo (by assumption)
                    have q8 : x5_1 < (a0.size : Int) := zo (by assumption)
                    have hx8 := bt_at a0 x5_1
                    replace p8 := eq_true p8
                    replace q8 := eq_true q8
                    have p10 : 0 ≤ (x5_1 : Int) := zo (by assumption)
                    have q10 : x5_1 < (a1.size : Int) := zo (by assumption)
                    have hx10 := bt_at a1 x5_1
                    replace p10 := eq_true p10
                    replace q10 := eq_true q10
                    go_wp2
                    repeat (go_quiet (fail); try go_wp2)
                    go_ret
                    exact ⟨by first | rfl | (simp; done) | (simp [*]; done), by repeat (first | exact Drawn0.refl _ | apply Drawn0.step)⟩
                  · rw [if_neg c11] at H
                    have c11b0 : decide ((bt a0 x5_1) < (bt a1 x5_1)) = false := decide_eq_false c11
                    clear c11
                    by_cases c14 : (bt a0 x5_1) > (bt a1 x5_1)
                    · rw [if_pos c14] at H
                      have c14b0 : decide ((bt a1 x5_1) < (bt a0 x5_1)) = true := decide_eq_true c14
                      clear c14
                      obtain rfl := Option.some.inj H
                      have p8 : 0 ≤ (x5_1 : Int) := zo (by assumption)
                      have q8 : x5_1 < (a0.size : Int) := zo (by assumption)
                      have hx8 := bt_at a0 x5_1
                      replace p8 := eq_true p8
                      replace q8 := eq_true q8
                      have p10 : 0 ≤ (x5_1 : Int) := zo (by assumption)
                      have q10 : x5_1 < (a1.size : Int) := zo (by assumption)
                      have hx10 := bt_at a1 x5_1
                      replace p10 := eq_true p10
                      replace q10 := eq_true q10
                      have p12 : 0 ≤ (x5_1 : Int) := zo (by assumption)
                      have q12 : x5_1 < (a0.size : Int) := zo (by assumption)
                      have hx12 := bt_at a0 x5_1
                      replace p12 := eq_true p12
                      replace q12 := eq_true q12
                      have p13 : 0 ≤ (x5_1 : Int) := zo (by assumption)
                      have q13 : x5_1 < (a1.size : Int) := zo (by assumption)
                      have hx13 := bt_at a1 x5_1
                      replace p13 := eq_true p13
                      replace q13 := eq_true q13
                      go_wp2
                      repeat (go_quiet (fail); try go_wp2)
                      go_ret
                      exact ⟨by first | rfl | (simp; done) | (simp [*]; done), by repeat (first | exact Drawn0.refl _ | apply Drawn0.step)⟩
                    · rw [if_neg c14] at H
                      have c14b0 : decide ((bt a1 x5_1) < (bt a0 x5_1)) = false := decide_eq_false c14
                      clear c14
                      have H' := zk H
                      clear H
                      have p8 : 0 ≤ (x5_1 : Int) := zo (by assumption)
                      have q8 : x5_1 < (a0.size : Int) := zo (by assumption)
                      have hx8 := bt_at a0 x5_1
                      replace p8 := eq_true p8
                      replace q8 := eq_true q8
                      have p10 : 0 ≤ (x5_1 : Int) := zo (by assumption)
                      have q10 : x5_1 < (a1.size : Int) := zo (by assumption)
                      have hx10 := bt_at a1 x5_1
                      replace p10 := eq_true p10
                      replace q10 := eq_true q10
                      have p12 : 0 ≤ (x5_1 : Int) := zo (by assumption)
                      have q12 : x5_1 < (a0.size : Int) := zo (by assumption)
                      have hx12 := bt_at a0 x5_1
                      replace p12 := eq_true p12
                      replace q12 := eq_true q12
                      have p13 : 0 ≤ (x5_1 : Int) := zo (by assumption)
                      have q13 : x5_1 < (a1.size : Int) := zo (by assumption)
                      have hx13 := bt_at a1 x5_1
                      replace p13 := eq_true p13
                      replace q13 := eq_true q13
                      go_wp2
                      repeat (go_quiet (fail); try go_wp2)
                      go_roundg kj2
                      case measure => have := HK1.out; have := HJ2.out; omega
                      case rel => exact ⟨(wrap64 (x5_1 + 1)), (by first | rfl | (simp; done) | (simp [*]; done)), H', ⟨by have := HK1.out; have := HJ2.out; omega⟩, by repeat (first | exact Drawn0.refl _ | apply Drawn0.step)⟩
                · rw [if_neg c9] at H
                  exact absurd H (by simp)
              · rw [if_neg c7] at H
                exact absurd H (by simp)
            · rw [if_neg c6] at H
              exact absurd H (by simp)
          · replace c5 := Bool.eq_false_iff.mpr c5
            subst c5
            have H1 : (if (a0.size : Int) < (a1.size : Int) then (some (-1)) else (if (a0.size : Int) > (a1.size : Int) then (some 1) else (some 0))) = some r := by rw [if_neg (show ¬ (false = true) by decide)] at H; exact H
            clear H
            have H := H1
            clear H1
            by_cases c15 : (a0.size : Int) < (a1.size : Int)
            · rw [if_pos c15] at H
              have c15b0 : decide ((a0.size : Int) < (a1.size : Int)) = true := decide_eq_true c15
              have c15b1 : decide (a0.size < a1.size) = true := decide_eq_true (Int.ofNat_lt.mp c15)
              clear c15
              obtain rfl := Option.some.inj H
              go_wp2
              repeat (go_quiet (fail); try go_wp2)
              go_ret
              exact ⟨by first | rfl | (simp; done) | (simp [*]; done), by repeat (first | exact Drawn0.refl _ | apply Drawn0.step)⟩
            · rw [if_neg c15] at H
              have c15b0 : decide ((a0.size : Int) < (a1.size : Int)) = false := decide_eq_false c15
              have c15b1 : decide (a0.size < a1.size) = false := decide_eq_false (fun h => c15 (Int.ofNat_lt.mpr h))
              clear c15
              by_cases c16 : (a0.size : Int) > (a1.size : Int)
              · rw [if_pos c16] at H
                have c16b0 : decide ((a1.size : Int) < (a0.size : Int)) = true := decide_eq_true c16
                have c16b1 : decide (a1.size < a0.size) = true := decide_eq_true (Int.ofNat_lt.mp c16)
                clear c16
                obtain rfl := Option.some.inj H
                go_wp2
                repeat (go_quiet (fail); try go_wp2)
                go_ret
                exact ⟨by first | rfl | (simp; done) | (simp [*]; done), by repeat (first | exact Drawn0.refl _ | apply Drawn0.step)⟩
              · rw [if_neg c16] at H
                have c16b0 : decide ((a1.size : Int) < (a0.size : Int)) = false := decide_eq_false c16
                have c16b1 : decide (a1.size < a0.size) = false := decide_eq_false (fun h => c16 (Int.ofNat_lt.mpr h))
                clear c16
                obtain rfl := Option.some.inj H
                go_wp2
                repeat (go_quiet (fail); try go_wp2)
                go_ret
                exact ⟨by first | rfl | (simp; done) | (simp [*]; done), by repeat (first | exact Drawn0.refl _ | apply Drawn0.step)⟩
mutual
def r09_Check.l0 : Nat → List (S69) → Int → Int → Option (Int × Int)
 | 0, _, _, _ => none
 | k + 1, x0, x6, x7 => if x7 < x6 then (if x7 = 64 then (some (x7, 12)) else (if 0 ≤ x7 then (if x7 < (x0.length : Int) then ((r02_Named.f k ((rd_T69 x0 x7).f0) true).bind fun t266 => (if t266 = true then (if (((rd_T69 x0 x7).f1).size : Int) > 65536 then (some (x7, 3)) else (if x7 > 0 then (if 0 ≤ (wrap64 (x7 - 1)) then (if (wrap64 (x7 - 1)) < (x0.length : Int) then (r09_Check.j1 k x0 x7 x6 x7 (((rd_T69 x0 (wrap64 (x7 - 1))).f0).toList == ((rd_T69 x0 x7).f0).toList)) else (none)) else (none)) else (r09_Check.j1 k x0 x7 x6 x7 false))) else (some (x7, 8)))) else (none)) else (none))) else (some (0, 0))
def r09_Check.j1 : Nat → List (S69) → Int → Int → Int → Bool → Option (Int × Int)
 | 0, _, _, _, _, _ => none
 | k + 1, x0, x4, x6, x7, x44 => if x44 = true then (some (x4, 10)) else (if x4 > 0 then (if 0 ≤ (wrap64 (x4 - 1)) then (if (wrap64 (x4 - 1)) < (x0.length : Int) then (if 0 ≤ x4 then (if x4 < (x0.length : Int) then ((r02_Compare.f k ((rd_T69 x0 (wrap64 (x4 - 1))).f0) ((rd_T69 x0 x4).f0)).bind fun t272 => (if t272 > 0 then (some (x4, 9)) else (r09_Check.l0 k x0 x6 (wrap64 (x7 + 1))))) else (none)) else (none)) else (none)) else (none)) else (r09_Check.l0 k x0 x6 (wrap64 (x7 + 1))))
end
def r09_Check.f (k : Nat) (l0 : List (S69)) : Option (Int × Int) := r09_Check.l0 k l0 (l0.length : Int) 0
set_option maxHeartbeats 8000000 in
set_option maxRecDepth 100000 in
theorem r09_Check.calls (k : Nat) (A0 : Option Addr) (c0 : Nat) (l0 : List (S69)) (r1 : Int) (r2 : Int) (w : World) (hr0 : Kd.C k69 w A0 l0.length l0) (hc0 : l0.length ≤ c0) (h : r09_Check.f k l0 = some (r1, r2)) :
  Calls Try.prog 50 #[.slice A0 l0.length c0] w fun e w' => e = .returned (.tuple #[.int .i64 r1, .int .i64 r2]) ∧ Drawn0 w w' := by
 have HR0 := zk hr0
 have HC0 := zk hc0
 clear hr0 hc0
 have H : (r09_Check.l0 k l0 (l0.length : Int) 0) = some (r1, r2) := h
 clear h
 have H' := zk H
 clear H
 go_enter Try.func50, Try.ntmps50
 go_wp2
 repeat (go_quiet (fail); try go_wp2)
 go_loopg [7] k (fun kq v7 w' => ∃ (x7_1 : Int), v7 = .int .i64 x7_1 ∧ Aside0 (r09_Check.l0 kq l0 (l0.length : Int) x7_1 = some (r1, r2)) ∧ Aside0 (kq ≤ k) ∧ Drawn0 w w')
 case atStart => exact ⟨(0), (by first | rfl | (simp; done) | (simp [*]; done)), H', ⟨Nat.le_refl _⟩, by repeat (first | exact Drawn0.refl _ | apply Drawn0.step)⟩
 case round =>
  clear H'; obtain ⟨x7_1, rfl, HA, HK1, ⟨m1, rfl⟩⟩ := hrel
  cases gk with
  | zero => exact absurd HA.out (by simp [r09_Check.l0])
  | succ k1 =>
   have H := HA.out; clear HA; simp only [r09_Check.l0] at H
   by_cases c2 : x7_1 < (l0.length : Int)
   ·
    rw [if_pos c2] at H; have c2b0 := decide_eq_true c2; clear c2
    by_cases c3 : x7_1 = 64
    ·
     rw [if_pos c3] at H; have c3b0 : (x7_1 == 64) = true := beq_iff_eq.mpr c3; have c3b1 : (x7_1 != 64) = false := bne_eq_false_iff_eq.mpr c3; clear c3; simp only [Option.some.injEq, Prod.mk.injEq] at H; obtain ⟨rfl, rfl⟩ := H; go_wp2
     repeat (go_quiet (fail); try go_wp2)
     go_ret2
     exact ⟨by first | rfl | (simp; done) | (simp [*]; done), by repeat (first | exact Drawn0.refl _ | apply Drawn0.step)⟩
    ·
     rw [if_neg c3] at H; have c3b0 : (x7_1 == 64) = false := beq_eq_false_iff_ne.mpr c3; have c3b1 : (x7_1 != 64) = true := bne_iff_ne.mpr c3
     by_cases c4 : 0 ≤ x7_1
     ·
      rw [if_pos c4] at H; have c4b0 : decide (0 ≤ x7_1) = true := decide_eq_true c4; clear c4
      by_cases c5 : x7_1 < (l0.length : Int)
      ·
       rw [if_pos c5] at H; have c5b0 := decide_eq_true c5; clear c5; replace H := Option.bind_eq_some_iff.mp H; obtain ⟨t266, A60, H⟩ := H; replace H : (if t266 = true then (if (((rd_T69 l0 x7_1).f1).size : Int) > 65536 then (some (x7_1, 3)) else (if x7_1 > 0 then (if 0 ≤ (wrap64 (x7_1 - 1)) then (if (wrap64 (x7_1 - 1)) < (l0.length : Int) then (r09_Check.j1 k1 l0 x7_1 (l0.length : Int) x7_1 (((rd_T69 l0 (wrap64 (x7_1 - 1))).f0).toList == ((rd_T69 l0 x7_1).f0).toList)) else (none)) else (none)) else (r09_Check.j1 k1 l0 x7_1 (l0.length : Int) x7_1 false))) else (some (x7_1, 8))) = some (r1, r2) := H; have A6 := zk A60; clear A60
       by_cases c7 : t266 = true
       ·
        subst c7
        have H1 : (if (((rd_T69 l0 x7_1).f1).size : Int) > 65536 then (some (x7_1, 3)) else (if x7_1 > 0 then (if 0 ≤ (wrap64 (x7_1 - 1)) then (if (wrap64 (x7_1 - 1)) < (l0.length : Int) then (r09_Check.j1 k1 l0 x7_1 (l0.length : Int) x7_1 (((rd_T69 l0 (wrap64 (x7_1 - 1))).f0).toList == ((rd_T69 l0 x7_1).f0).toList)) else (none)) else (none)) else (r09_Check.j1 k1 l0 x7_1 (l0.length : Int) x7_1 false))) = some (r1, r2) := by rw [if_pos rfl] at H; exact H
        clear H; have H := H1; clear H1
        by_cases c8 : (((rd_T69 l0 x7_1).f1).size : Int) > 65536
        ·
         rw [if_pos c8] at H; have c8b0 : decide (65536 < (((rd_T69 l0 x7_1).f1).size : Int)) = true := decide_eq_true c8; have c8b1 : decide (65536 < ((rd_T69 l0 x7_1).f1).size) = true := decide_eq_true (by omega); clear c8; simp only [Option.some.injEq, Prod.mk.injEq] at H; obtain ⟨rfl, rfl⟩ := H; have p265 : 0 ≤ (x7_1 : Int) := zo (by assumption); have q265 : x7_1 < (l0.length : Int) := zo (by assumption); obtain ⟨ad265, e265, hx265_0, hx265_1⟩ := at_T69 HR0.out x7_1 p265 q265; cases e265; replace p265 := eq_true p265; replace q265 := eq_true q265
         go_wp2_with (first | (go_at_call 49; (with_reducible refine (r02_Named.calls k1 ((rd_T69 l0 x7_1).f0) true true _ A6.out).mono ?_); rintro e w' ⟨rfl, ⟨nd, rfl⟩⟩; (try first | exact ⟨rfl, _, World.drewN_drewN _ _ _⟩ | exact ⟨rfl, _, Eq.trans (World.drewN_drewN _ _ _) (congrArg (World.drewN _) (Nat.add_assoc _ _ _))⟩); have p267 : 0 ≤ (x7_1 : Int) := zo (by assumption); have q267 : x7_1 < (l0.length : Int) := zo (by assumption); obtain ⟨ad267, e267, hx267_0, hx267_1⟩ := at_T69 HR0.out x7_1 p267 q267; obtain rfl : ad265 = ad267 := (by injection e267); replace p267 := eq_true p267; replace q267 := eq_true q267))
         repeat (go_quiet (first | (go_at_call 49; (with_reducible refine (r02_Named.calls k1 ((rd_T69 l0 x7_1).f0) true true _ A6.out).mono ?_); rintro e w' ⟨rfl, ⟨nd, rfl⟩⟩; (try first | exact ⟨rfl, _, World.drewN_drewN _ _ _⟩ | exact ⟨rfl, _, Eq.trans (World.drewN_drewN _ _ _) (congrArg (World.drewN _) (Nat.add_assoc _ _ _))⟩); have p267 : 0 ≤ (x7_1 : Int) := zo (by assumption); have q267 : x7_1 < (l0.length : Int) := zo (by assumption); obtain ⟨ad267, e267, hx267_0, hx267_1⟩ := at_T69 HR0.out x7_1 p267 q267; obtain rfl : ad265 = ad267 := (by injection e267); replace p267 := eq_true p267; replace q267 := eq_true q267)); try go_wp2_with (first | (go_at_call 49; (with_reducible refine (r02_Named.calls k1 ((rd_T69 l0 x7_1).f0) true true _ A6.out).mono ?_); rintro e w' ⟨rfl, ⟨nd, rfl⟩⟩; (try first | exact ⟨rfl, _, World.drewN_drewN _ _ _⟩ | exact ⟨rfl, _, Eq.trans (World.drewN_drewN _ _ _) (congrArg (World.drewN _) (Nat.add_assoc _ _ _))⟩); have p267 : 0 ≤ (x7_1 : Int) := zo (by assumption); have q267 : x7_1 < (l0.length : Int) := zo (by assumption); obtain ⟨ad267, e267, hx267_0, hx267_1⟩ := at_T69 HR0.out x7_1 p267 q267; obtain rfl : ad265 = ad267 := (by injection e267); replace p267 := eq_true p267; replace q267 := eq_true q267)))
         go_ret2
         exact ⟨by first | rfl | (simp; done) | (simp [*]; done), by repeat (first | exact Drawn0.refl _ | apply Drawn0.step)⟩
        ·
         rw [if_neg c8] at H; have c8b0 : decide (65536 < (((rd_T69 l0 x7_1).f1).size : Int)) = false := decide_eq_false c8; have c8b1 : decide (65536 < ((rd_T69 l0 x7_1).f1).size) = false := decide_eq_false (by omega); clear c8; have HC9 := zk H; clear H; have p265 : 0 ≤ (x7_1 : Int) := zo (by assumption); have q265 : x7_1 < (l0.length : Int) := zo (by assumption); obtain ⟨ad265, e265, hx265_0, hx265_1⟩ := at_T69 HR0.out x7_1 p265 q265; cases e265; replace p265 := eq_true p265; replace q265 := eq_true q265
         go_upto_region 10 with (first | (go_at_call 49; (with_reducible refine (r02_Named.calls k1 ((rd_T69 l0 x7_1).f0) true true _ A6.out).mono ?_); rintro e w' ⟨rfl, ⟨nd, rfl⟩⟩; (try first | exact ⟨rfl, _, World.drewN_drewN _ _ _⟩ | exact ⟨rfl, _, Eq.trans (World.drewN_drewN _ _ _) (congrArg (World.drewN _) (Nat.add_assoc _ _ _))⟩); have p267 : 0 ≤ (x7_1 : Int) := zo (by assumption); have q267 : x7_1 < (l0.length : Int) := zo (by assumption); obtain ⟨ad267, e267, hx267_0, hx267_1⟩ := at_T69 HR0.out x7_1 p267 q267; obtain rfl : ad265 = ad267 := (by injection e267); replace p267 := eq_true p267; replace q267 := eq_true q267))
         repeat (go_quiet (first | (go_at_call 49; (with_reducible refine (r02_Named.calls k1 ((rd_T69 l0 x7_1).f0) true true _ A6.out).mono ?_); rintro e w' ⟨rfl, ⟨nd, rfl⟩⟩; (try first | exact ⟨rfl, _, World.drewN_drewN _ _ _⟩ | exact ⟨rfl, _, Eq.trans (World.drewN_drewN _ _ _) (congrArg (World.drewN _) (Nat.add_assoc _ _ _))⟩); have p267 : 0 ≤ (x7_1 : Int) := zo (by assumption); have q267 : x7_1 < (l0.length : Int) := zo (by assumption); obtain ⟨ad267, e267, hx267_0, hx267_1⟩ := at_T69 HR0.out x7_1 p267 q267; obtain rfl : ad265 = ad267 := (by injection e267); replace p267 := eq_true p267; replace q267 := eq_true q267)); go_upto_region 10 with (first | (go_at_call 49; (with_reducible refine (r02_Named.calls k1 ((rd_T69 l0 x7_1).f0) true true _ A6.out).mono ?_); rintro e w' ⟨rfl, ⟨nd, rfl⟩⟩; (try first | exact ⟨rfl, _, World.drewN_drewN _ _ _⟩ | exact ⟨rfl, _, Eq.trans (World.drewN_drewN _ _ _) (congrArg (World.drewN _) (Nat.add_assoc _ _ _))⟩); have p267 : 0 ≤ (x7_1 : Int) := zo (by assumption); have q267 : x7_1 < (l0.length : Int) := zo (by assumption); obtain ⟨ad267, e267, hx267_0, hx267_1⟩ := at_T69 HR0.out x7_1 p267 q267; obtain rfl : ad265 = ad267 := (by injection e267); replace p267 := eq_true p267; replace q267 := eq_true q267)))
         (try simp only [Act.put, List.setIfInBounds_toArray, List.set_cons_zero, List.set_cons_succ])
         go_cut [44] (fun v44 wc => ∃ (kq : Nat) (x44_8 : Bool), v44 = .bool x44_8 ∧ Aside0 (r09_Check.j1 kq l0 x7_1 (l0.length : Int) x7_1 x44_8 = some (r1, r2)) ∧ Aside0 (kq ≤ k1) ∧ Drawn0 w wc)
         case first =>
          have H := HC9.out; clear HC9
          by_cases c10 : x7_1 > 0
          ·
           rw [if_pos c10] at H; have c10b0 : decide (0 < x7_1) = true := decide_eq_true c10; clear c10
           (first | rw [c10b0] | (simp only [i64_w, i32_w]; rw [c10b0]) | skip)
           obtain ⟨ji11, hji11⟩ : ∃ j_ : Int, (wrap64 (x7_1 - 1)) = j_ := ⟨_, rfl⟩
           replace H : (if 0 ≤ (ji11) then (if (ji11) < (l0.length : Int) then (r09_Check.j1 k1 l0 x7_1 (l0.length : Int) x7_1 (((rd_T69 l0 (ji11)).f0).toList == ((rd_T69 l0 x7_1).f0).toList)) else (none)) else (none)) = some (r1, r2) := by first | (rw [hji11] at H; exact H) | (simp only [hji11] at H ⊢; exact H)
           have hji11w : (IntKind.i64.wrap (x7_1 - 1)) = ji11 := (i64_w _).trans hji11
           by_cases c12 : 0 ≤ (ji11)
           ·
            rw [if_pos c12] at H; have c12b0 := decide_eq_true c12; clear c12
            by_cases c13 : (ji11) < (l0.length : Int)
            ·
             rw [if_pos c13] at H; have c13b0 := decide_eq_true c13; clear c13; have H' := zk H; clear H; have p268 : 0 ≤ ((ji11) : Int) := zo (by assumption); have q268 : (ji11) < (l0.length : Int) := zo (by assumption); obtain ⟨ad268, e268, hx268_0, hx268_1⟩ := at_T69 HR0.out (ji11) p268 q268; obtain rfl : ad265 = ad268 := (by injection e268); replace p268 := eq_true p268; replace q268 := eq_true q268; have p269 : 0 ≤ (x7_1 : Int) := zo (by assumption); have q269 : x7_1 < (l0.length : Int) := zo (by assumption); obtain ⟨ad269, e269, hx269_0, hx269_1⟩ := at_T69 HR0.out x7_1 p269 q269; obtain rfl : ad265 = ad269 := (by injection e269); replace p269 := eq_true p269; replace q269 := eq_true q269; go_wp2
             repeat (go_quiet (fail); try go_wp2)
             go_meet
             case rel => exact ⟨_, ((((rd_T69 l0 (ji11)).f0).toList == ((rd_T69 l0 x7_1).f0).toList)), (by first | rfl | (simp; done) | (simp only [← hji11] <;> (first | rfl | simp)) | (simp [*]; done)), H', ⟨by have := HK1.out; first | omega | exact Nat.le_refl _⟩, by repeat (first | exact Drawn0.refl _ | apply Drawn0.step)⟩
            ·
             rw [if_neg c13] at H; exact absurd H (by simp)
           ·
            rw [if_neg c12] at H; exact absurd H (by simp)
          ·
           rw [if_neg c10] at H; have c10b0 : decide (0 < x7_1) = false := decide_eq_false c10; clear c10
           (first | rw [c10b0] | (simp only [i64_w, i32_w]; rw [c10b0]) | skip)
           have H' := zk H; clear H; go_wp2
           repeat (go_quiet (fail); try go_wp2)
           go_meet
           case rel => exact ⟨_, (false), (by first | rfl | (simp; done) | (simp [*]; done)), H', ⟨by have := HK1.out; first | omega | exact Nat.le_refl _⟩, by repeat (first | exact Drawn0.refl _ | apply Drawn0.step)⟩
         case rest =>
          clear HC9; (try clear c1); (try clear c2); (try clear c2b0); (try clear p2); (try clear q2); (try clear hx2); (try clear c3); (try clear c3b0); (try clear c3b1); (try clear c4); (try clear c4b0); (try clear c5); (try clear c5b0); (try clear p6); (try clear c7); (try clear c8); (try clear c8b0); (try clear c8b1); (try clear c10); (try clear c10b0); (try clear c12); (try clear c12b0); (try clear c13); (try clear c13b0); (try clear hx265_0); (try clear hx265_1); (try clear hx267_0); (try clear hx267_1); (try clear hx268_0); (try clear hx268_1); (try clear hx269_0); (try clear hx269_1); (try clear p265); (try clear p267); (try clear p268); (try clear p269); (try clear q265); (try clear q267); (try clear q268); (try clear q269); obtain ⟨kq, x44_8, rfl, HA, HJ8, ⟨mc8, rfl⟩⟩ := hcut
          cases kq with
          | zero => exact absurd HA.out (by simp [r09_Check.j1])
          | succ kj8 =>
           have H := HA.out; clear HA; simp only [r09_Check.j1] at H
           by_cases c14 : x44_8 = true
           ·
            subst c14
            have H1 : (some (x7_1, 10)) = some (r1, r2) := by rw [if_pos rfl] at H; exact H
            clear H; have H := H1; clear H1; simp only [Option.some.injEq, Prod.mk.injEq] at H; obtain ⟨rfl, rfl⟩ := H; go_wp2
            repeat (go_quiet (fail); try go_wp2)
            go_ret2
            exact ⟨by first | rfl | (simp; done) | (simp [*]; done), by repeat (first | exact Drawn0.refl _ | apply Drawn0.step)⟩
           ·
            replace c14 := Bool.eq_false_iff.mpr c14; subst c14
            have H1 : (if x7_1 > 0 then (if 0 ≤ (wrap64 (x7_1 - 1)) then (if (wrap64 (x7_1 - 1)) < (l0.length : Int) then (if 0 ≤ x7_1 then (if x7_1 < (l0.length : Int) then ((r02_Compare.f kj8 ((rd_T69 l0 (wrap64 (x7_1 - 1))).f0) ((rd_T69 l0 x7_1).f0)).bind fun t272 => (if t272 > 0 then (some (x7_1, 9)) else (r09_Check.l0 kj8 l0 (l0.length : Int) (wrap64 (x7_1 + 1))))) else (none)) else (none)) else (none)) else (none)) else (r09_Check.l0 kj8 l0 (l0.length : Int) (wrap64 (x7_1 + 1)))) = some (r1, r2) := by rw [if_neg (show ¬ (false = true) by decide)] at H; exact H
            clear H; have H := H1; clear H1
            by_cases c15 : x7_1 > 0
            ·
             rw [if_pos c15] at H; have c15b0 : decide (0 < x7_1) = true := decide_eq_true c15; clear c15; obtain ⟨ji16, hji16⟩ : ∃ j_ : Int, (wrap64 (x7_1 - 1)) = j_ := ⟨_, rfl⟩
             replace H : (if 0 ≤ (ji16) then (if (ji16) < (l0.length : Int) then (if 0 ≤ x7_1 then (if x7_1 < (l0.length : Int) then ((r02_Compare.f kj8 ((rd_T69 l0 (ji16)).f0) ((rd_T69 l0 x7_1).f0)).bind fun t272 => (if t272 > 0 then (some (x7_1, 9)) else (r09_Check.l0 kj8 l0 (l0.length : Int) (wrap64 (x7_1 + 1))))) else (none)) else (none)) else (none)) else (none)) = some (r1, r2) := by first | (rw [hji16] at H; exact H) | (simp only [hji16] at H ⊢; exact H)
             have hji16w : (IntKind.i64.wrap (x7_1 - 1)) = ji16 := (i64_w _).trans hji16
             by_cases c17 : 0 ≤ (ji16)
             ·
              rw [if_pos c17] at H; have c17b0 := decide_eq_true c17; clear c17
              by_cases c18 : (ji16) < (l0.length : Int)
              ·
               rw [if_pos c18] at H; have c18b0 := decide_eq_true c18; clear c18
               by_cases c19 : 0 ≤ x7_1
               ·
                rw [if_pos c19] at H; have c19b0 := decide_eq_true c19; clear c19
                by_cases c20 : x7_1 < (l0.length : Int)
                ·
                 rw [if_pos c20] at H; have c20b0 := decide_eq_true c20; clear c20; replace H := Option.bind_eq_some_iff.mp H; obtain ⟨t272, A210, H⟩ := H; replace H : (if t272 > 0 then (some (x7_1, 9)) else (r09_Check.l0 kj8 l0 (l0.length : Int) (wrap64 (x7_1 + 1)))) = some (r1, r2) := H; have A21 := zk A210; clear A210
                 by_cases c22 : t272 > 0
                 ·
                  rw [if_pos c22] at H; have c22b0 : decide (0 < t272) = true := decide_eq_true c22; clear c22; simp only [Option.some.injEq, Prod.mk.injEq] at H; obtain ⟨rfl, rfl⟩ := H; have p270 : 0 ≤ ((ji16) : Int) := zo (by assumption); have q270 : (ji16) < (l0.length : Int) := zo (by assumption); obtain ⟨ad270, e270, hx270_0, hx270_1⟩ := at_T69 HR0.out (ji16) p270 q270; obtain rfl : ad265 = ad270 := (by injection e270); replace p270 := eq_true p270; replace q270 := eq_true q270; have p271 : 0 ≤ (x7_1 : Int) := zo (by assumption); have q271 : x7_1 < (l0.length : Int) := zo (by assumption); obtain ⟨ad271, e271, hx271_0, hx271_1⟩ := at_T69 HR0.out x7_1 p271 q271; obtain rfl : ad265 = ad271 := (by injection e271); replace p271 := eq_true p271; replace q271 := eq_true q271
                  go_wp2_with (first | (go_at_call 54; (with_reducible refine (r02_Compare.calls kj8 ((rd_T69 l0 (ji16)).f0) ((rd_T69 l0 x7_1).f0) t272 _ A21.out).mono ?_); rintro e w' ⟨rfl, ⟨nd, rfl⟩⟩; (try first | exact ⟨rfl, _, World.drewN_drewN _ _ _⟩ | exact ⟨rfl, _, Eq.trans (World.drewN_drewN _ _ _) (congrArg (World.drewN _) (Nat.add_assoc _ _ _))⟩)))
                  repeat (go_quiet (first | (go_at_call 54; (with_reducible refine (r02_Compare.calls kj8 ((rd_T69 l0 (ji16)).f0) ((rd_T69 l0 x7_1).f0) t272 _ A21.out).mono ?_); rintro e w' ⟨rfl, ⟨nd, rfl⟩⟩; (try first | exact ⟨rfl, _, World.drewN_drewN _ _ _⟩ | exact ⟨rfl, _, Eq.trans (World.drewN_drewN _ _ _) (congrArg (World.drewN _) (Nat.add_assoc _ _ _))⟩))); try go_wp2_with (first | (go_at_call 54; (with_reducible refine (r02_Compare.calls kj8 ((rd_T69 l0 (ji16)).f0) ((rd_T69 l0 x7_1).f0) t272 _ A21.out).mono ?_); rintro e w' ⟨rfl, ⟨nd, rfl⟩⟩; (try first | exact ⟨rfl, _, World.drewN_drewN _ _ _⟩ | exact ⟨rfl, _, Eq.trans (World.drewN_drewN _ _ _) (congrArg (World.drewN _) (Nat.add_assoc _ _ _))⟩))))
                  go_ret2
                  exact ⟨by first | rfl | (simp; done) | (simp only [← hji16] <;> (first | rfl | simp)) | (simp [*]; done), by repeat (first | exact Drawn0.refl _ | apply Drawn0.step)⟩
                 ·
                  rw [if_neg c22] at H; have c22b0 : decide (0 < t272) = false := decide_eq_false c22; clear c22; have H' := zk H; clear H; have p270 : 0 ≤ ((ji16) : Int) := zo (by assumption); have q270 : (ji16) < (l0.length : Int) := zo (by assumption); obtain ⟨ad270, e270, hx270_0, hx270_1⟩ := at_T69 HR0.out (ji16) p270 q270; obtain rfl : ad265 = ad270 := (by injection e270); replace p270 := eq_true p270; replace q270 := eq_true q270; have p271 : 0 ≤ (x7_1 : Int) := zo (by assumption); have q271 : x7_1 < (l0.length : Int) := zo (by assumption); obtain ⟨ad271, e271, hx271_0, hx271_1⟩ := at_T69 HR0.out x7_1 p271 q271; obtain rfl : ad265 = ad271 := (by injection e271); replace p271 := eq_true p271; replace q271 := eq_true q271
                  go_wp2_with (first | (go_at_call 54; (with_reducible refine (r02_Compare.calls kj8 ((rd_T69 l0 (ji16)).f0) ((rd_T69 l0 x7_1).f0) t272 _ A21.out).mono ?_); rintro e w' ⟨rfl, ⟨nd, rfl⟩⟩; (try first | exact ⟨rfl, _, World.drewN_drewN _ _ _⟩ | exact ⟨rfl, _, Eq.trans (World.drewN_drewN _ _ _) (congrArg (World.drewN _) (Nat.add_assoc _ _ _))⟩)))
                  repeat (go_quiet (first | (go_at_call 54; (with_reducible refine (r02_Compare.calls kj8 ((rd_T69 l0 (ji16)).f0) ((rd_T69 l0 x7_1).f0) t272 _ A21.out).mono ?_); rintro e w' ⟨rfl, ⟨nd, rfl⟩⟩; (try first | exact ⟨rfl, _, World.drewN_drewN _ _ _⟩ | exact ⟨rfl, _, Eq.trans (World.drewN_drewN _ _ _) (congrArg (World.drewN _) (Nat.add_assoc _ _ _))⟩))); try go_wp2_with (first | (go_at_call 54; (with_reducible refine (r02_Compare.calls kj8 ((rd_T69 l0 (ji16)).f0) ((rd_T69 l0 x7_1).f0) t272 _ A21.out).mono ?_); rintro e w' ⟨rfl, ⟨nd, rfl⟩⟩; (try first | exact ⟨rfl, _, World.drewN_drewN _ _ _⟩ | exact ⟨rfl, _, Eq.trans (World.drewN_drewN _ _ _) (congrArg (World.drewN _) (Nat.add_assoc _ _ _))⟩))))
                  go_roundg kj8
                  case measure => have := HK1.out; have := HJ8.out; omega
                  case rel => exact ⟨(wrap64 (x7_1 + 1)), (by first | rfl | (simp; done) | (simp [*]; done)), H', ⟨by have := HK1.out; have := HJ8.out; omega⟩, by repeat (first | exact Drawn0.refl _ | apply Drawn0.step)⟩
                ·
                 rw [if_neg c20] at H; exact absurd H (by simp)
               ·
                rw [if_neg c19] at H; exact absurd H (by simp)
              ·
               rw [if_neg c18] at H; exact absurd H (by simp)
             ·
              rw [if_neg c17] at H; exact absurd H (by simp)
            ·
             rw [if_neg c15] at H; have c15b0 : decide (0 < x7_1) = false := decide_eq_false c15; clear c15; have H' := zk H; clear H; go_wp2
             repeat (go_quiet (fail); try go_wp2)
             go_roundg kj8
             case measure => have := HK1.out; have := HJ8.out; omega
             case rel => exact ⟨(wrap64 (x7_1 + 1)), (by first | rfl | (simp; done) | (simp [*]; done)), H', ⟨by have := HK1.out; have := HJ8.out; omega⟩, by repeat (first | exact Drawn0.refl _ | apply Drawn0.step)⟩
       ·
        replace c7 := Bool.eq_false_iff.mpr c7; subst c7
        have H1 : (some (x7_1, 8)) = some (r1, r2) := by rw [if_neg (show ¬ (false = true) by decide)] at H; exact H
        clear H; have H := H1; clear H1; simp only [Option.some.injEq, Prod.mk.injEq] at H; obtain ⟨rfl, rfl⟩ := H; have p265 : 0 ≤ (x7_1 : Int) := zo (by assumption); have q265 : x7_1 < (l0.length : Int) := zo (by assumption); obtain ⟨ad265, e265, hx265_0, hx265_1⟩ := at_T69 HR0.out x7_1 p265 q265; cases e265; replace p265 := eq_true p265; replace q265 := eq_true q265
        go_wp2_with (first | (go_at_call 49; (with_reducible refine (r02_Named.calls k1 ((rd_T69 l0 x7_1).f0) true false _ A6.out).mono ?_); rintro e w' ⟨rfl, ⟨nd, rfl⟩⟩; (try first | exact ⟨rfl, _, World.drewN_drewN _ _ _⟩ | exact ⟨rfl, _, Eq.trans (World.drewN_drewN _ _ _) (congrArg (World.drewN _) (Nat.add_assoc _ _ _))⟩)))
        repeat (go_quiet (first | (go_at_call 49; (with_reducible refine (r02_Named.calls k1 ((rd_T69 l0 x7_1).f0) true false _ A6.out).mono ?_); rintro e w' ⟨rfl, ⟨nd, rfl⟩⟩; (try first | exact ⟨rfl, _, World.drewN_drewN _ _ _⟩ | exact ⟨rfl, _, Eq.trans (World.drewN_drewN _ _ _) (congrArg (World.drewN _) (Nat.add_assoc _ _ _))⟩))); try go_wp2_with (first | (go_at_call 49; (with_reducible refine (r02_Named.calls k1 ((rd_T69 l0 x7_1).f0) true false _ A6.out).mono ?_); rintro e w' ⟨rfl, ⟨nd, rfl⟩⟩; (try first | exact ⟨rfl, _, World.drewN_drewN _ _ _⟩ | exact ⟨rfl, _, Eq.trans (World.drewN_drewN _ _ _) (congrArg (World.drewN _) (Nat.add_assoc _ _ _))⟩))))
        go_ret2
        exact ⟨by first | rfl | (simp; done) | (simp [*]; done), by repeat (first | exact Drawn0.refl _ | apply Drawn0.step)⟩
      ·
       rw [if_neg c5] at H; exact absurd H (by simp)
     ·
      rw [if_neg c4] at H; exact absurd H (by simp)
   ·
    rw [if_neg c2] at H; have c2b0 := decide_eq_false c2; clear c2; simp only [Option.some.injEq, Prod.mk.injEq] at H; obtain ⟨rfl, rfl⟩ := H; go_wp2
    repeat (go_quiet (fail); try go_wp2)
    go_ret2
    exact ⟨by first | rfl | (simp; done) | (simp [*]; done), by repeat (first | exact Drawn0.refl _ | apply Drawn0.step)⟩
def r11_Alone.f (k : Nat) (a0_0 : ByteArray) (a0_1 : ByteArray) (a0_2 : ByteArray) (l0_3 : List (S69)) (l0_4 : List (S25)) : Option (Int) := (r02_Named.f k a0_0 false).bind fun t274 => (if t274 = true then (if (a0_1.size : Int) > 65536 then (some 3) else (if (a0_2.size : Int) > 65536 then (some 3) else ((r09_Check.f k l0_3).bind fun bt275 => (some bt275.2)))) else (some 7))
set_option maxHeartbeats 8000000 in
set_option maxRecDepth 100000 in
theorem r11_Alone.calls (k : Nat) (a0_0 : ByteArray) (a0_1 : ByteArray) (a0_2 : ByteArray) (A0_3 : Option Addr) (c0_3 : Nat) (l0_3 : List (S69)) (A0_4 : Option Addr) (c0_4 : Nat) (l0_4 : List (S25)) (r : Int) (w : World) (hr0_3 : Kd.C k69 w A0_3 l0_3.length l0_3) (hc0_3 : l0_3.length ≤ c0_3) (hr0_4 : Kd.C k25 w A0_4 l0_4.length l0_4) (hc0_4 : l0_4.length ≤ c0_4) (h : r11_Alone.f k a0_0 a0_1 a0_2 l0_3 l0_4 = some r) :
    Calls Try.prog 41 #[.agg #[.string a0_0, .string a0_1, .string a0_2, .slice A0_3 l0_3.length c0_3, .slice A0_4 l0_4.length c0_4]] w fun e w' => e = .returned (.int .i64 r) ∧ Below w.heap.size w w' := by
  have hu25 := Try.underlying25; have HR0_3 := zk hr0_3; have HC0_3 := zk hc0_3; clear hr0_3 hc0_3; have HR0_4 := zk hr0_4; have HC0_4 := zk hc0_4; clear hr0_4 hc0_4; have HB := zk (Below.refl w.heap.size w); have H : ((r02_Named.f k a0_0 false).bind fun t274 => (if t274 = true then (if (a0_1.size : Int) > 65536 then (some 3) else (if (a0_2.size : Int) > 65536 then (some 3) else ((r09_Check.f k l0_3).bind fun bt275 => (some bt275.2)))) else (some 7))) = some r := h; clear h; replace H := Option.bind_eq_some_iff.mp H; obtain ⟨t274, A20, H⟩ := H; replace H : (if t274 = true then (if (a0_1.size : Int) > 65536 then (some 3) else (if (a0_2.size : Int) > 65536 then (some 3) else ((r09_Check.f k l0_3).bind fun bt275 => (some bt275.2)))) else (some 7)) = some r := H; have A2 := zk A20; clear A20
  by_cases c3 : t274 = true
  · subst c3
    have H1 : (if (a0_1.size : Int) > 65536 then (some 3) else (if (a0_2.size : Int) > 65536 then (some 3) else ((r09_Check.f k l0_3).bind fun bt275 => (some bt275.2)))) = some r := by rw [if_pos rfl] at H; exact H
    clear H
    have H := H1
    clear H1
    by_cases c4 : (a0_1.size : Int) > 65536
    · rw [if_pos c4] at H
      have c4b0 : decide (65536 < (a0_1.size : Int)) = true := decide_eq_true c4
      have c4b1 : decide (65536 < a0_1.size) = true := decide_eq_true (by omega)
      clear c4
      obtain rfl := Option.some.inj H
      go_enter Try.func41, Try.ntmps41
      go_wp2_with (first | ((with_reducible refine gd (N := 1) rfl ?_); (try (refine gg (by rfl) ?_; dsimp only)); refine zb ?hg (N := 1) ?hd (cs := #[.string a0_0, .string a0_1, .string a0_2, .slice A0_3 l0_3.length c0_3, .slice A0_4 l0_4.length c0_4]) (t := 25) ?hr ?_; (case hd => rfl); (case hg => rfl); (case hr => go_simp; first | done | rfl); intro gb273 hg w5 hbox hb; have n0_ := zk (zs (by with_reducible repeat first | exact HB.out | apply zA | apply zN | apply zD) hb); have n1_ := zk (hbox); have n2_ := zk ((by rw [hg]; exact (zq (by with_reducible repeat first | exact HB.out | apply zA | apply zN | apply zD)) : w.heap.size ≤ gb273)); have n3_ := n2_; clear HB; have HB := n0_; have BK273 := n1_; have GW273 := n2_; have GE273 := n3_; clear n0_ n1_ n2_ n3_; clear hb hbox hg; obtain ⟨hcz6_0, hcz6_1, hcz6_2, hcz6_3, hcz6_4, hfz6_0, hfz6_1, hfz6_2, hfz6_3, hfz6_4⟩ := zc5 BK273.out) | ((with_reducible refine gk (f := 49) rfl ?_); refine gl (some 7) rfl rfl Try.func49 (by kernel_rfl) rfl #[.string a0_0, .bool false] rfl (by (try simp only [List.map_toArray, List.map_cons, List.map_nil]); first | done | rfl | (simp only [List.length_drop, List.length_take]; rfl)) ?_; (with_reducible refine (r02_Named.calls k a0_0 false true _ A2.out).mono ?_); rintro e w' ⟨rfl, ⟨nd, rfl⟩⟩; refine ⟨_, rfl, ?_⟩))
      go_ret
      exact ⟨by first | rfl | (simp [wN, wS] <;> rfl) | (simp [*, wN, wS] <;> rfl), by with_reducible repeat first | exact HB.out | apply zA | apply zN | apply zD | refine zS ?_ GE273.out⟩
    · rw [if_neg c4] at H
      have c4b0 : decide (65536 < (a0_1.size : Int)) = false := decide_eq_false c4
      have c4b1 : decide (65536 < a0_1.size) = false := decide_eq_false (by omega)
      clear c4
      by_cases c7 : (a0_2.size : Int) > 65536
      · rw [if_pos c7] at H
        have c7b0 : decide (65536 < (a0_2.size : Int)) = true := decide_eq_true c7
        have c7b1 : decide (65536 < a0_2.size) = true := decide_eq_true (by omega)
        clear c7
        obtain rfl := Option.some.inj H
        go_enter Try.func41, Try.ntmps41
        go_wp2_with (first | ((with_reducible refine gd (N := 1) rfl ?_); (try (refine gg (by rfl) ?_; dsimp only)); refine zb ?hg (N := 1) ?hd (cs := #[.string a0_0, .string a0_1, .string a0_2, .slice A0_3 l0_3.length c0_3, .slice A0_4 l0_4.length c0_4]) (t := 25) ?hr ?_; (case hd => rfl); (case hg => rfl); (case hr => go_simp; first | done | rfl); intro gb273 hg w8 hbox hb; have n0_ := zk (zs (by with_reducible repeat first | exact HB.out | apply zA | apply zN | apply zD) hb); have n1_ := zk (hbox); have n2_ := zk ((by rw [hg]; exact (zq (by with_reducible repeat first | exact HB.out | apply zA | apply zN | apply zD)) : w.heap.size ≤ gb273)); have n3_ := n2_; clear HB; have HB := n0_; have BK273 := n1_; have GW273 := n2_; have GE273 := n3_; clear n0_ n1_ n2_ n3_; clear hb hbox hg; obtain ⟨hcz9_0, hcz9_1, hcz9_2, hcz9_3, hcz9_4, hfz9_0, hfz9_1, hfz9_2, hfz9_3, hfz9_4⟩ := zc5 BK273.out) | ((with_reducible refine gk (f := 49) rfl ?_); refine gl (some 7) rfl rfl Try.func49 (by kernel_rfl) rfl #[.string a0_0, .bool false] rfl (by (try simp only [List.map_toArray, List.map_cons, List.map_nil]); first | done | rfl | (simp only [List.length_drop, List.length_take]; rfl)) ?_; (with_reducible refine (r02_Named.calls k a0_0 false true _ A2.out).mono ?_); rintro e w' ⟨rfl, ⟨nd, rfl⟩⟩; refine ⟨_, rfl, ?_⟩))
        go_ret
        exact ⟨by first | rfl | (simp [wN, wS] <;> rfl) | (simp [*, wN, wS] <;> rfl), by with_reducible repeat first | exact HB.out | apply zA | apply zN | apply zD | refine zS ?_ GE273.out⟩
      · rw [if_neg c7] at H
        have c7b0 : decide (65536 < (a0_2.size : Int)) = false := decide_eq_false c7
        have c7b1 : decide (65536 < a0_2.size) = false := decide_eq_false (by omega)
        clear c7
        replace H := Option.bind_eq_some_iff.mp H
        obtain ⟨⟨t275, t276⟩, A100, H⟩ := H
        replace H : (some t276) = some r := H
        have A10 := zk A100
        clear A100
        obtain rfl := Option.some.inj H
        go_enter Try.func41, Try.ntmps41
        go_wp2_with (first | ((with_reducible refine gd (N := 1) rfl ?_); (try (refine gg (by rfl) ?_; dsimp only)); refine zb ?hg (N := 1) ?hd (cs := #[.string a0_0, .string a0_1, .string a0_2, .slice A0_3 l0_3.length c0_3, .slice A0_4 l0_4.length c0_4]) (t := 25) ?hr ?_; (case hd => rfl); (case hg => rfl); (case hr => go_simp; first | done | rfl); intro gb273 hg w11 hbox hb; have n0_ := zk (zs (by with_reducible repeat first | exact HB.out | apply zA | apply zN | apply zD) hb); have n1_ := zk (hbox); have n2_ := zk ((by rw [hg]; exact (zq (by with_reducible repeat first | exact HB.out | apply zA | apply zN | apply zD)) : w.heap.size ≤ gb273)); have n3_ := n2_; clear HB; have HB := n0_; have BK273 := n1_; have GW273 := n2_; have GE273 := n3_; clear n0_ n1_ n2_ n3_; clear hb hbox hg; obtain ⟨hcz12_0, hcz12_1, hcz12_2, hcz12_3, hcz12_4, hfz12_0, hfz12_1, hfz12_2, hfz12_3, hfz12_4⟩ := zc5 BK273.out) | ((with_reducible refine gk (f := 49) rfl ?_); refine gl (some 7) rfl rfl Try.func49 (by kernel_rfl) rfl #[.string a0_0, .bool false] rfl (by (try simp only [List.map_toArray, List.map_cons, List.map_nil]); first | done | rfl | (simp only [List.length_drop, List.length_take]; rfl)) ?_; (with_reducible refine (r02_Named.calls k a0_0 false true _ A2.out).mono ?_); rintro e w' ⟨rfl, ⟨nd, rfl⟩⟩; refine ⟨_, rfl, ?_⟩) | ((with_reducible refine gk (f := 50) rfl ?_); refine gl (some 22) rfl rfl Try.func50 (by kernel_rfl) rfl #[.slice A0_3 l0_3.length c0_3] rfl (by (try simp only [List.map_toArray, List.map_cons, List.map_nil]); first | done | rfl | (simp only [List.length_drop, List.length_take]; rfl)) ?_; (with_reducible refine (r09_Check.calls k _ _ l0_3 t275 t276 _ ?side1 ?side2 A10.out).mono ?_); (case side1 => repeat (first | exact (Kd.C_below HR0_3.out (by with_reducible repeat first | exact HB.out | apply zA | apply zN | apply zD | refine zS ?_ GE273.out)) | (with_reducible refine Kd.C_alloc ?_ _) | (with_reducible refine Kd.C_drewN ?_ _) | (with_reducible refine Kd.C_drew ?_))); (case side2 => exact HC0_3.out); rintro e w' ⟨rfl, ⟨nd, rfl⟩⟩; refine ⟨_, rfl, ?_⟩))
        go_ret
        exact ⟨by first | rfl | (simp [wN, wS] <;> rfl) | (simp [*, wN, wS] <;> rfl), by with_reducible repeat first | exact HB.out | apply zA | apply zN | apply zD | refine zS ?_ GE273.out⟩
  · replace c3 := Bool.eq_false_iff.mpr c3
    subst c3
    have H1 : (some 7) = some r := by rw [if_neg (show ¬ (false = true) by decide)] at H; exact H
    clear H
    have H := H1
    clear H1
    obtain rfl := Option.some.inj H
    go_enter Try.func41, Try.ntmps41
    go_wp2_with (first | ((with_reducible refine gd (N := 1) rfl ?_); (try (refine gg (by rfl) ?_; dsimp only)); refine zb ?hg (N := 1) ?hd (cs := #[.string a0_0, .string a0_1, .string a0_2, .slice A0_3 l0_3.length c0_3, .slice A0_4 l0_4.length c0_4]) (t := 25) ?hr ?_; (case hd => rfl); (case hg => rfl); (case hr => go_simp; first | done | rfl); intro gb273 hg w13 hbox hb; have n0_ := zk (zs (by with_reducible repeat first | exact HB.out | apply zA | apply zN | apply zD) hb); have n1_ := zk (hbox); have n2_ := zk ((by rw [hg]; exact (zq (by with_reducible repeat first | exact HB.out | apply zA | apply zN | apply zD)) : w.heap.size ≤ gb273)); have n3_ := n2_; clear HB; have HB := n0_; have BK273 := n1_; have GW273 := n2_; have GE273 := n3_; clear n0_ n1_ n2_ n3_; clear hb hbox hg; obtain ⟨hcz14_0, hcz14_1, hcz14_2, hcz14_3, hcz14_4, hfz14_0, hfz14_1, hfz14_2, hfz14_3, hfz14_4⟩ := zc5 BK273.out) | ((with_reducible refine gk (f := 49) rfl ?_); refine gl (some 7) rfl rfl Try.func49 (by kernel_rfl) rfl #[.string a0_0, .bool false] rfl (by (try simp only [List.map_toArray, List.map_cons, List.map_nil]); first | done | rfl | (simp only [List.length_drop, List.length_take]; rfl)) ?_; (with_reducible refine (r02_Named.calls k a0_0 false false _ A2.out).mono ?_); rintro e w' ⟨rfl, ⟨nd, rfl⟩⟩; refine ⟨_, rfl, ?_⟩))
    go_ret
    exact ⟨by first | rfl | (simp [wN, wS] <;> rfl) | (simp [*, wN, wS] <;> rfl), by with_reducible repeat first | exact HB.out | apply zA | apply zN | apply zD | refine zS ?_ GE273.out⟩
end Go.Proofs.Ytcebfldagnjddaa.G
namespace Go.Proofs.Ytcebfldagnjddaa.G
open Go.RowKit Go.Proofs.YtcebfldagnjddaaW.PrintWords Go.Proofs.YtcebfldagnjddaaW.PrintLast Go.Proofs.YtcebfldagnjddaaW.PrintMore
set_option linter.unusedVariables false
set_option maxHeartbeats 1000000 in
set_option maxRecDepth 100000 in
theorem stringslite_IndexByte (s : ByteArray) (c : Int) (w : World) :
    Calls Try.prog 62 #[.string s, .int .u8 c] w fun e w' => e = .returned (.int .i64 (Lib.indexByte s.data.toList c.toNat.toUInt8)) ∧ w' = w := by
  go_enter Try.func62, Try.ntmps62
  go_wp2; rw [run_callFunc_extern Try.func63 (by kernel_rfl) (by kernel_rfl) (by kernel_rfl) (e := Extern.BytealgIndexByte.indexByte) (by kernel_rfl), Lib.run_indexByteString]; simp only [Result.andThen]; rw [Oper.upon_value]; go_wp2; go_ret; exact ⟨rfl, rfl⟩
def strings_IndexByte.f (a0 : ByteArray) (a1 : Int) : Option Int := some (Lib.indexByte a0.data.toList a1.toNat.toUInt8)
set_option maxHeartbeats 1000000 in
theorem strings_IndexByte.calls (a0 : ByteArray) (a1 : Int) (r : Int) (w : World) (h : strings_IndexByte.f a0 a1 = some r) :
    Calls Try.prog 61 #[.string a0, .int .u8 a1] w fun e w' => e = .returned (.int .i64 r) ∧ Drawn0 w w' := by
  obtain rfl : _ = r := Option.some.inj h
  go_enter Try.func61, Try.ntmps61
  go_wp2_with (go_at_call 62; refine (stringslite_IndexByte _ _ _).mono ?_; rintro e w' ⟨rfl, rfl⟩)
  go_ret; exact ⟨rfl, ⟨0, rfl⟩⟩
end Go.Proofs.Ytcebfldagnjddaa.G
namespace Go.Proofs.Ytcebfldagnjddaa.G
open Go.RowKit Go.Proofs.YtcebfldagnjddaaW.PrintWords Go.Proofs.YtcebfldagnjddaaW.PrintLast Go.Proofs.YtcebfldagnjddaaW.PrintMore
attribute [local go_sem] max2_int min2_int max_two min_two max_three min_three max_four min_four
set_option linter.unusedVariables false
set_option linter.unusedSimpArgs false
def chars_small.f (a0 : Int) : Option (Bool) := if a0 ≥ 97 then (some (decide (a0 ≤ 122))) else (some false)
set_option maxHeartbeats 8000000 in
set_option maxRecDepth 100000 in
theorem chars_small.calls (a0 : Int) (r : Bool) (w : World) (h : chars_small.f a0 = some r) :
    Calls Try.prog 60 #[.int .u8 a0] w fun e w' => e = .returned (.bool r) ∧ Drawn0 w w' := by
  have H : (if a0 ≥ 97 then (some (decide (a0 ≤ 122))) else (some false)) = some r := h; clear h
  by_cases c2 : a0 ≥ 97
  · rw [if_pos c2] at H
    have c2b0 : decide (97 ≤ a0) = true := decide_eq_true c2
    clear c2
    obtain rfl := Option.some.inj H
    go_enter Try.func60, Try.ntmps60
    go_wp2
    go_ret
    exact ⟨by first | rfl | (simp; done) | (simp [*]; done), by repeat (first | exact Drawn0.refl _ | apply Drawn0.step)⟩
  · rw [if_neg c2] at H
    have c2b0 : decide (97 ≤ a0) = false := decide_eq_false c2
    clear c2
    obtain rfl := Option.some.inj H
    go_enter Try.func60, Try.ntmps60
    go_wp2
    go_ret
    exact ⟨by first | rfl | (simp; done) | (simp [*]; done), by repeat (first | exact Drawn0.refl _ | apply Drawn0.step)⟩
mutual
def chars_named.j0 : Nat → ByteArray → ByteArray → Bool → Option (Bool)
 | 0, _, _, _ => none
 | k + 1, x0, x1, x19 => if x19 = true then (some false) else (chars_named.l0 k x0 x1 (x0.size : Int) 0)
def chars_named.l0 : Nat → ByteArray → ByteArray → Int → Int → Option (Bool)
 | 0, _, _, _, _ => none
 | k + 1, x0, x1, x21, x22 => if x22 < x21 then (if 0 ≤ x22 then (if x22 < (x0.size : Int) then ((chars_small.f (bt x0 x22)).bind fun t102 => (if t102 = true then (chars_named.l0 k x0 x1 x21 (wrap64 (x22 + 1))) else (if (bt x0 x22) < 48 then ((strings_IndexByte.f x1 (bt x0 x22)).bind fun t103 => (if t103 < 0 then (some false) else (chars_named.l0 k x0 x1 x21 (wrap64 (x22 + 1))))) else (if (bt x0 x22) > 57 then ((strings_IndexByte.f x1 (bt x0 x22)).bind fun t104 => (if t104 < 0 then (some false) else (chars_named.l0 k x0 x1 x21 (wrap64 (x22 + 1))))) else (chars_named.l0 k x0 x1 x21 (wrap64 (x22 + 1))))))) else (none)) else (none)) else (some true)
end
def chars_named.f (k : Nat) (a0 : ByteArray) (a1 : ByteArray) : Option (Bool) := if a0.toList = ([] : List UInt8) then (chars_named.j0 k a0 a1 true) else (if (a0.size : Int) > 32 then (chars_named.j0 k a0 a1 true) else (if 0 < (a0.size : Int) then ((chars_small.f (bt a0 0)).bind fun t101 => (chars_named.j0 k a0 a1 (!t101))) else (none)))
theorem chars_named.mono_l : ∀ k, (∀ y0 y1 y2, LeO (chars_named.j0 k y0 y1 y2) (chars_named.j0 (k + 1) y0 y1 y2)) ∧ (∀ y0 y1 y2 y3, LeO (chars_named.l0 k y0 y1 y2 y3) (chars_named.l0 (k + 1) y0 y1 y2 y3))
 | 0 => ⟨fun _ _ _ r h => by simp [chars_named.j0] at h, fun _ _ _ _ r h => by simp [chars_named.l0] at h⟩
 | k + 1 => by
  obtain ⟨ih0, ih1⟩ := chars_named.mono_l k
  refine ⟨?_, ?_⟩
  ·
   intro y0 y1 y2
   unfold chars_named.j0
   with_reducible repeat' first | exact ih0 _ _ _ | exact ih1 _ _ _ _ | exact LeO.refl _ | exact LeO.none _ | refine LeO.ite ?_ ?_ | refine LeO.bind ?_ (fun _ => ?_)
  ·
   intro y0 y1 y2 y3
   unfold chars_named.l0
   with_reducible repeat' first | exact ih0 _ _ _ | exact ih1 _ _ _ _ | exact LeO.refl _ | exact LeO.none _ | refine LeO.ite ?_ ?_ | refine LeO.bind ?_ (fun _ => ?_)
theorem chars_named.mono : ∀ a0 a1 k, LeO (chars_named.f k a0 a1) (chars_named.f (k + 1) a0 a1) := by
 intro a0 a1 k
 obtain ⟨ih0, ih1⟩ := chars_named.mono_l k
 unfold chars_named.f
 with_reducible repeat' first | exact ih0 _ _ _ | exact ih1 _ _ _ _ | exact LeO.refl _ | exact LeO.none _ | refine LeO.ite ?_ ?_ | refine LeO.bind ?_ (fun _ => ?_)
set_option maxHeartbeats 8000000 in
set_option maxRecDepth 100000 in
theorem chars_named.calls (k : Nat) (a0 : ByteArray) (a1 : ByteArray) (r : Bool) (w : World) (h : chars_named.f k a0 a1 = some r) :
  Calls Try.prog 58 #[.string a0, .string a1] w fun e w' => e = .returned (.bool r) ∧ Drawn0 w w' := by
 have H : (if a0.toList = ([] : List UInt8) then (chars_named.j0 k a0 a1 true) else (if (a0.size : Int) > 32 then (chars_named.j0 k a0 a1 true) else (if 0 < (a0.size : Int) then ((chars_small.f (bt a0 0)).bind fun t101 => (chars_named.j0 k a0 a1 (!t101))) else (none)))) = some r := h
 clear h
 have HC3 := zk H
 clear H
 go_enter Try.func58, Try.ntmps58
 go_upto_region 1 with (fail)
 go_cut [19] (fun v19 wc => ∃ (kq : Nat) (x19_2 : Bool), v19 = .bool x19_2 ∧ Aside0 (chars_named.j0 kq a0 a1 x19_2 = some r) ∧ Aside0 (kq ≤ k) ∧ Drawn0 w wc)
 case first =>
  have H := HC3.out; clear HC3
  by_cases c4 : a0.toList = ([] : List UInt8)
  ·
   rw [if_pos c4] at H; have c4b0 := beq_iff_eq.mpr c4; have c4b1 := bne_eq_false_iff_eq.mpr c4; clear c4
   (first | rw [c4b0] | (simp only [i64_w, i32_w]; rw [c4b0]) | skip)
   have H' := zk H; clear H; go_wp2
   go_meet
   case rel => exact ⟨_, (true), (by first | rfl | (simp; done) | (simp [*]; done)), H', ⟨by first | omega | exact Nat.le_refl _⟩, by repeat (first | exact Drawn0.refl _ | apply Drawn0.step)⟩
  ·
   rw [if_neg c4] at H; have c4b0 := beq_eq_false_iff_ne.mpr c4; have c4b1 := bne_iff_ne.mpr c4
   (first | rw [c4b0] | (simp only [i64_w, i32_w]; rw [c4b0]) | skip)
   by_cases c5 : (a0.size : Int) > 32
   ·
    rw [if_pos c5] at H; have c5b0 : decide (32 < (a0.size : Int)) = true := decide_eq_true c5; have c5b1 : decide (32 < a0.size) = true := decide_eq_true (by omega); clear c5; have H' := zk H; clear H; go_wp2
    go_meet
    case rel => exact ⟨_, (true), (by first | rfl | (simp; done) | (simp [*]; done)), H', ⟨by first | omega | exact Nat.le_refl _⟩, by repeat (first | exact Drawn0.refl _ | apply Drawn0.step)⟩
   ·
    rw [if_neg c5] at H; have c5b0 : decide (32 < (a0.size : Int)) = false := decide_eq_false c5; have c5b1 : decide (32 < a0.size) = false := decide_eq_false (by omega); clear c5
    by_cases c6 : 0 < (a0.size : Int)
    ·
     rw [if_pos c6] at H; have c6b0 := decide_eq_true c6; have c6b1 : decide (0 < a0.size) = true := decide_eq_true (by omega); clear c6; replace H := Option.bind_eq_some_iff.mp H; obtain ⟨t101, A80, H⟩ := H; replace H : (chars_named.j0 k a0 a1 (!t101)) = some r := H; have A8 := zk A80; clear A80; have H' := zk H; clear H; have p7 : 0 ≤ (0 : Int) := (by omega); have q7 : 0 < a0.size := (by have : (0 : Int) < (a0.size : Int) := zo (by assumption); omega); have hx7 : ∀ h : 0 < a0.size, ((a0[0]'h).toNat : Int) = bt a0 0 := bt_at a0 0; clear p7; have qi7 : (0 < (a0.size : Int)) = True := eq_true (zo (by assumption)); replace q7 := eq_true q7
     go_wp2_with (first | (go_at_call 60; (with_reducible refine (chars_small.calls (bt a0 0) t101 _ A8.out).mono ?_); rintro e w' ⟨rfl, ⟨nd, rfl⟩⟩))
     go_meet
     case rel => exact ⟨_, (!t101), (by first | rfl | (simp; done) | (simp [*]; done)), H', ⟨by first | omega | exact Nat.le_refl _⟩, by repeat (first | exact Drawn0.refl _ | apply Drawn0.step)⟩
    ·
     rw [if_neg c6] at H; exact absurd H (by simp)
 case rest =>
  clear HC3; (try clear p2); (try clear c4); (try clear c4b0); (try clear c4b1); (try clear c5); (try clear c5b0); (try clear c5b1); (try clear c6); (try clear c6b0); (try clear c6b1); (try clear p7); (try clear q7); (try clear hx7); (try clear qi7); (try clear p7); (try clear q7); obtain ⟨kq, x19_2, rfl, HA, HJ2, ⟨mc2, rfl⟩⟩ := hcut
  cases kq with
  | zero => exact absurd HA.out (by simp [chars_named.j0])
  | succ kj2 =>
   have H := HA.out; clear HA; simp only [chars_named.j0] at H
   by_cases c9 : x19_2 = true
   ·
    subst c9
    have H1 : (some false) = some r := by rw [if_pos rfl] at H; exact H
    clear H; have H := H1; clear H1; obtain rfl := Option.some.inj H; go_wp2; go_ret; exact ⟨by first | rfl | (simp; done) | (simp [*]; done), by repeat (first | exact Drawn0.refl _ | apply Drawn0.step)⟩
   ·
    replace c9 := Bool.eq_false_iff.mpr c9; subst c9
    have H1 : (chars_named.l0 kj2 a0 a1 (a0.size : Int) 0) = some r := by rw [if_neg (show ¬ (false = true) by decide)] at H; exact H
    clear H; have H := H1; clear H1; have H' := zk H; clear H; go_wp2
    go_loopg [22] kj2 (fun kq v22 w' => ∃ (x22_2 : Int), v22 = .int .i64 x22_2 ∧ Aside0 (chars_named.l0 kq a0 a1 (a0.size : Int) x22_2 = some r) ∧ Aside0 (kq ≤ kj2) ∧ Drawn0 w w')
    case atStart => exact ⟨(0), (by first | rfl | (simp; done) | (simp [*]; done)), H', ⟨Nat.le_refl _⟩, by repeat (first | exact Drawn0.refl _ | apply Drawn0.step)⟩
    case round =>
     clear H'; (try clear c2); (try clear p2); (try clear c4); (try clear c4b0); (try clear c4b1); (try clear c5); (try clear c5b0); (try clear c5b1); (try clear c6); (try clear c6b0); (try clear c6b1); (try clear p7); (try clear q7); (try clear hx7); (try clear qi7); (try clear c9); (try clear p2); (try clear p7); (try clear q7); obtain ⟨x22_2, rfl, HA, HK2, ⟨m2, rfl⟩⟩ := hrel
     cases gk with
     | zero => exact absurd HA.out (by simp [chars_named.l0])
     | succ k2 =>
      have H := HA.out; clear HA; simp only [chars_named.l0] at H
      by_cases c10 : x22_2 < (a0.size : Int)
      ·
       rw [if_pos c10] at H; have c10b0 := decide_eq_true c10; clear c10
       by_cases c11 : 0 ≤ x22_2
       ·
        rw [if_pos c11] at H; have c11b0 := decide_eq_true c11; clear c11
        by_cases c12 : x22_2 < (a0.size : Int)
        ·
         rw [if_pos c12] at H; have c12b0 := decide_eq_true c12; clear c12; replace H := Option.bind_eq_some_iff.mp H; obtain ⟨t102, A140, H⟩ := H; replace H : (if t102 = true then (chars_named.l0 k2 a0 a1 (a0.size : Int) (wrap64 (x22_2 + 1))) else (if (bt a0 x22_2) < 48 then ((strings_IndexByte.f a1 (bt a0 x22_2)).bind fun t103 => (if t103 < 0 then (some false) else (chars_named.l0 k2 a0 a1 (a0.size : Int) (wrap64 (x22_2 + 1))))) else (if (bt a0 x22_2) > 57 then ((strings_IndexByte.f a1 (bt a0 x22_2)).bind fun t104 => (if t104 < 0 then (some false) else (chars_named.l0 k2 a0 a1 (a0.size : Int) (wrap64 (x22_2 + 1))))) else (chars_named.l0 k2 a0 a1 (a0.size : Int) (wrap64 (x22_2 + 1)))))) = some r := H; have A14 := zk A140; clear A140
         by_cases c15 : t102 = true
         ·
          subst c15
          have H1 : (chars_named.l0 k2 a0 a1 (a0.size : Int) (wrap64 (x22_2 + 1))) = some r := by rw [if_pos rfl] at H; exact H
          clear H; have H := H1; clear H1; have H' := zk H; clear H; have p13 : 0 ≤ (x22_2 : Int) := zo (by assumption); have q13 : x22_2 < (a0.size : Int) := zo (by assumption); have hx13 := bt_at a0 x22_2; replace p13 := eq_true p13; replace q13 := eq_true q13
          go_wp2_with (first | ((with_reducible refine gk (f := 60) rfl ?_); refine gl (some 29) rfl rfl Try.func60 (by kernel_rfl) rfl #[.int .u8 (bt a0 x22_2)] rfl (by (try simp only [List.map_toArray, List.map_cons, List.map_nil]); first | done | rfl | (simp only [List.length_drop, List.length_take]; rfl)) ?_; (with_reducible refine (chars_small.calls (bt a0 x22_2) true _ A14.out).mono ?_); rintro e w' ⟨rfl, ⟨nd, rfl⟩⟩; refine ⟨_, rfl, ?_⟩))
          go_roundg k2
          case measure => have := HJ2.out; have := HK2.out; omega
          case rel => exact ⟨(wrap64 (x22_2 + 1)), (by first | rfl | (simp; done) | (simp [*]; done)), H', ⟨by have := HJ2.out; have := HK2.out; omega⟩, by repeat (first | exact Drawn0.refl _ | apply Drawn0.step)⟩
         ·
          replace c15 := Bool.eq_false_iff.mpr c15; subst c15
          have H1 : (if (bt a0 x22_2) < 48 then ((strings_IndexByte.f a1 (bt a0 x22_2)).bind fun t103 => (if t103 < 0 then (some false) else (chars_named.l0 k2 a0 a1 (a0.size : Int) (wrap64 (x22_2 + 1))))) else (if (bt a0 x22_2) > 57 then ((strings_IndexByte.f a1 (bt a0 x22_2)).bind fun t104 => (if t104 < 0 then (some false) else (chars_named.l0 k2 a0 a1 (a0.size : Int) (wrap64 (x22_2 + 1))))) else (chars_named.l0 k2 a0 a1 (a0.size : Int) (wrap64 (x22_2 + 1))))) = some r := by rw [if_neg (show ¬ (false = true) by decide)] at H; exact H
          clear H; have H := H1; clear H1
          by_cases c16 : (bt a0 x22_2) < 48
          ·
           rw [if_pos c16] at H; have c16b0 := decide_eq_true c16; clear c16; replace H := Option.bind_eq_some_iff.mp H; obtain ⟨t103, A170, H⟩ := H; replace H : (if t103 < 0 then (some false) else (chars_named.l0 k2 a0 a1 (a0.size : Int) (wrap64 (x22_2 + 1)))) = some r := H; have A17 := zk A170; clear A170
           by_cases c18 : t103 < 0
           ·
            rw [if_pos c18] at H; have c18b0 := decide_eq_true c18; clear c18; obtain rfl := Option.some.inj H; have p13 : 0 ≤ (x22_2 : Int) := zo (by assumption); have q13 : x22_2 < (a0.size : Int) := zo (by assumption); have hx13 := bt_at a0 x22_2; replace p13 := eq_true p13; replace q13 := eq_true q13
            go_wp2_with (first | ((with_reducible refine gk (f := 60) rfl ?_); refine gl (some 29) rfl rfl Try.func60 (by kernel_rfl) rfl #[.int .u8 (bt a0 x22_2)] rfl (by (try simp only [List.map_toArray, List.map_cons, List.map_nil]); first | done | rfl | (simp only [List.length_drop, List.length_take]; rfl)) ?_; (with_reducible refine (chars_small.calls (bt a0 x22_2) false _ A14.out).mono ?_); rintro e w' ⟨rfl, ⟨nd, rfl⟩⟩; refine ⟨_, rfl, ?_⟩) | (go_at_call 61; (with_reducible refine (strings_IndexByte.calls a1 (bt a0 x22_2) t103 _ A17.out).mono ?_); rintro e w' ⟨rfl, ⟨nd, rfl⟩⟩))
            go_ret; exact ⟨by first | rfl | (simp; done) | (simp [*]; done), by repeat (first | exact Drawn0.refl _ | apply Drawn0.step)⟩
           ·
            rw [if_neg c18] at H; have c18b0 := decide_eq_false c18; clear c18; have H' := zk H; clear H; have p13 : 0 ≤ (x22_2 : Int) := zo (by assumption); have q13 : x22_2 < (a0.size : Int) := zo (by assumption); have hx13 := bt_at a0 x22_2; replace p13 := eq_true p13; replace q13 := eq_true q13
            go_wp2_with (first | ((with_reducible refine gk (f := 60) rfl ?_); refine gl (some 29) rfl rfl Try.func60 (by kernel_rfl) rfl #[.int .u8 (bt a0 x22_2)] rfl (by (try simp only [List.map_toArray, List.map_cons, List.map_nil]); first | done | rfl | (simp only [List.length_drop, List.length_take]; rfl)) ?_; (with_reducible refine (chars_small.calls (bt a0 x22_2) false _ A14.out).mono ?_); rintro e w' ⟨rfl, ⟨nd, rfl⟩⟩; refine ⟨_, rfl, ?_⟩) | (go_at_call 61; (with_reducible refine (strings_IndexByte.calls a1 (bt a0 x22_2) t103 _ A17.out).mono ?_); rintro e w' ⟨rfl, ⟨nd, rfl⟩⟩))
            go_roundg k2
            case measure => have := HJ2.out; have := HK2.out; omega
            case rel => exact ⟨(wrap64 (x22_2 + 1)), (by first | rfl | (simp; done) | (simp [*]; done)), H', ⟨by have := HJ2.out; have := HK2.out; omega⟩, by repeat (first | exact Drawn0.refl _ | apply Drawn0.step)⟩
          ·
           rw [if_neg c16] at H; have c16b0 := decide_eq_false c16; clear c16
           by_cases c19 : (bt a0 x22_2) > 57
           ·
            rw [if_pos c19] at H; have c19b0 : decide (57 < (bt a0 x22_2)) = true := decide_eq_true c19; clear c19; replace H := Option.bind_eq_some_iff.mp H; obtain ⟨t104, A200, H⟩ := H; replace H : (if t104 < 0 then (some false) else (chars_named.l0 k2 a0 a1 (a0.size : Int) (wrap64 (x22_2 + 1)))) = some r := H; have A20 := zk A200; clear A200
            by_cases c21 : t104 < 0
            ·
             rw [if_pos c21] at H; have c21b0 := decide_eq_true c21; clear c21; obtain rfl := Option.some.inj H; have p13 : 0 ≤ (x22_2 : Int) := zo (by assumption); have q13 : x22_2 < (a0.size : Int) := zo (by assumption); have hx13 := bt_at a0 x22_2; replace p13 := eq_true p13; replace q13 := eq_true q13
             go_wp2_with (first | ((with_reducible refine gk (f := 60) rfl ?_); refine gl (some 29) rfl rfl Try.func60 (by kernel_rfl) rfl #[.int .u8 (bt a0 x22_2)] rfl (by (try simp only [List.map_toArray, List.map_cons, List.map_nil]); first | done | rfl | (simp only [List.length_drop, List.length_take]; rfl)) ?_; (with_reducible refine (chars_small.calls (bt a0 x22_2) false _ A14.out).mono ?_); rintro e w' ⟨rfl, ⟨nd, rfl⟩⟩; refine ⟨_, rfl, ?_⟩) | (go_at_call 61; (with_reducible refine (strings_IndexByte.calls a1 (bt a0 x22_2) t104 _ A20.out).mono ?_); rintro e w' ⟨rfl, ⟨nd, rfl⟩⟩))
             go_ret; exact ⟨by first | rfl | (simp; done) | (simp [*]; done), by repeat (first | exact Drawn0.refl _ | apply Drawn0.step)⟩
            ·
             rw [if_neg c21] at H; have c21b0 := decide_eq_false c21; clear c21; have H' := zk H; clear H; have p13 : 0 ≤ (x22_2 : Int) := zo (by assumption); have q13 : x22_2 < (a0.size : Int) := zo (by assumption); have hx13 := bt_at a0 x22_2; replace p13 := eq_true p13; replace q13 := eq_true q13
             go_wp2_with (first | ((with_reducible refine gk (f := 60) rfl ?_); refine gl (some 29) rfl rfl Try.func60 (by kernel_rfl) rfl #[.int .u8 (bt a0 x22_2)] rfl (by (try simp only [List.map_toArray, List.map_cons, List.map_nil]); first | done | rfl | (simp only [List.length_drop, List.length_take]; rfl)) ?_; (with_reducible refine (chars_small.calls (bt a0 x22_2) false _ A14.out).mono ?_); rintro e w' ⟨rfl, ⟨nd, rfl⟩⟩; refine ⟨_, rfl, ?_⟩) | (go_at_call 61; (with_reducible refine (strings_IndexByte.calls a1 (bt a0 x22_2) t104 _ A20.out).mono ?_); rintro e w' ⟨rfl, ⟨nd, rfl⟩⟩))
             go_roundg k2
             case measure => have := HJ2.out; have := HK2.out; omega
             case rel => exact ⟨(wrap64 (x22_2 + 1)), (by first | rfl | (simp; done) | (simp [*]; done)), H', ⟨by have := HJ2.out; have := HK2.out; omega⟩, by repeat (first | exact Drawn0.refl _ | apply Drawn0.step)⟩
           ·
            rw [if_neg c19] at H; have c19b0 : decide (57 < (bt a0 x22_2)) = false := decide_eq_false c19; clear c19; have H' := zk H; clear H; have p13 : 0 ≤ (x22_2 : Int) := zo (by assumption); have q13 : x22_2 < (a0.size : Int) := zo (by assumption); have hx13 := bt_at a0 x22_2; replace p13 := eq_true p13; replace q13 := eq_true q13
            go_wp2_with (first | ((with_reducible refine gk (f := 60) rfl ?_); refine gl (some 29) rfl rfl Try.func60 (by kernel_rfl) rfl #[.int .u8 (bt a0 x22_2)] rfl (by (try simp only [List.map_toArray, List.map_cons, List.map_nil]); first | done | rfl | (simp only [List.length_drop, List.length_take]; rfl)) ?_; (with_reducible refine (chars_small.calls (bt a0 x22_2) false _ A14.out).mono ?_); rintro e w' ⟨rfl, ⟨nd, rfl⟩⟩; refine ⟨_, rfl, ?_⟩))
            go_roundg k2
            case measure => have := HJ2.out; have := HK2.out; omega
            case rel => exact ⟨(wrap64 (x22_2 + 1)), (by first | rfl | (simp; done) | (simp [*]; done)), H', ⟨by have := HJ2.out; have := HK2.out; omega⟩, by repeat (first | exact Drawn0.refl _ | apply Drawn0.step)⟩
        ·
         rw [if_neg c12] at H; exact absurd H (by simp)
       ·
        rw [if_neg c11] at H; exact absurd H (by simp)
      ·
       rw [if_neg c10] at H; have c10b0 := decide_eq_false c10; clear c10; obtain rfl := Option.some.inj H; go_wp2; go_ret; exact ⟨by first | rfl | (simp; done) | (simp [*]; done), by repeat (first | exact Drawn0.refl _ | apply Drawn0.step)⟩
def chars_Tag.f (k : Nat) (a0 : ByteArray) : Option (Bool) := (chars_named.f k a0 (⟨#[45]⟩ : ByteArray)).bind fun t105 => (some t105)
theorem chars_Tag.mono : ∀ a0 k, LeO (chars_Tag.f k a0) (chars_Tag.f (k + 1) a0) := by
  intro a0 k; unfold chars_Tag.f
  with_reducible repeat' first | exact chars_named.mono _ _ _ | exact LeO.refl _ | exact LeO.none _ | refine LeO.ite ?_ ?_ | refine LeO.bind ?_ (fun _ => ?_)
set_option maxHeartbeats 8000000 in
set_option maxRecDepth 100000 in
theorem chars_Tag.calls (k : Nat) (a0 : ByteArray) (r : Bool) (w : World) (h : chars_Tag.f k a0 = some r) :
    Calls Try.prog 55 #[.string a0] w fun e w' => e = .returned (.bool r) ∧ Drawn0 w w' := by
  have H : ((chars_named.f k a0 (⟨#[45]⟩ : ByteArray)).bind fun t105 => (some t105)) = some r := h; clear h; replace H := Option.bind_eq_some_iff.mp H; obtain ⟨t105, A20, H⟩ := H; replace H : (some t105) = some r := H; have A2 := zk A20; clear A20; obtain rfl := Option.some.inj H
  go_enter Try.func55, Try.ntmps55
  go_wp2_with (first | ((with_reducible refine gk (f := 58) rfl ?_); refine gl (some 4) rfl rfl Try.func58 (by kernel_rfl) rfl #[.string a0, .string (⟨#[45]⟩ : ByteArray)] rfl (by (try simp only [List.map_toArray, List.map_cons, List.map_nil]); first | done | rfl | (simp only [List.length_drop, List.length_take]; rfl)) ?_; (with_reducible refine (chars_named.calls k a0 (⟨#[45]⟩ : ByteArray) t105 _ A2.out).mono ?_); rintro e w' ⟨rfl, ⟨nd, rfl⟩⟩; refine ⟨_, rfl, ?_⟩))
  go_ret; exact ⟨by first | rfl | (simp; done) | (simp [*]; done), by repeat (first | exact Drawn0.refl _ | apply Drawn0.step)⟩
def chars_Fits.f (a0 : ByteArray) : Option (Bool) := some (decide ((a0.size : Int) ≤ 65536))
set_option maxHeartbeats 8000000 in
set_option maxRecDepth 100000 in
theorem chars_Fits.calls (a0 : ByteArray) (r : Bool) (w : World) (h : chars_Fits.f a0 = some r) :
    Calls Try.prog 56 #[.string a0] w fun e w' => e = .returned (.bool r) ∧ Drawn0 w w' := by
  have H : (some (decide ((a0.size : Int) ≤ 65536))) = some r := h; clear h; obtain rfl := Option.some.inj H
  go_enter Try.func56, Try.ntmps56
  go_wp2; go_ret; exact ⟨by first | rfl | (simp; done) | (simp [*]; done), by repeat (first | exact Drawn0.refl _ | apply Drawn0.step)⟩
def chars_Name.f (k : Nat) (a0 : ByteArray) : Option (Bool) := (chars_named.f k a0 (⟨#[45, 58, 46]⟩ : ByteArray)).bind fun t106 => (some t106)
theorem chars_Name.mono : ∀ a0 k, LeO (chars_Name.f k a0) (chars_Name.f (k + 1) a0) := by
  intro a0 k; unfold chars_Name.f
  with_reducible repeat' first | exact chars_named.mono _ _ _ | exact LeO.refl _ | exact LeO.none _ | refine LeO.ite ?_ ?_ | refine LeO.bind ?_ (fun _ => ?_)
set_option maxHeartbeats 8000000 in
set_option maxRecDepth 100000 in
theorem chars_Name.calls (k : Nat) (a0 : ByteArray) (r : Bool) (w : World) (h : chars_Name.f k a0 = some r) :
    Calls Try.prog 59 #[.string a0] w fun e w' => e = .returned (.bool r) ∧ Drawn0 w w' := by
  have H : ((chars_named.f k a0 (⟨#[45, 58, 46]⟩ : ByteArray)).bind fun t106 => (some t106)) = some r := h; clear h; replace H := Option.bind_eq_some_iff.mp H; obtain ⟨t106, A20, H⟩ := H; replace H : (some t106) = some r := H; have A2 := zk A20; clear A20; obtain rfl := Option.some.inj H
  go_enter Try.func59, Try.ntmps59
  go_wp2_with (first | ((with_reducible refine gk (f := 58) rfl ?_); refine gl (some 4) rfl rfl Try.func58 (by kernel_rfl) rfl #[.string a0, .string (⟨#[45, 58, 46]⟩ : ByteArray)] rfl (by (try simp only [List.map_toArray, List.map_cons, List.map_nil]); first | done | rfl | (simp only [List.length_drop, List.length_take]; rfl)) ?_; (with_reducible refine (chars_named.calls k a0 (⟨#[45, 58, 46]⟩ : ByteArray) t106 _ A2.out).mono ?_); rintro e w' ⟨rfl, ⟨nd, rfl⟩⟩; refine ⟨_, rfl, ?_⟩))
  go_ret; exact ⟨by first | rfl | (simp; done) | (simp [*]; done), by repeat (first | exact Drawn0.refl _ | apply Drawn0.step)⟩
end Go.Proofs.Ytcebfldagnjddaa.G
