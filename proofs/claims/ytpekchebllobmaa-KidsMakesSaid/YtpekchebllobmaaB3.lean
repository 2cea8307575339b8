/- What the claim LawKidsMakes rests on, part 3 of 5: the kit's words, the printed walks, the walks by hand, the plain laws. -/
import Derived.Test.YtpekchebllobmaaB0
import Derived.Test.YtpekchebllobmaaB1
import Derived.Test.YtpekchebllobmaaB2
namespace Go.Proofs.Ytpekchebllobmaa.G
open Go.RowKit Go.Proofs.YtpekchebllobmaaW.PrintWords Go.Proofs.YtpekchebllobmaaW.PrintLast Go.Proofs.YtpekchebllobmaaW.PrintMore
attribute [local go_sem] max2_int min2_int max_two min_two max_three min_three max_four min_four
set_option linter.unusedVariables false
set_option linter.unusedSimpArgs false
attribute [local go_sem high] eqA46
def pl_Ints.l0 : Nat → List Int → List Int → Int → Int → Option (Bool)
  | 0, _, _, _, _ => none
  | k + 1, x0, x1, x12, x13 => if x13 < x12 then (if 0 ≤ x13 then (if x13 < (x0.length : Int) then (if x13 < (x1.length : Int) then (if (rd x0 x13) = (rd x1 x13) then (pl_Ints.l0 k x0 x1 x12 (wrap64 (x13 + 1))) else (some false)) else (none)) else (none)) else (none)) else (some true)
def pl_Ints.f (k : Nat) (l0 : List Int) (l1 : List Int) : Option (Bool) := if (l0.length : Int) = (l1.length : Int) then (pl_Ints.l0 k l0 l1 (l0.length : Int) 0) else (some false)
theorem pl_Ints.mono_l : ∀ k, (∀ y0 y1 y2 y3, LeO (pl_Ints.l0 k y0 y1 y2 y3) (pl_Ints.l0 (k + 1) y0 y1 y2 y3))
  | 0 => fun _ _ _ _ r h => by simp [pl_Ints.l0] at h
  | k + 1 => by
    have ih0 := pl_Ints.mono_l k
    · intro y0 y1 y2 y3
      unfold pl_Ints.l0
      with_reducible repeat' first | exact ih0 _ _ _ _ | exact LeO.refl _ | exact LeO.none _ | refine LeO.ite ?_ ?_ | refine LeO.bind ?_ (fun _ => ?_)
theorem pl_Ints.mono : ∀ a0 a1 k, LeO (pl_Ints.f k a0 a1) (pl_Ints.f (k + 1) a0 a1) := by
  intro a0 a1 k; have ih0 := pl_Ints.mono_l k; unfold pl_Ints.f
  with_reducible repeat' first | exact ih0 _ _ _ _ | exact LeO.refl _ | exact LeO.none _ | refine LeO.ite ?_ ?_ | refine LeO.bind ?_ (fun _ => ?_)
set_option maxHeartbeats 8000000 in
set_option maxRecDepth 100000 in
theorem pl_Ints.calls (k : Nat) (A0 : Option Addr) (c0 : Nat) (l0 : List Int) (A1 : Option Addr) (c1 : Nat) (l1 : List Int) (r : Bool) (w : World) (hr0 : Kd.C (Kd.int .i64) w A0 l0.length l0) (hc0 : l0.length ≤ c0) (hr1 : Kd.C (Kd.int .i64) w A1 l1.length l1) (hc1 : l1.length ≤ c1) (h : pl_Ints.f k l0 l1 = some r) :
    Calls Try.prog 15 #[.slice A0 l0.length c0, .slice A1 l1.length c1] w fun e w' => e = .returned (.bool r) ∧ Drawn0 w w' := by
  have HR0 := zk hr0; have HC0 := zk hc0; clear hr0 hc0; have HR1 := zk hr1; have HC1 := zk hc1; clear hr1 hc1; have H : (if (l0.length : Int) = (l1.length : Int) then (pl_Ints.l0 k l0 l1 (l0.length : Int) 0) else (some false)) = some r := h; clear h
  by_cases c3 : (l0.length : Int) = (l1.length : Int)
  · rw [if_pos c3] at H
    have c3b0 := beq_iff_eq.mpr c3
    have c3b1 := bne_eq_false_iff_eq.mpr c3
    have c3b2 : (l0.length == l1.length) = true := by first | simpa using c3 | (simp at c3 ⊢; omega)
    clear c3
    have H' := zk H
    clear H
    go_enter Try.func15, Try.ntmps15
    go_wp2
    repeat (go_quiet (fail); try go_wp2)
    go_loopg [13] k (fun kq v13 w' => ∃ (x13_1 : Int), v13 = .int .i64 x13_1 ∧ Aside0 (pl_Ints.l0 kq l0 l1 (l0.length : Int) x13_1 = some r) ∧ Aside0 (kq ≤ k) ∧ Drawn0 w w')
    case atStart => exact ⟨(0), (by first | rfl | (simp; done) | (simp [*]; done)), H', ⟨Nat.le_refl _⟩, by repeat (first | exact Drawn0.refl _ | apply Drawn0.step)⟩
    case round =>
      clear H'; (try clear c1); (try clear p2); (try clear c3); (try clear c3b0); (try clear c3b1); (try clear c3b2); obtain ⟨x13_1, rfl, HA, HK1, ⟨m1, rfl⟩⟩ := hrel
      cases gk with
      | zero => exact absurd HA.out (by simp [pl_Ints.l0])
      | succ k1 =>
        have H := HA.out; clear HA; simp only [pl_Ints.l0] at H
        by_cases c4 : x13_1 < (l0.length : Int)
        · rw [if_pos c4] at H
          have c4b0 : decide (x13_1 < (l0.length : Int)) = true := decide_eq_true c4
          clear c4
          by_cases c5 : 0 ≤ x13_1
          · rw [if_pos c5] at H
            have c5b0 : decide (0 ≤ x13_1) = true := decide_eq_true c5
            clear c5
            by_cases c6 : x13_1 < (l0.length : Int)
            · rw [if_pos c6] at H
              have c6b0 : decide (x13_1 < (l0.length : Int)) = true := decide_eq_true c6
              clear c6
              by_cases c7 : x13_1 < (l1.length : Int)
              · rw [if_pos c7] at H
                have c7b0 : decide (x13_1 < (l1.length : Int)) = true := decide_eq_true c7
                clear c7
                by_cases c8 : (rd l0 x13_1) = (rd l1 x13_1)
                · rw [if_pos c8] at H
                  have c8b0 : ((rd l0 x13_1) == (rd l1 x13_1)) = true := beq_iff_eq.mpr c8
                  have c8b1 : ((rd l0 x13_1) != (rd l1 x13_1)) = false := bne_eq_false_iff_eq.mpr c8
                  clear c8
                  have H' := zk H
                  clear H
                  have p153 : 0 ≤ (x13_1 : Int) := zo (by assumption)
                  have q153 : x13_1 < (l0.length : Int) := zo (by assumption)
                  obtain ⟨ad153, e153, hx153_0⟩ := Kd.at_int HR0.out x13_1 p153 q153
                  cases e153
                  replace p153 := eq_true p153
                  replace q153 := eq_true q153
                  have p154 : 0 ≤ (x13_1 : Int) := zo (by assumption)
                  have q154 : x13_1 < (l1.length : Int) := zo (by assumption)
                  obtain ⟨ad154, e154, hx154_0⟩ := Kd.at_int HR1.out x13_1 p154 q154
                  cases e154
                  replace p154 := eq_true p154
                  replace q154 := eq_true q154
                  go_wp2
                  repeat (go_quiet (fail); try go_wp2)
                  go_roundg k1
                  case measure => have := HK1.out; omega
                  case rel => exact ⟨(wrap64 (x13_1 + 1)), (by first | rfl | (simp; done) | (simp [*]; done)), H', ⟨by have := HK1.out; omega⟩, by repeat (first | exact Drawn0.refl _ | apply Drawn0.step)⟩
                · rw [if_neg c8] at H
                  have c8b0 : ((rd l0 x13_1) == (rd l1 x13_1)) = false := beq_eq_false_iff_ne.mpr c8
                  have c8b1 : ((rd l0 x13_1) != (rd l1 x13_1)) = true := bne_iff_ne.mpr c8
                  obtain rfl := Option.some.inj H
                  have p153 : 0 ≤ (x13_1 : Int) := zo (by assumption)
                  have q153 : x13_1 < (l0.length : Int) := zo (by assumption)
                  obtain ⟨ad153, e153, hx153_0⟩ := Kd.at_int HR0.out x13_1 p153 q153
                  cases e153
                  replace p153 := eq_true p153
                  replace q153 := eq_true q153
                  have p154 : 0 ≤ (x13_1 : Int) := zo (by assumption)
                  have q154 : x13_1 < (l1.length : Int) := zo (by assumption)
                  obtain ⟨ad154, e154, hx154_0⟩ := Kd.at_int HR1.out x13_1 p154 q154
                  cases e154
                  replace p154 := eq_true p154
                  replace q154 := eq_true q154
                  go_wp2
                  repeat (go_quiet (fail); try go_wp2)
                  go_ret
                  exact ⟨by first | rfl | (simp; done) | (simp [*]; done), by repeat (first | exact Drawn0.refl _ | apply Drawn0.step)⟩
              · rw [if_neg c7] at H
                exact absurd H (by simp)
            · rw [if_neg c6] at H
              exact absurd H (by simp)
          · rw [if_neg c5] at H
            exact absurd H (by simp)
        · rw [if_neg c4] at H
          have c4b0 : decide (x13_1 < (l0.length : Int)) = false := decide_eq_false c4
          clear c4
          obtain rfl := Option.some.inj H
          go_wp2
          repeat (go_quiet (fail); try go_wp2)
          go_ret
          exact ⟨by first | rfl | (simp; done) | (simp [*]; done), by repeat (first | exact Drawn0.refl _ | apply Drawn0.step)⟩
  · rw [if_neg c3] at H
    have c3b0 := beq_eq_false_iff_ne.mpr c3
    have c3b1 := bne_iff_ne.mpr c3
    have c3b2 : (l0.length == l1.length) = false := by first | simpa using c3 | (simp at c3 ⊢; omega)
    obtain rfl := Option.some.inj H
    go_enter Try.func15, Try.ntmps15
    go_wp2
    repeat (go_quiet (fail); try go_wp2)
    go_ret
    exact ⟨by first | rfl | (simp; done) | (simp [*]; done), by repeat (first | exact Drawn0.refl _ | apply Drawn0.step)⟩
def kids_Moves.l0 : Nat → Int → List (S46) → Int → Int → Option (Int)
  | 0, _, _, _, _ => none
  | k + 1, x3, x7, x8, x9 => if x9 < x8 then (if 0 ≤ x9 then (if x9 < (x7.length : Int) then (if ((rd_T46 x7 x9).f1) ≥ 0 then (kids_Moves.l0 k (wrap64 (x3 + 1)) x7 x8 (wrap64 (x9 + 1))) else (kids_Moves.l0 k x3 x7 x8 (wrap64 (x9 + 1)))) else (none)) else (none)) else (some x3)
def kids_Moves.f (k : Nat) (l0_0 : List Int) (l0_1 : List Int) (l0_2 : List (S46)) : Option (Int) := kids_Moves.l0 k 0 l0_2 (l0_2.length : Int) 0
theorem kids_Moves.mono_l : ∀ k, (∀ y0 y1 y2 y3, LeO (kids_Moves.l0 k y0 y1 y2 y3) (kids_Moves.l0 (k + 1) y0 y1 y2 y3))
  | 0 => fun _ _ _ _ r h => by simp [kids_Moves.l0] at h
  | k + 1 => by
    have ih0 := kids_Moves.mono_l k
    · intro y0 y1 y2 y3
      unfold kids_Moves.l0
      with_reducible repeat' first | exact ih0 _ _ _ _ | exact LeO.refl _ | exact LeO.none _ | refine LeO.ite ?_ ?_ | refine LeO.bind ?_ (fun _ => ?_)
theorem kids_Moves.mono : ∀ a0 a1 a2 k, LeO (kids_Moves.f k a0 a1 a2) (kids_Moves.f (k + 1) a0 a1 a2) := by
  intro a0 a1 a2 k; have ih0 := kids_Moves.mono_l k; unfold kids_Moves.f
  with_reducible repeat' first | exact ih0 _ _ _ _ | exact LeO.refl _ | exact LeO.none _ | refine LeO.ite ?_ ?_ | refine LeO.bind ?_ (fun _ => ?_)
set_option maxHeartbeats 8000000 in
set_option maxRecDepth 100000 in
theorem kids_Moves.calls (k : Nat) (A0_0 : Option Addr) (c0_0 : Nat) (l0_0 : List Int) (A0_1 : Option Addr) (c0_1 : Nat) (l0_1 : List Int) (A0_2 : Option Addr) (c0_2 : Nat) (l0_2 : List (S46)) (r : Int) (w : World) (hr0_0 : Kd.C (Kd.int .i64) w A0_0 l0_0.length l0_0) (hc0_0 : l0_0.length ≤ c0_0) (hr0_1 : Kd.C (Kd.int .i64) w A0_1 l0_1.length l0_1) (hc0_1 : l0_1.length ≤ c0_1) (hr0_2 : Kd.C k46 w A0_2 l0_2.length l0_2) (hc0_2 : l0_2.length ≤ c0_2) (h : kids_Moves.f k l0_0 l0_1 l0_2 = some r) :
    Calls Try.prog 18 #[.agg #[.slice A0_0 l0_0.length c0_0, .slice A0_1 l0_1.length c0_1, .slice A0_2 l0_2.length c0_2]] w fun e w' => e = .returned (.int .i64 r) ∧ Below w.heap.size w w' := by
  have hu30 := Try.underlying30; have hu46 := Try.underlying46; have HR0_0 := zk hr0_0; have HC0_0 := zk hc0_0; clear hr0_0 hc0_0; have HR0_1 := zk hr0_1; have HC0_1 := zk hc0_1; clear hr0_1 hc0_1; have HR0_2 := zk hr0_2; have HC0_2 := zk hc0_2; clear hr0_2 hc0_2; have HB := zk (Below.refl w.heap.size w); have H : (kids_Moves.l0 k 0 l0_2 (l0_2.length : Int) 0) = some r := h; clear h; have H' := zk H; clear H
  go_enter Try.func18, Try.ntmps18
  go_wp2_with (first | ((with_reducible refine gd (N := 1) rfl ?_); refine zb ?hg (N := 1) ?hd (cs := #[.slice A0_0 l0_0.length c0_0, .slice A0_1 l0_1.length c0_1, .slice A0_2 l0_2.length c0_2]) (t := 30) ?hr ?_; (case hd => rfl); (case hg => rfl); (case hr => go_simp; first | done | rfl); intro gb155 hg w2 hbox hb; have n0_ := zk (zs (by with_reducible repeat first | exact HB.out | apply zA | apply zN | apply zD) hb); have n1_ := zk (hbox); have n2_ := zk ((by rw [hg]; exact (zq (by with_reducible repeat first | exact HB.out | apply zA | apply zN | apply zD)) : w.heap.size ≤ gb155)); have n3_ := n2_; clear HB; have HB := n0_; have BK155 := n1_; have GW155 := n2_; have GE155 := n3_; clear n0_ n1_ n2_ n3_; clear hb hbox hg; obtain ⟨hcz3_0, hcz3_1, hcz3_2, hfz3_0, hfz3_1, hfz3_2⟩ := zc3 BK155.out))
  go_loopg [3, 9] k (fun kq v3 v9 w' => ∃ (x3_1 : Int) (x9_1 : Int), v3 = .int .i64 x3_1 ∧ v9 = .int .i64 x9_1 ∧ Aside0 (kids_Moves.l0 kq x3_1 l0_2 (l0_2.length : Int) x9_1 = some r) ∧ Aside0 (kq ≤ k) ∧ Aside0 (w'.heap[gb155]? = some (.cells #[(.slice A0_0 l0_0.length c0_0), (.slice A0_1 l0_1.length c0_1), (.slice A0_2 l0_2.length c0_2)] 30 (0, 0))) ∧ Aside0 (Below w.heap.size w w'))
  case atStart => exact ⟨(0), (0), (by first | rfl | (simp; done) | (simp [*]; done)), (by first | rfl | (simp; done) | (simp [*]; done)), H', ⟨Nat.le_refl _⟩, ⟨by (with_reducible repeat (first | refine zM ?_ _ | refine zE ?_ | refine zF ?_ _)); exact BK155.out⟩, ⟨by with_reducible repeat first | exact HB.out | apply zA | apply zN | apply zD | refine zS ?_ GE155.out⟩⟩
  case round =>
    clear H'; (try clear c1); (try clear p2)
    (try clear BK155)
    obtain ⟨x3_1, x9_1, rfl, rfl, HA, HK1, BK155, HB⟩ := hrel
    cases gk with
    | zero => exact absurd HA.out (by simp [kids_Moves.l0])
    | succ k1 =>
      have H := HA.out; clear HA; simp only [kids_Moves.l0] at H
      by_cases c4 : x9_1 < (l0_2.length : Int)
      · rw [if_pos c4] at H
        have c4b0 : decide (x9_1 < (l0_2.length : Int)) = true := decide_eq_true c4
        clear c4
        by_cases c5 : 0 ≤ x9_1
        · rw [if_pos c5] at H
          have c5b0 : decide (0 ≤ x9_1) = true := decide_eq_true c5
          clear c5
          by_cases c6 : x9_1 < (l0_2.length : Int)
          · rw [if_pos c6] at H
            have c6b0 : decide (x9_1 < (l0_2.length : Int)) = true := decide_eq_true c6
            clear c6
            by_cases c7 : ((rd_T46 l0_2 x9_1).f1) ≥ 0
            · rw [if_pos c7] at H
              have c7b0 : decide (0 ≤ ((rd_T46 l0_2 x9_1).f1)) = true := decide_eq_true c7
              clear c7
              have H' := zk H
              clear H
              have p156 : 0 ≤ (x9_1 : Int) := zo (by assumption)
              have q156 : x9_1 < (l0_2.length : Int) := zo (by assumption)
              obtain ⟨ad156, e156, hx156_0, hx156_1, hx156_2⟩ := at_T46 HR0_2.out x9_1 p156 q156
              cases e156
              replace hx156_0 := zB HB hx156_0
              replace hx156_1 := zB HB hx156_1
              replace hx156_2 := zB HB hx156_2
              replace p156 := eq_true p156
              replace q156 := eq_true q156
              go_wp2_with (first | ((with_reducible refine gd (N := 5) rfl ?_); refine zb ?hg (N := 5) ?hd (cs := #[.int .i64 0, .int .i64 0, .int .i64 0]) (t := 46) ?hr ?_; (case hd => rfl); (case hg => rfl); (case hr => go_simp; first | done | rfl); intro gb157 hg w8 hbox hb; have n0_ := zk (blk_below (g := gb155) (o := .cells #[.slice A0_0 l0_0.length c0_0, .slice A0_1 l0_1.length c0_1, .slice (some ad156) l0_2.length c0_2] 30 (0, 0)) (by (with_reducible repeat (first | refine zM ?_ _ | refine zE ?_ | refine zF ?_ _)); exact BK155.out) hb); have n1_ := zk (zs (by with_reducible repeat first | exact HB.out | apply zA | apply zN | apply zD | refine zS ?_ GE155.out) hb); have n2_ := zk (hbox); have n3_ := zk ((by rw [hg]; exact (zq (by with_reducible repeat first | exact HB.out | apply zA | apply zN | apply zD | refine zS ?_ GE155.out)) : w.heap.size ≤ gb157)); have n4_ := n3_; have n5_ := zk ((by rw [hg]; exact Nat.ne_of_lt (blk_lt (g := gb155) (o := .cells #[.slice A0_0 l0_0.length c0_0, .slice A0_1 l0_1.length c0_1, .slice (some ad156) l0_2.length c0_2] 30 (0, 0)) (by (with_reducible repeat (first | refine zM ?_ _ | refine zE ?_ | refine zF ?_ _)); exact BK155.out)) : gb155 ≠ gb157)); have n6_ := zk ((by rw [hg]; exact Nat.ne_of_gt (blk_lt (g := gb155) (o := .cells #[.slice A0_0 l0_0.length c0_0, .slice A0_1 l0_1.length c0_1, .slice (some ad156) l0_2.length c0_2] 30 (0, 0)) (by (with_reducible repeat (first | refine zM ?_ _ | refine zE ?_ | refine zF ?_ _)); exact BK155.out)) : gb157 ≠ gb155)); clear BK155; clear HB; have BK155 := n0_; have HB := n1_; have BK157 := n2_; have GW157 := n3_; have GE157 := n4_; have NB155_157 := n5_; have NB157_155 := n6_; clear n0_ n1_ n2_ n3_ n4_ n5_ n6_; clear hb hbox hg; have hnb9 := NB157_155.out; have hnc9 := NB155_157.out; obtain ⟨hcz10_0, hcz10_1, hcz10_2, hfz10_0, hfz10_1, hfz10_2⟩ := zc3 BK157.out))
              go_roundg k1
              case measure => have := HK1.out; omega
              case rel => exact ⟨(wrap64 (x3_1 + 1)), (wrap64 (x9_1 + 1)), (by first | rfl | (simp; done) | (simp [*]; done)), (by first | rfl | (simp; done) | (simp [*]; done)), H', ⟨by have := HK1.out; omega⟩, ⟨by (with_reducible repeat (first | refine zM ?_ _ | refine zE ?_ | refine zF ?_ _)); refine zG ?_ NB155_157.out _; (with_reducible repeat (first | refine zM ?_ _ | refine zE ?_ | refine zF ?_ _)); refine zG ?_ NB155_157.out _; (with_reducible repeat (first | refine zM ?_ _ | refine zE ?_ | refine zF ?_ _)); refine zG ?_ NB155_157.out _; (with_reducible repeat (first | refine zM ?_ _ | refine zE ?_ | refine zF ?_ _)); exact BK155.out⟩, ⟨by with_reducible repeat first | exact HB.out | apply zA | apply zN | apply zD | refine zS ?_ GE155.out | refine zS ?_ GE157.out⟩⟩
            · rw [if_neg c7] at H
              have c7b0 : decide (0 ≤ ((rd_T46 l0_2 x9_1).f1)) = false := decide_eq_false c7
              clear c7
              have H' := zk H
              clear H
              have p156 : 0 ≤ (x9_1 : Int) := zo (by assumption)
              have q156 : x9_1 < (l0_2.length : Int) := zo (by assumption)
              obtain ⟨ad156, e156, hx156_0, hx156_1, hx156_2⟩ := at_T46 HR0_2.out x9_1 p156 q156
              cases e156
              replace hx156_0 := zB HB hx156_0
              replace hx156_1 := zB HB hx156_1
              replace hx156_2 := zB HB hx156_2
              replace p156 := eq_true p156
              replace q156 := eq_true q156
              go_wp2_with (first | ((with_reducible refine gd (N := 5) rfl ?_); refine zb ?hg (N := 5) ?hd (cs := #[.int .i64 0, .int .i64 0, .int .i64 0]) (t := 46) ?hr ?_; (case hd => rfl); (case hg => rfl); (case hr => go_simp; first | done | rfl); intro gb157 hg w11 hbox hb; have n0_ := zk (blk_below (g := gb155) (o := .cells #[.slice A0_0 l0_0.length c0_0, .slice A0_1 l0_1.length c0_1, .slice (some ad156) l0_2.length c0_2] 30 (0, 0)) (by (with_reducible repeat (first | refine zM ?_ _ | refine zE ?_ | refine zF ?_ _)); exact BK155.out) hb); have n1_ := zk (zs (by with_reducible repeat first | exact HB.out | apply zA | apply zN | apply zD | refine zS ?_ GE155.out) hb); have n2_ := zk (hbox); have n3_ := zk ((by rw [hg]; exact (zq (by with_reducible repeat first | exact HB.out | apply zA | apply zN | apply zD | refine zS ?_ GE155.out)) : w.heap.size ≤ gb157)); have n4_ := n3_; have n5_ := zk ((by rw [hg]; exact Nat.ne_of_lt (blk_lt (g := gb155) (o := .cells #[.slice A0_0 l0_0.length c0_0, .slice A0_1 l0_1.length c0_1, .slice (some ad156) l0_2.length c0_2] 30 (0, 0)) (by (with_reducible repeat (first | refine zM ?_ _ | refine zE ?_ | refine zF ?_ _)); exact BK155.out)) : gb155 ≠ gb157)); have n6_ := zk ((by rw [hg]; exact Nat.ne_of_gt (blk_lt (g := gb155) (o := .cells #[.slice A0_0 l0_0.length c0_0, .slice A0_1 l0_1.length c0_1, .slice (some ad156) l0_2.length c0_2] 30 (0, 0)) (by (with_reducible repeat (first | refine zM ?_ _ | refine zE ?_ | refine zF ?_ _)); exact BK155.out)) : gb157 ≠ gb155)); clear BK155; clear HB; have BK155 := n0_; have HB := n1_; have BK157 := n2_; have GW157 := n3_; have GE157 := n4_; have NB155_157 := n5_; have NB157_155 := n6_; clear n0_ n1_ n2_ n3_ n4_ n5_ n6_; clear hb hbox hg; have hnb12 := NB157_155.out; have hnc12 := NB155_157.out; obtain ⟨hcz13_0, hcz13_1, hcz13_2, hfz13_0, hfz13_1, hfz13_2⟩ := zc3 BK157.out))
              go_roundg k1
              case measure => have := HK1.out; omega
              case rel => exact ⟨(x3_1), (wrap64 (x9_1 + 1)), (by first | rfl | (simp; done) | (simp [*]; done)), (by first | rfl | (simp; done) | (simp [*]; done)), H', ⟨by have := HK1.out; omega⟩, ⟨by (with_reducible repeat (first | refine zM ?_ _ | refine zE ?_ | refine zF ?_ _)); refine zG ?_ NB155_157.out _; (with_reducible repeat (first | refine zM ?_ _ | refine zE ?_ | refine zF ?_ _)); refine zG ?_ NB155_157.out _; (with_reducible repeat (first | refine zM ?_ _ | refine zE ?_ | refine zF ?_ _)); refine zG ?_ NB155_157.out _; (with_reducible repeat (first | refine zM ?_ _ | refine zE ?_ | refine zF ?_ _)); exact BK155.out⟩, ⟨by with_reducible repeat first | exact HB.out | apply zA | apply zN | apply zD | refine zS ?_ GE155.out | refine zS ?_ GE157.out⟩⟩
          · rw [if_neg c6] at H
            exact absurd H (by simp)
        · rw [if_neg c5] at H
          exact absurd H (by simp)
      · rw [if_neg c4] at H
        have c4b0 : decide (x9_1 < (l0_2.length : Int)) = false := decide_eq_false c4; clear c4; obtain rfl := Option.some.inj H; go_wp2; go_ret; exact ⟨by first | rfl | (simp [wN, wS] <;> rfl) | (simp [*, wN, wS] <;> rfl), by with_reducible repeat first | exact HB.out | apply zA | apply zN | apply zD | refine zS ?_ GE155.out⟩
def lw_x.f (a0 : ByteArray) : Option (ByteArray × ByteArray × Int) := some ((⟨#[108, 105]⟩ : ByteArray), a0, 0)
set_option maxHeartbeats 8000000 in
set_option maxRecDepth 100000 in
theorem lw_x.calls (a0 : ByteArray) (r1 : ByteArray) (r2 : ByteArray) (r3 : Int) (w : World) (h : lw_x.f a0 = some (r1, r2, r3)) :
    Calls Try.prog 22 #[.string a0] w fun e w' => e = .returned (.agg #[.string r1, .string r2, .int .i64 r3]) ∧ Below w.heap.size w w' := by
  have hu50 := Try.underlying50; have HB := zk (Below.refl w.heap.size w); have H : (some ((⟨#[108, 105]⟩ : ByteArray), a0, 0)) = some (r1, r2, r3) := h; clear h; simp only [Option.some.injEq, Prod.mk.injEq] at H; obtain ⟨rfl, rfl, rfl⟩ := H
  go_enter Try.func22, Try.ntmps22
  go_wp2_with (first | ((with_reducible refine gd (N := 2) rfl ?_); refine zb ?hg (N := 2) ?hd (cs := #[.string ⟨#[]⟩, .string ⟨#[]⟩, .int .i64 0]) (t := 50) ?hr ?_; (case hd => rfl); (case hg => rfl); (case hr => go_simp; first | done | rfl); intro gb158 hg w2 hbox hb; have n0_ := zk (zs (by with_reducible repeat first | exact HB.out | apply zA | apply zN | apply zD) hb); have n1_ := zk (hbox); have n2_ := zk ((by rw [hg]; exact (zq (by with_reducible repeat first | exact HB.out | apply zA | apply zN | apply zD)) : w.heap.size ≤ gb158)); have n3_ := n2_; clear HB; have HB := n0_; have BK158 := n1_; have GW158 := n2_; have GE158 := n3_; clear n0_ n1_ n2_ n3_; clear hb hbox hg; obtain ⟨hcz3_0, hcz3_1, hcz3_2, hfz3_0, hfz3_1, hfz3_2⟩ := zc3 BK158.out))
  refine bodyPost_ret (results_cell_row rfl _ _ gb158 50 #[.string (⟨#[108, 105]⟩ : ByteArray), .string a0, .int .i64 0] (0, 0) _ rfl (by (with_reducible repeat (first | refine zM ?_ _ | refine zE ?_ | refine zF ?_ _)); refine zP (cs := #[.string (⟨#[108, 105]⟩ : ByteArray), .string a0, .int .i64 0]) ?_ 2 _ rfl; (with_reducible repeat (first | refine zM ?_ _ | refine zE ?_ | refine zF ?_ _)); refine zP (cs := #[.string (⟨#[108, 105]⟩ : ByteArray), .string ⟨#[]⟩, .int .i64 0]) ?_ 1 _ rfl; (with_reducible repeat (first | refine zM ?_ _ | refine zE ?_ | refine zF ?_ _)); refine zP (cs := #[.string ⟨#[]⟩, .string ⟨#[]⟩, .int .i64 0]) ?_ 0 _ rfl; (with_reducible repeat (first | refine zM ?_ _ | refine zE ?_ | refine zF ?_ _)); exact BK158.out) Try.underlying50 rfl (by kernel_rfl)) rfl ?_; exact ⟨by first | rfl | (simp [wN, wS] <;> rfl) | (simp [*, wN, wS] <;> rfl), by with_reducible repeat first | exact HB.out | apply zA | apply zN | apply zD | refine zS ?_ GE158.out⟩
def lw_same.f0 (k : Nat)  : Option (Bool) := (lw_x.f (⟨#[97]⟩ : ByteArray)).bind fun bt159 => ((lw_x.f (⟨#[98]⟩ : ByteArray)).bind fun bt162 => ((lw_x.f (⟨#[99]⟩ : ByteArray)).bind fun bt165 => ((lw_x.f (⟨#[99]⟩ : ByteArray)).bind fun bt171 => ((lw_x.f (⟨#[97]⟩ : ByteArray)).bind fun bt174 => ((lw_x.f (⟨#[100]⟩ : ByteArray)).bind fun bt177 => ((kids_Of.f k (([(⟨bt159.1, bt159.2.1, bt159.2.2⟩ : S50), (⟨bt162.1, bt162.2.1, bt162.2.2⟩ : S50), (⟨bt165.1, bt165.2.1, bt165.2.2⟩ : S50)] : List (S50))) (([(⟨bt171.1, bt171.2.1, bt171.2.2⟩ : S50), (⟨bt174.1, bt174.2.1, bt174.2.2⟩ : S50), (⟨bt177.1, bt177.2.1, bt177.2.2⟩ : S50)] : List (S50)))).bind fun bt183 => (if bt183.2.2.2 = 0 then ((pl_Ints.f k bt183.1 (([2, 0, (-1)] : List Int))).bind fun t197 => (if t197 = true then ((pl_Ints.f k bt183.2.1 (([1] : List Int))).bind fun t201 => (if t201 = true then (if (bt183.2.2.1.length : Int) = 2 then (if 0 < (bt183.2.2.1.length : Int) then (if (((rd_T46 bt183.2.2.1 0).f0) == 2 && (((rd_T46 bt183.2.2.1 0).f1) == (-1) && (((rd_T46 bt183.2.2.1 0).f2) == (-1)))) = true then (if 1 < (bt183.2.2.1.length : Int) then (if (((rd_T46 bt183.2.2.1 1).f0) == 0 && (((rd_T46 bt183.2.2.1 1).f1) == 2 && (((rd_T46 bt183.2.2.1 1).f2) == 1))) = true then ((kids_Moves.f k bt183.1 bt183.2.1 bt183.2.2.1).bind fun t204 => (some (t204 == 1))) else (some false)) else (none)) else (some false)) else (none)) else (some false)) else (some false))) else (some false))) else (some false))))))))
theorem lw_same.mono0 : ∀ k, LeO (lw_same.f0 k ) (lw_same.f0 (k + 1) ) := by
 intro  k
 unfold lw_same.f0
 with_reducible repeat' first | exact kids_Moves.mono _ _ _ _ | exact kids_Of.mono _ _ _ | exact pl_Ints.mono _ _ _ | exact LeO.refl _ | exact LeO.none _ | refine LeO.ite ?_ ?_ | refine LeO.bind ?_ (fun _ => ?_)
def lw_same.f (k : Nat) : Option Bool := (lw_same.f0 k).bind fun b => if b = true then some true else none
theorem lw_same.mono : ∀ k, LeO (lw_same.f k ) (lw_same.f (k + 1) ) := by
  intro  k; unfold lw_same.f; exact LeO.bind (lw_same.mono0  k) (fun _ => LeO.refl _)
set_option maxHeartbeats 8000000 in
set_option maxRecDepth 100000 in
theorem lw_same.calls (k : Nat)  (r : Bool) (w : World) (h : lw_same.f k  = some r) :
  Calls Try.prog 8 #[] w fun e w' => e = .returned (.bool r) ∧ Below w.heap.size w w' := by
 obtain ⟨b_, hb_, hr_⟩ := Option.bind_eq_some_iff.1 h
 split at hr_
 case isFalse => cases hr_
 rename_i hbt_
 subst hbt_
 obtain rfl := Option.some.inj hr_
 obtain ⟨r, hr2_⟩ : ∃ r : Bool, r = true := ⟨_, rfl⟩
 rw [← hr2_] at hb_ ⊢
 have HR_ := zk hr2_
 clear hr_ hr2_ h
 have h := hb_
 clear hb_
 have hu30 := Try.underlying30
 have hu46 := Try.underlying46
 have HB := zk (Below.refl w.heap.size w)
 have H : ((lw_x.f (⟨#[97]⟩ : ByteArray)).bind fun bt159 => ((lw_x.f (⟨#[98]⟩ : ByteArray)).bind fun bt162 => ((lw_x.f (⟨#[99]⟩ : ByteArray)).bind fun bt165 => ((lw_x.f (⟨#[99]⟩ : ByteArray)).bind fun bt171 => ((lw_x.f (⟨#[97]⟩ : ByteArray)).bind fun bt174 => ((lw_x.f (⟨#[100]⟩ : ByteArray)).bind fun bt177 => ((kids_Of.f k (([(⟨bt159.1, bt159.2.1, bt159.2.2⟩ : S50), (⟨bt162.1, bt162.2.1, bt162.2.2⟩ : S50), (⟨bt165.1, bt165.2.1, bt165.2.2⟩ : S50)] : List (S50))) (([(⟨bt171.1, bt171.2.1, bt171.2.2⟩ : S50), (⟨bt174.1, bt174.2.1, bt174.2.2⟩ : S50), (⟨bt177.1, bt177.2.1, bt177.2.2⟩ : S50)] : List (S50)))).bind fun bt183 => (if bt183.2.2.2 = 0 then ((pl_Ints.f k bt183.1 (([2, 0, (-1)] : List Int))).bind fun t197 => (if t197 = true then ((pl_Ints.f k bt183.2.1 (([1] : List Int))).bind fun t201 => (if t201 = true then (if (bt183.2.2.1.length : Int) = 2 then (if 0 < (bt183.2.2.1.length : Int) then (if (((rd_T46 bt183.2.2.1 0).f0) == 2 && (((rd_T46 bt183.2.2.1 0).f1) == (-1) && (((rd_T46 bt183.2.2.1 0).f2) == (-1)))) = true then (if 1 < (bt183.2.2.1.length : Int) then (if (((rd_T46 bt183.2.2.1 1).f0) == 0 && (((rd_T46 bt183.2.2.1 1).f1) == 2 && (((rd_T46 bt183.2.2.1 1).f2) == 1))) = true then ((kids_Moves.f k bt183.1 bt183.2.1 bt183.2.2.1).bind fun t204 => (some (t204 == 1))) else (some false)) else (none)) else (some false)) else (none)) else (some false)) else (some false))) else (some false))) else (some false))))))))) = some r := h
 clear h
 replace H := Option.bind_eq_some_iff.mp H
 obtain ⟨⟨t159, t160, t161⟩, A10, H⟩ := H
 replace H : ((lw_x.f (⟨#[98]⟩ : ByteArray)).bind fun bt162 => ((lw_x.f (⟨#[99]⟩ : ByteArray)).bind fun bt165 => ((lw_x.f (⟨#[99]⟩ : ByteArray)).bind fun bt171 => ((lw_x.f (⟨#[97]⟩ : ByteArray)).bind fun bt174 => ((lw_x.f (⟨#[100]⟩ : ByteArray)).bind fun bt177 => ((kids_Of.f k (([(⟨t159, t160, t161⟩ : S50), (⟨bt162.1, bt162.2.1, bt162.2.2⟩ : S50), (⟨bt165.1, bt165.2.1, bt165.2.2⟩ : S50)] : List (S50))) (([(⟨bt171.1, bt171.2.1, bt171.2.2⟩ : S50), (⟨bt174.1, bt174.2.1, bt174.2.2⟩ : S50), (⟨bt177.1, bt177.2.1, bt177.2.2⟩ : S50)] : List (S50)))).bind fun bt183 => (if bt183.2.2.2 = 0 then ((pl_Ints.f k bt183.1 (([2, 0, (-1)] : List Int))).bind fun t197 => (if t197 = true then ((pl_Ints.f k bt183.2.1 (([1] : List Int))).bind fun t201 => (if t201 = true then (if (bt183.2.2.1.length : Int) = 2 then (if 0 < (bt183.2.2.1.length : Int) then (if (((rd_T46 bt183.2.2.1 0).f0) == 2 && (((rd_T46 bt183.2.2.1 0).f1) == (-1) && (((rd_T46 bt183.2.2.1 0).f2) == (-1)))) = true then (if 1 < (bt183.2.2.1.length : Int) then (if (((rd_T46 bt183.2.2.1 1).f0) == 0 && (((rd_T46 bt183.2.2.1 1).f1) == 2 && (((rd_T46 bt183.2.2.1 1).f2) == 1))) = true then ((kids_Moves.f k bt183.1 bt183.2.1 bt183.2.2.1).bind fun t204 => (some (t204 == 1))) else (some false)) else (none)) else (some false)) else (none)) else (some false)) else (some false))) else (some false))) else (some false)))))))) = some r := H
 have A1 := zk A10
 clear A10
 replace H := Option.bind_eq_some_iff.mp H
 obtain ⟨⟨t162, t163, t164⟩, A20, H⟩ := H
 replace H : ((lw_x.f (⟨#[99]⟩ : ByteArray)).bind fun bt165 => ((lw_x.f (⟨#[99]⟩ : ByteArray)).bind fun bt171 => ((lw_x.f (⟨#[97]⟩ : ByteArray)).bind fun bt174 => ((lw_x.f (⟨#[100]⟩ : ByteArray)).bind fun bt177 => ((kids_Of.f k (([(⟨t159, t160, t161⟩ : S50), (⟨t162, t163, t164⟩ : S50), (⟨bt165.1, bt165.2.1, bt165.2.2⟩ : S50)] : List (S50))) (([(⟨bt171.1, bt171.2.1, bt171.2.2⟩ : S50), (⟨bt174.1, bt174.2.1, bt174.2.2⟩ : S50), (⟨bt177.1, bt177.2.1, bt177.2.2⟩ : S50)] : List (S50)))).bind fun bt183 => (if bt183.2.2.2 = 0 then ((pl_Ints.f k bt183.1 (([2, 0, (-1)] : List Int))).bind fun t197 => (if t197 = true then ((pl_Ints.f k bt183.2.1 (([1] : List Int))).bind fun t201 => (if t201 = true then (if (bt183.2.2.1.length : Int) = 2 then (if 0 < (bt183.2.2.1.length : Int) then (if (((rd_T46 bt183.2.2.1 0).f0) == 2 && (((rd_T46 bt183.2.2.1 0).f1) == (-1) && (((rd_T46 bt183.2.2.1 0).f2) == (-1)))) = true then (if 1 < (bt183.2.2.1.length : Int) then (if (((rd_T46 bt183.2.2.1 1).f0) == 0 && (((rd_T46 bt183.2.2.1 1).f1) == 2 && (((rd_T46 bt183.2.2.1 1).f2) == 1))) = true then ((kids_Moves.f k bt183.1 bt183.2.1 bt183.2.2.1).bind fun t204 => (some (t204 == 1))) else (some false)) else (none)) else (some false)) else (none)) else (some false)) else (some false))) else (some false))) else (some false))))))) = some r := H
 have A2 := zk A20
 clear A20
 replace H := Option.bind_eq_some_iff.mp H
 obtain ⟨⟨t165, t166, t167⟩, A30, H⟩ := H
 replace H : ((lw_x.f (⟨#[99]⟩ : ByteArray)).bind fun bt171 => ((lw_x.f (⟨#[97]⟩ : ByteArray)).bind fun bt174 => ((lw_x.f (⟨#[100]⟩ : ByteArray)).bind fun bt177 => ((kids_Of.f k (([(⟨t159, t160, t161⟩ : S50), (⟨t162, t163, t164⟩ : S50), (⟨t165, t166, t167⟩ : S50)] : List (S50))) (([(⟨bt171.1, bt171.2.1, bt171.2.2⟩ : S50), (⟨bt174.1, bt174.2.1, bt174.2.2⟩ : S50), (⟨bt177.1, bt177.2.1, bt177.2.2⟩ : S50)] : List (S50)))).bind fun bt183 => (if bt183.2.2.2 = 0 then ((pl_Ints.f k bt183.1 (([2, 0, (-1)] : List Int))).bind fun t197 => (if t197 = true then ((pl_Ints.f k bt183.2.1 (([1] : List Int))).bind fun t201 => (if t201 = true then (if (bt183.2.2.1.length : Int) = 2 then (if 0 < (bt183.2.2.1.length : Int) then (if (((rd_T46 bt183.2.2.1 0).f0) == 2 && (((rd_T46 bt183.2.2.1 0).f1) == (-1) && (((rd_T46 bt183.2.2.1 0).f2) == (-1)))) = true then (if 1 < (bt183.2.2.1.length : Int) then (if (((rd_T46 bt183.2.2.1 1).f0) == 0 && (((rd_T46 bt183.2.2.1 1).f1) == 2 && (((rd_T46 bt183.2.2.1 1).f2) == 1))) = true then ((kids_Moves.f k bt183.1 bt183.2.1 bt183.2.2.1).bind fun t204 => (some (t204 == 1))) else (some false)) else (none)) else (some false)) else (none)) else (some false)) else (some false))) else (some false))) else (some false)))))) = some r := H
 have A3 := zk A30
 clear A30
 obtain ⟨y168, hy168⟩ : ∃ y_ : List (S50), y_ = (([(⟨t159, t160, t161⟩ : S50), (⟨t162, t163, t164⟩ : S50), (⟨t165, t166, t167⟩ : S50)] : List (S50))) := ⟨_, rfl⟩
 replace H : ((lw_x.f (⟨#[99]⟩ : ByteArray)).bind fun bt171 => ((lw_x.f (⟨#[97]⟩ : ByteArray)).bind fun bt174 => ((lw_x.f (⟨#[100]⟩ : ByteArray)).bind fun bt177 => ((kids_Of.f k y168 (([(⟨bt171.1, bt171.2.1, bt171.2.2⟩ : S50), (⟨bt174.1, bt174.2.1, bt174.2.2⟩ : S50), (⟨bt177.1, bt177.2.1, bt177.2.2⟩ : S50)] : List (S50)))).bind fun bt183 => (if bt183.2.2.2 = 0 then ((pl_Ints.f k bt183.1 (([2, 0, (-1)] : List Int))).bind fun t197 => (if t197 = true then ((pl_Ints.f k bt183.2.1 (([1] : List Int))).bind fun t201 => (if t201 = true then (if (bt183.2.2.1.length : Int) = 2 then (if 0 < (bt183.2.2.1.length : Int) then (if (((rd_T46 bt183.2.2.1 0).f0) == 2 && (((rd_T46 bt183.2.2.1 0).f1) == (-1) && (((rd_T46 bt183.2.2.1 0).f2) == (-1)))) = true then (if 1 < (bt183.2.2.1.length : Int) then (if (((rd_T46 bt183.2.2.1 1).f0) == 0 && (((rd_T46 bt183.2.2.1 1).f1) == 2 && (((rd_T46 bt183.2.2.1 1).f2) == 1))) = true then ((kids_Moves.f k bt183.1 bt183.2.1 bt183.2.2.1).bind fun t204 => (some (t204 == 1))) else (some false)) else (none)) else (some false)) else (none)) else (some false)) else (some false))) else (some false))) else (some false)))))) = some r := by first | (rw [hy168]; with_reducible exact H) | (have H2_ := (Option.bind_some _ _).symm.trans H; rw [hy168]; with_reducible exact H2_) | (have H2_ := (Option.bind_some _ _).symm.trans H; with_reducible exact H2_) | with_reducible exact H | (rw [hy168]; exact H) | exact H
 have Ny168 := zk hy168
 clear hy168
 replace H := Option.bind_eq_some_iff.mp H
 obtain ⟨⟨t171, t172, t173⟩, A40, H⟩ := H
 replace H : ((lw_x.f (⟨#[97]⟩ : ByteArray)).bind fun bt174 => ((lw_x.f (⟨#[100]⟩ : ByteArray)).bind fun bt177 => ((kids_Of.f k y168 (([(⟨t171, t172, t173⟩ : S50), (⟨bt174.1, bt174.2.1, bt174.2.2⟩ : S50), (⟨bt177.1, bt177.2.1, bt177.2.2⟩ : S50)] : List (S50)))).bind fun bt183 => (if bt183.2.2.2 = 0 then ((pl_Ints.f k bt183.1 (([2, 0, (-1)] : List Int))).bind fun t197 => (if t197 = true then ((pl_Ints.f k bt183.2.1 (([1] : List Int))).bind fun t201 => (if t201 = true then (if (bt183.2.2.1.length : Int) = 2 then (if 0 < (bt183.2.2.1.length : Int) then (if (((rd_T46 bt183.2.2.1 0).f0) == 2 && (((rd_T46 bt183.2.2.1 0).f1) == (-1) && (((rd_T46 bt183.2.2.1 0).f2) == (-1)))) = true then (if 1 < (bt183.2.2.1.length : Int) then (if (((rd_T46 bt183.2.2.1 1).f0) == 0 && (((rd_T46 bt183.2.2.1 1).f1) == 2 && (((rd_T46 bt183.2.2.1 1).f2) == 1))) = true then ((kids_Moves.f k bt183.1 bt183.2.1 bt183.2.2.1).bind fun t204 => (some (t204 == 1))) else (some false)) else (none)) else (some false)) else (none)) else (some false)) else (some false))) else (some false))) else (some false))))) = some r := H
 have A4 := zk A40
 clear A40
 replace H := Option.bind_eq_some_iff.mp H
 obtain ⟨⟨t174, t175, t176⟩, A50, H⟩ := H
 replace H : ((lw_x.f (⟨#[100]⟩ : ByteArray)).bind fun bt177 => ((kids_Of.f k y168 (([(⟨t171, t172, t173⟩ : S50), (⟨t174, t175, t176⟩ : S50), (⟨bt177.1, bt177.2.1, bt177.2.2⟩ : S50)] : List (S50)))).bind fun bt183 => (if bt183.2.2.2 = 0 then ((pl_Ints.f k bt183.1 (([2, 0, (-1)] : List Int))).bind fun t197 => (if t197 = true then ((pl_Ints.f k bt183.2.1 (([1] : List Int))).bind fun t201 => (if t201 = true then (if (bt183.2.2.1.length : Int) = 2 then (if 0 < (bt183.2.2.1.length : Int) then (if (((rd_T46 bt183.2.2.1 0).f0) == 2 && (((rd_T46 bt183.2.2.1 0).f1) == (-1) && (((rd_T46 bt183.2.2.1 0).f2) == (-1)))) = true then (if 1 < (bt183.2.2.1.length : Int) then (if (((rd_T46 bt183.2.2.1 1).f0) == 0 && (((rd_T46 bt183.2.2.1 1).f1) == 2 && (((rd_T46 bt183.2.2.1 1).f2) == 1))) = true then ((kids_Moves.f k bt183.1 bt183.2.1 bt183.2.2.1).bind fun t204 => (some (t204 == 1))) else (some false)) else (none)) else (some false)) else (none)) else (some false)) else (some false))) else (some false))) else (some false)))) = some r := H
 have A5 := zk A50
 clear A50
 replace H := Option.bind_eq_some_iff.mp H
 obtain ⟨⟨t177, t178, t179⟩, A60, H⟩ := H
 replace H : ((kids_Of.f k y168 (([(⟨t171, t172, t173⟩ : S50), (⟨t174, t175, t176⟩ : S50), (⟨t177, t178, t179⟩ : S50)] : List (S50)))).bind fun bt183 => (if bt183.2.2.2 = 0 then ((pl_Ints.f k bt183.1 (([2, 0, (-1)] : List Int))).bind fun t197 => (if t197 = true then ((pl_Ints.f k bt183.2.1 (([1] : List Int))).bind fun t201 => (if t201 = true then (if (bt183.2.2.1.length : Int) = 2 then (if 0 < (bt183.2.2.1.length : Int) then (if (((rd_T46 bt183.2.2.1 0).f0) == 2 && (((rd_T46 bt183.2.2.1 0).f1) == (-1) && (((rd_T46 bt183.2.2.1 0).f2) == (-1)))) = true then (if 1 < (bt183.2.2.1.length : Int) then (if (((rd_T46 bt183.2.2.1 1).f0) == 0 && (((rd_T46 bt183.2.2.1 1).f1) == 2 && (((rd_T46 bt183.2.2.1 1).f2) == 1))) = true then ((kids_Moves.f k bt183.1 bt183.2.1 bt183.2.2.1).bind fun t204 => (some (t204 == 1))) else (some false)) else (none)) else (some false)) else (none)) else (some false)) else (some false))) else (some false))) else (some false))) = some r := H
 have A6 := zk A60
 clear A60
 obtain ⟨y180, hy180⟩ : ∃ y_ : List (S50), y_ = (([(⟨t171, t172, t173⟩ : S50), (⟨t174, t175, t176⟩ : S50), (⟨t177, t178, t179⟩ : S50)] : List (S50))) := ⟨_, rfl⟩
 replace H : ((kids_Of.f k y168 y180).bind fun bt183 => (if bt183.2.2.2 = 0 then ((pl_Ints.f k bt183.1 (([2, 0, (-1)] : List Int))).bind fun t197 => (if t197 = true then ((pl_Ints.f k bt183.2.1 (([1] : List Int))).bind fun t201 => (if t201 = true then (if (bt183.2.2.1.length : Int) = 2 then (if 0 < (bt183.2.2.1.length : Int) then (if (((rd_T46 bt183.2.2.1 0).f0) == 2 && (((rd_T46 bt183.2.2.1 0).f1) == (-1) && (((rd_T46 bt183.2.2.1 0).f2) == (-1)))) = true then (if 1 < (bt183.2.2.1.length : Int) then (if (((rd_T46 bt183.2.2.1 1).f0) == 0 && (((rd_T46 bt183.2.2.1 1).f1) == 2 && (((rd_T46 bt183.2.2.1 1).f2) == 1))) = true then ((kids_Moves.f k bt183.1 bt183.2.1 bt183.2.2.1).bind fun t204 => (some (t204 == 1))) else (some false)) else (none)) else (some false)) else (none)) else (some false)) else (some false))) else (some false))) else (some false))) = some r := by first | (rw [hy180]; with_reducible exact H) | (have H2_ := (Option.bind_some _ _).symm.trans H; rw [hy180]; with_reducible exact H2_) | (have H2_ := (Option.bind_some _ _).symm.trans H; with_reducible exact H2_) | with_reducible exact H | (rw [hy180]; exact H) | exact H
 have Ny180 := zk hy180
 clear hy180
 replace H := Option.bind_eq_some_iff.mp H
 obtain ⟨⟨t183, t186, t189, t192⟩, A70, H⟩ := H
 replace H : (if t192 = 0 then ((pl_Ints.f k t183 (([2, 0, (-1)] : List Int))).bind fun t197 => (if t197 = true then ((pl_Ints.f k t186 (([1] : List Int))).bind fun t201 => (if t201 = true then (if (t189.length : Int) = 2 then (if 0 < (t189.length : Int) then (if (((rd_T46 t189 0).f0) == 2 && (((rd_T46 t189 0).f1) == (-1) && (((rd_T46 t189 0).f2) == (-1)))) = true then (if 1 < (t189.length : Int) then (if (((rd_T46 t189 1).f0) == 0 && (((rd_T46 t189 1).f1) == 2 && (((rd_T46 t189 1).f2) == 1))) = true then ((kids_Moves.f k t183 t186 t189).bind fun t204 => (some (t204 == 1))) else (some false)) else (none)) else (some false)) else (none)) else (some false)) else (some false))) else (some false))) else (some false)) = some r := H
 have A7 := zk A70
 clear A70
 by_cases c8 : t192 = 0
 ·
  rw [if_pos c8] at H; have c8b0 : (t192 == 0) = true := beq_iff_eq.mpr c8; have c8b1 : (t192 != 0) = false := bne_eq_false_iff_eq.mpr c8; clear c8; obtain ⟨y194, hy194⟩ : ∃ y_ : List Int, y_ = (([2, 0, (-1)] : List Int)) := ⟨_, rfl⟩
  replace H : ((pl_Ints.f k t183 y194).bind fun t197 => (if t197 = true then ((pl_Ints.f k t186 (([1] : List Int))).bind fun t201 => (if t201 = true then (if (t189.length : Int) = 2 then (if 0 < (t189.length : Int) then (if (((rd_T46 t189 0).f0) == 2 && (((rd_T46 t189 0).f1) == (-1) && (((rd_T46 t189 0).f2) == (-1)))) = true then (if 1 < (t189.length : Int) then (if (((rd_T46 t189 1).f0) == 0 && (((rd_T46 t189 1).f1) == 2 && (((rd_T46 t189 1).f2) == 1))) = true then ((kids_Moves.f k t183 t186 t189).bind fun t204 => (some (t204 == 1))) else (some false)) else (none)) else (some false)) else (none)) else (some false)) else (some false))) else (some false))) = some r := by first | (rw [hy194]; with_reducible exact H) | (have H2_ := (Option.bind_some _ _).symm.trans H; rw [hy194]; with_reducible exact H2_) | (have H2_ := (Option.bind_some _ _).symm.trans H; with_reducible exact H2_) | with_reducible exact H | (rw [hy194]; exact H) | exact H
  have Ny194 := zk hy194; clear hy194; replace H := Option.bind_eq_some_iff.mp H; obtain ⟨t197, A90, H⟩ := H; replace H : (if t197 = true then ((pl_Ints.f k t186 (([1] : List Int))).bind fun t201 => (if t201 = true then (if (t189.length : Int) = 2 then (if 0 < (t189.length : Int) then (if (((rd_T46 t189 0).f0) == 2 && (((rd_T46 t189 0).f1) == (-1) && (((rd_T46 t189 0).f2) == (-1)))) = true then (if 1 < (t189.length : Int) then (if (((rd_T46 t189 1).f0) == 0 && (((rd_T46 t189 1).f1) == 2 && (((rd_T46 t189 1).f2) == 1))) = true then ((kids_Moves.f k t183 t186 t189).bind fun t204 => (some (t204 == 1))) else (some false)) else (none)) else (some false)) else (none)) else (some false)) else (some false))) else (some false)) = some r := H; have A9 := zk A90; clear A90
  by_cases c10 : t197 = true
  ·
   subst c10
   have H1 : ((pl_Ints.f k t186 (([1] : List Int))).bind fun t201 => (if t201 = true then (if (t189.length : Int) = 2 then (if 0 < (t189.length : Int) then (if (((rd_T46 t189 0).f0) == 2 && (((rd_T46 t189 0).f1) == (-1) && (((rd_T46 t189 0).f2) == (-1)))) = true then (if 1 < (t189.length : Int) then (if (((rd_T46 t189 1).f0) == 0 && (((rd_T46 t189 1).f1) == 2 && (((rd_T46 t189 1).f2) == 1))) = true then ((kids_Moves.f k t183 t186 t189).bind fun t204 => (some (t204 == 1))) else (some false)) else (none)) else (some false)) else (none)) else (some false)) else (some false))) = some r := by rw [if_pos rfl] at H; exact H
   clear H; have H := H1; clear H1; obtain ⟨y198, hy198⟩ : ∃ y_ : List Int, y_ = (([1] : List Int)) := ⟨_, rfl⟩
   replace H : ((pl_Ints.f k t186 y198).bind fun t201 => (if t201 = true then (if (t189.length : Int) = 2 then (if 0 < (t189.length : Int) then (if (((rd_T46 t189 0).f0) == 2 && (((rd_T46 t189 0).f1) == (-1) && (((rd_T46 t189 0).f2) == (-1)))) = true then (if 1 < (t189.length : Int) then (if (((rd_T46 t189 1).f0) == 0 && (((rd_T46 t189 1).f1) == 2 && (((rd_T46 t189 1).f2) == 1))) = true then ((kids_Moves.f k t183 t186 t189).bind fun t204 => (some (t204 == 1))) else (some false)) else (none)) else (some false)) else (none)) else (some false)) else (some false))) = some r := by first | (rw [hy198]; with_reducible exact H) | (have H2_ := (Option.bind_some _ _).symm.trans H; rw [hy198]; with_reducible exact H2_) | (have H2_ := (Option.bind_some _ _).symm.trans H; with_reducible exact H2_) | with_reducible exact H | (rw [hy198]; exact H) | exact H
   have Ny198 := zk hy198; clear hy198; replace H := Option.bind_eq_some_iff.mp H; obtain ⟨t201, A110, H⟩ := H; replace H : (if t201 = true then (if (t189.length : Int) = 2 then (if 0 < (t189.length : Int) then (if (((rd_T46 t189 0).f0) == 2 && (((rd_T46 t189 0).f1) == (-1) && (((rd_T46 t189 0).f2) == (-1)))) = true then (if 1 < (t189.length : Int) then (if (((rd_T46 t189 1).f0) == 0 && (((rd_T46 t189 1).f1) == 2 && (((rd_T46 t189 1).f2) == 1))) = true then ((kids_Moves.f k t183 t186 t189).bind fun t204 => (some (t204 == 1))) else (some false)) else (none)) else (some false)) else (none)) else (some false)) else (some false)) = some r := H; have A11 := zk A110; clear A110
   by_cases c12 : t201 = true
   ·
    subst c12
    have H1 : (if (t189.length : Int) = 2 then (if 0 < (t189.length : Int) then (if (((rd_T46 t189 0).f0) == 2 && (((rd_T46 t189 0).f1) == (-1) && (((rd_T46 t189 0).f2) == (-1)))) = true then (if 1 < (t189.length : Int) then (if (((rd_T46 t189 1).f0) == 0 && (((rd_T46 t189 1).f1) == 2 && (((rd_T46 t189 1).f2) == 1))) = true then ((kids_Moves.f k t183 t186 t189).bind fun t204 => (some (t204 == 1))) else (some false)) else (none)) else (some false)) else (none)) else (some false)) = some r := by rw [if_pos rfl] at H; exact H
    clear H; have H := H1; clear H1
    by_cases c13 : (t189.length : Int) = 2
    ·
     rw [if_pos c13] at H; have c13b0 := beq_iff_eq.mpr c13; have c13b1 := bne_eq_false_iff_eq.mpr c13; clear c13
     by_cases c14 : 0 < (t189.length : Int)
     ·
      rw [if_pos c14] at H; have c14b0 := decide_eq_true c14; have c14b1 : decide (0 < t189.length) = true := decide_eq_true (by omega); clear c14
      by_cases c15 : (((rd_T46 t189 0).f0) == 2 && (((rd_T46 t189 0).f1) == (-1) && (((rd_T46 t189 0).f2) == (-1)))) = true
      ·
       rw [if_pos c15] at H; have c15b0 : (((rd_T46 t189 0).f0) == 2 && (((rd_T46 t189 0).f1) == (-1) && (((rd_T46 t189 0).f2) == (-1)))) = true := c15
       (try (have c15b1 : decide (((rd_T46 t189 0).f0) = 2 && (((rd_T46 t189 0).f1) == (-1) && (((rd_T46 t189 0).f2) == (-1)))) = true := by simpa using c15))
       (try (have c15b2 : (((rd_T46 t189 0).f0) == 2 && (((rd_T46 t189 0).f1) == (-1) && (((rd_T46 t189 0).f2) == (-1)))) = true := by simpa using c15))
       clear c15
       by_cases c16 : 1 < (t189.length : Int)
       ·
        rw [if_pos c16] at H; have c16b0 := decide_eq_true c16; have c16b1 : decide (1 < t189.length) = true := decide_eq_true (by omega); clear c16
        by_cases c17 : (((rd_T46 t189 1).f0) == 0 && (((rd_T46 t189 1).f1) == 2 && (((rd_T46 t189 1).f2) == 1))) = true
        ·
         rw [if_pos c17] at H; have c17b0 : (((rd_T46 t189 1).f0) == 0 && (((rd_T46 t189 1).f1) == 2 && (((rd_T46 t189 1).f2) == 1))) = true := c17
         (try (have c17b1 : decide (((rd_T46 t189 1).f0) = 0 && (((rd_T46 t189 1).f1) == 2 && (((rd_T46 t189 1).f2) == 1))) = true := by simpa using c17))
         (try (have c17b2 : (((rd_T46 t189 1).f0) == 0 && (((rd_T46 t189 1).f1) == 2 && (((rd_T46 t189 1).f2) == 1))) = true := by simpa using c17))
         clear c17; replace H := Option.bind_eq_some_iff.mp H; obtain ⟨t204, A180, H⟩ := H; replace H : (some (t204 == 1)) = some r := H; have A18 := zk A180; clear A180; obtain rfl := Option.some.inj H
         go_enter Try.func8, Try.ntmps8
         go_wp2_with (first | ((with_reducible refine gk (f := 22) rfl ?_); refine gl (some 4) rfl rfl Try.func22 (by kernel_rfl) rfl #[.string (⟨#[97]⟩ : ByteArray)] rfl (by (try simp only [List.map_toArray, List.map_cons, List.map_nil]); first | done | rfl | (simp only [List.length_drop, List.length_take]; rfl)) ?_; (with_reducible refine (lw_x.calls (⟨#[97]⟩ : ByteArray) t159 t160 t161 _ A1.out).mono ?_); rintro e w19 ⟨rfl, hb⟩; refine ⟨_, rfl, ?_⟩; have n0_ := zk (zs (by with_reducible repeat first | exact HB.out | apply zA | apply zN | apply zD) hb); clear HB; have HB := n0_; clear n0_; (try clear hb); (try clear hb2); (try clear hk); (try clear hi)) | ((with_reducible refine gk (f := 22) rfl ?_); refine gl (some 5) rfl rfl Try.func22 (by kernel_rfl) rfl #[.string (⟨#[98]⟩ : ByteArray)] rfl (by (try simp only [List.map_toArray, List.map_cons, List.map_nil]); first | done | rfl | (simp only [List.length_drop, List.length_take]; rfl)) ?_; (with_reducible refine (lw_x.calls (⟨#[98]⟩ : ByteArray) t162 t163 t164 _ A2.out).mono ?_); rintro e w20 ⟨rfl, hb⟩; refine ⟨_, rfl, ?_⟩; have n0_ := zk (zs (by with_reducible repeat first | exact HB.out | apply zA | apply zN | apply zD) hb); clear HB; have HB := n0_; clear n0_; (try clear hb); (try clear hb2); (try clear hk); (try clear hi)) | ((with_reducible refine gk (f := 22) rfl ?_); refine gl (some 6) rfl rfl Try.func22 (by kernel_rfl) rfl #[.string (⟨#[99]⟩ : ByteArray)] rfl (by (try simp only [List.map_toArray, List.map_cons, List.map_nil]); first | done | rfl | (simp only [List.length_drop, List.length_take]; rfl)) ?_; (with_reducible refine (lw_x.calls (⟨#[99]⟩ : ByteArray) t165 t166 t167 _ A3.out).mono ?_); rintro e w21 ⟨rfl, hb⟩; refine ⟨_, rfl, ?_⟩; have n0_ := zk (zs (by with_reducible repeat first | exact HB.out | apply zA | apply zN | apply zD) hb); clear HB; have HB := n0_; clear n0_; (try clear hb); (try clear hb2); (try clear hk); (try clear hi)) | ((with_reducible refine gd (N := 7) rfl ?_); (try (refine gg (by rfl) ?_; dsimp only)); refine Kd.R_lit k50 _ 50 ?hg (N := 7) ?hd (xs := ([(⟨t159, t160, t161⟩ : S50), (⟨t162, t163, t164⟩ : S50), (⟨t165, t166, t167⟩ : S50)] : List (S50))) (inner := [.string t159, .string t160, .int .i64 t161, .string t162, .string t163, .int .i64 t164, .string t165, .string t166, .int .i64 t167]) (ok := fun _ => True) (okp := fun _ => True) ?hr ?hp (fun _ hk => hk) trivial (Below.refl _ _) (Nat.le_refl _) (by simp) ?_; (case hd => rfl); (case hg => rfl); (case hr => go_simp; first | done | rfl); (case hp => exact (Reps.c3 (show Kd.M k50 _ _ _ (⟨t159, t160, t161⟩ : S50) [.string t159, .string t160, .int .i64 t161] from (k50_mkM _ _ _ (⟨t159, t160, t161⟩ : S50) )) (Reps.c3 (show Kd.M k50 _ _ _ (⟨t162, t163, t164⟩ : S50) [.string t162, .string t163, .int .i64 t164] from (k50_mkM _ _ _ (⟨t162, t163, t164⟩ : S50) )) (Reps.c3 (show Kd.M k50 _ _ _ (⟨t165, t166, t167⟩ : S50) [.string t165, .string t166, .int .i64 t167] from (k50_mkM _ _ _ (⟨t165, t166, t167⟩ : S50) )) (Reps.none _ _))))); intro v169 w22 ho23 hb hg_ hnew_; clear hg_ hnew_; (first | rw [← Ny168.out] at ho23 | (simp only [Int.reduceToNat] at ho23; rw [← Ny168.out] at ho23)); have n0_ := zk (Kd.R_lower ho23 (zq (by with_reducible repeat first | exact HB.out | apply zA | apply zN | apply zD))); have n1_ := zk (zs (by with_reducible repeat first | exact HB.out | apply zA | apply zN | apply zD) hb); clear HB; have HO170 := n0_; have HB := n1_; clear n0_ n1_; clear hb ho23) | ((with_reducible refine gk (f := 22) rfl ?_); refine gl (some 8) rfl rfl Try.func22 (by kernel_rfl) rfl #[.string (⟨#[99]⟩ : ByteArray)] rfl (by (try simp only [List.map_toArray, List.map_cons, List.map_nil]); first | done | rfl | (simp only [List.length_drop, List.length_take]; rfl)) ?_; (with_reducible refine (lw_x.calls (⟨#[99]⟩ : ByteArray) t171 t172 t173 _ A4.out).mono ?_); rintro e w24 ⟨rfl, hb⟩; refine ⟨_, rfl, ?_⟩; have n0_ := zk (Kd.R_below (by (with_reducible repeat (first | apply Kd.R_alloc | apply Kd.R_drewN | apply Kd.R_drew)); exact HO170.out) hb); have n1_ := zk (zs (by with_reducible repeat first | exact HB.out | apply zA | apply zN | apply zD) hb); clear HO170; clear HB; have HO170 := n0_; have HB := n1_; clear n0_ n1_; (try clear hb); (try clear hb2); (try clear hk); (try clear hi)) | ((with_reducible refine gk (f := 22) rfl ?_); refine gl (some 9) rfl rfl Try.func22 (by kernel_rfl) rfl #[.string (⟨#[97]⟩ : ByteArray)] rfl (by (try simp only [List.map_toArray, List.map_cons, List.map_nil]); first | done | rfl | (simp only [List.length_drop, List.length_take]; rfl)) ?_; (with_reducible refine (lw_x.calls (⟨#[97]⟩ : ByteArray) t174 t175 t176 _ A5.out).mono ?_); rintro e w25 ⟨rfl, hb⟩; refine ⟨_, rfl, ?_⟩; have n0_ := zk (Kd.R_below (by (with_reducible repeat (first | apply Kd.R_alloc | apply Kd.R_drewN | apply Kd.R_drew)); exact HO170.out) hb); have n1_ := zk (zs (by with_reducible repeat first | exact HB.out | apply zA | apply zN | apply zD) hb); clear HO170; clear HB; have HO170 := n0_; have HB := n1_; clear n0_ n1_; (try clear hb); (try clear hb2); (try clear hk); (try clear hi)) | ((with_reducible refine gk (f := 22) rfl ?_); refine gl (some 10) rfl rfl Try.func22 (by kernel_rfl) rfl #[.string (⟨#[100]⟩ : ByteArray)] rfl (by (try simp only [List.map_toArray, List.map_cons, List.map_nil]); first | done | rfl | (simp only [List.length_drop, List.length_take]; rfl)) ?_; (with_reducible refine (lw_x.calls (⟨#[100]⟩ : ByteArray) t177 t178 t179 _ A6.out).mono ?_); rintro e w26 ⟨rfl, hb⟩; refine ⟨_, rfl, ?_⟩; have n0_ := zk (Kd.R_below (by (with_reducible repeat (first | apply Kd.R_alloc | apply Kd.R_drewN | apply Kd.R_drew)); exact HO170.out) hb); have n1_ := zk (zs (by with_reducible repeat first | exact HB.out | apply zA | apply zN | apply zD) hb); clear HO170; clear HB; have HO170 := n0_; have HB := n1_; clear n0_ n1_; (try clear hb); (try clear hb2); (try clear hk); (try clear hi)) | ((with_reducible refine gd (N := 11) rfl ?_); (try (refine gg (by rfl) ?_; dsimp only)); refine Kd.R_lit k50 _ 50 ?hg (N := 11) ?hd (xs := ([(⟨t171, t172, t173⟩ : S50), (⟨t174, t175, t176⟩ : S50), (⟨t177, t178, t179⟩ : S50)] : List (S50))) (inner := [.string t171, .string t172, .int .i64 t173, .string t174, .string t175, .int .i64 t176, .string t177, .string t178, .int .i64 t179]) (ok := fun _ => True) (okp := fun _ => True) ?hr ?hp (fun _ hk => hk) trivial (Below.refl _ _) (Nat.le_refl _) (by simp) ?_; (case hd => rfl); (case hg => rfl); (case hr => go_simp; first | done | rfl); (case hp => exact (Reps.c3 (show Kd.M k50 _ _ _ (⟨t171, t172, t173⟩ : S50) [.string t171, .string t172, .int .i64 t173] from (k50_mkM _ _ _ (⟨t171, t172, t173⟩ : S50) )) (Reps.c3 (show Kd.M k50 _ _ _ (⟨t174, t175, t176⟩ : S50) [.string t174, .string t175, .int .i64 t176] from (k50_mkM _ _ _ (⟨t174, t175, t176⟩ : S50) )) (Reps.c3 (show Kd.M k50 _ _ _ (⟨t177, t178, t179⟩ : S50) [.string t177, .string t178, .int .i64 t179] from (k50_mkM _ _ _ (⟨t177, t178, t179⟩ : S50) )) (Reps.none _ _))))); intro v181 w27 ho28 hb hg_ hnew_; clear hg_ hnew_; (first | rw [← Ny180.out] at ho28 | (simp only [Int.reduceToNat] at ho28; rw [← Ny180.out] at ho28)); have n0_ := zk (Kd.R_elder' (by (with_reducible repeat (first | apply Kd.R_alloc | apply Kd.R_drewN | apply Kd.R_drew)); exact HO170.out) (Kd.R_base ho28) hb); have n1_ := zk (Kd.R_lower (Kd.R_new' ho28 (Kd.R_lt (by (with_reducible repeat (first | apply Kd.R_alloc | apply Kd.R_drewN | apply Kd.R_drew)); exact HO170.out))) (zq (by with_reducible repeat first | exact HB.out | apply zA | apply zN | apply zD))); have n2_ := zk (zs (by with_reducible repeat first | exact HB.out | apply zA | apply zN | apply zD) hb); clear HO170; clear HB; have HO170 := n0_; have HO182 := n1_; have HB := n2_; clear n0_ n1_ n2_; clear hb ho28; obtain ⟨Ao29, co29, eo29⟩ := Kd.R_slice HO170.out; subst eo29; obtain ⟨Ao30, co30, eo30⟩ := Kd.R_slice HO182.out; subst eo30) | ((with_reducible refine gk (f := 11) rfl ?_); refine gl (some 12) rfl rfl Try.func11 (by kernel_rfl) rfl #[.slice Ao29 y168.length co29, .slice Ao30 y180.length co30] rfl (by (try simp only [List.map_toArray, List.map_cons, List.map_nil]); first | done | rfl | (simp only [List.length_drop, List.length_take]; rfl)) ?_; (with_reducible refine (kids_Of.calls k _ _ y168 _ _ y180 t183 t186 t189 t192 _ ?side1 ?side2 ?side3 ?side4 A7.out).mono ?_); (case side1 => repeat (first | exact (Kd.R_reads' HO170.out).2.2 | (with_reducible refine Kd.C_alloc ?_ _) | (with_reducible refine Kd.C_drewN ?_ _) | (with_reducible refine Kd.C_drew ?_))); (case side2 => exact (Kd.R_reads' HO170.out).2.1); (case side3 => repeat (first | exact (Kd.R_reads' HO182.out).2.2 | (with_reducible refine Kd.C_alloc ?_ _) | (with_reducible refine Kd.C_drewN ?_ _) | (with_reducible refine Kd.C_drew ?_))); (case side4 => exact (Kd.R_reads' HO182.out).2.1); rintro e w31 ⟨v184, v187, v190, rfl, ho0, ho1, ho2, hb⟩; refine ⟨_, rfl, ?_⟩; have n0_ := zk (Kd.R_below (by (with_reducible repeat (first | apply Kd.R_alloc | apply Kd.R_drewN | apply Kd.R_drew)); exact HO170.out) hb); have n1_ := zk (Kd.R_below (by (with_reducible repeat (first | apply Kd.R_alloc | apply Kd.R_drewN | apply Kd.R_drew)); exact HO182.out) hb); have n2_ := zk (Kd.R_lower ho0 (zq (by with_reducible repeat first | exact HB.out | apply zA | apply zN | apply zD))); have n3_ := zk (Kd.R_lower ho1 (zq (by with_reducible repeat first | exact HB.out | apply zA | apply zN | apply zD))); have n4_ := zk (Kd.R_lower ho2 (zq (by with_reducible repeat first | exact HB.out | apply zA | apply zN | apply zD))); have n5_ := zk (zs (by with_reducible repeat first | exact HB.out | apply zA | apply zN | apply zD) hb); clear HO170; clear HO182; clear HB; have HO170 := n0_; have HO182 := n1_; have HO185 := n2_; have HO188 := n3_; have HO191 := n4_; have HB := n5_; clear n0_ n1_ n2_ n3_ n4_ n5_; (try clear hb); (try clear hb2); (try clear hk); (try clear hi); (try clear ho0); (try clear ho1); (try clear ho2)) | ((with_reducible refine gd (N := 1) rfl ?_); (try (refine gg (by rfl) ?_; dsimp only)); refine zb ?hg (N := 1) ?hd (cs := #[.slice none 0 0, .slice none 0 0, .slice none 0 0]) (t := 30) ?hr ?_; (case hd => rfl); (case hg => rfl); (case hr => go_simp; first | done | rfl); intro gb193 hg w32 hbox hb; have n0_ := zk (Kd.R_below (by (with_reducible repeat (first | apply Kd.R_alloc | apply Kd.R_drewN | apply Kd.R_drew)); exact HO170.out) hb); have n1_ := zk (Kd.R_below (by (with_reducible repeat (first | apply Kd.R_alloc | apply Kd.R_drewN | apply Kd.R_drew)); exact HO182.out) hb); have n2_ := zk (Kd.R_below (by (with_reducible repeat (first | apply Kd.R_alloc | apply Kd.R_drewN | apply Kd.R_drew)); exact HO185.out) hb); have n3_ := zk (Kd.R_below (by (with_reducible repeat (first | apply Kd.R_alloc | apply Kd.R_drewN | apply Kd.R_drew)); exact HO188.out) hb); have n4_ := zk (Kd.R_below (by (with_reducible repeat (first | apply Kd.R_alloc | apply Kd.R_drewN | apply Kd.R_drew)); exact HO191.out) hb); have n5_ := zk (zs (by with_reducible repeat first | exact HB.out | apply zA | apply zN | apply zD) hb); have n6_ := zk (hbox); have n7_ := zk ((by rw [hg]; exact (zq (by with_reducible repeat first | exact HB.out | apply zA | apply zN | apply zD)) : w.heap.size ≤ gb193)); have n8_ := n7_; clear HO170; clear HO182; clear HO185; clear HO188; clear HO191; clear HB; have HO170 := n0_; have HO182 := n1_; have HO185 := n2_; have HO188 := n3_; have HO191 := n4_; have HB := n5_; have BK193 := n6_; have GW193 := n7_; have GE193 := n8_; clear n0_ n1_ n2_ n3_ n4_ n5_ n6_ n7_ n8_; clear hb hbox hg; obtain ⟨Ao33, co33, eo33⟩ := Kd.R_slice HO185.out; subst eo33; obtain ⟨hcz34_0, hcz34_1, hcz34_2, hfz34_0, hfz34_1, hfz34_2⟩ := zc3 BK193.out; obtain ⟨Ao35, co35, eo35⟩ := Kd.R_slice HO188.out; subst eo35; obtain ⟨Ao36, co36, eo36⟩ := Kd.R_slice HO191.out; subst eo36) | ((with_reducible refine gd (N := 20) rfl ?_); (try (refine gg (by rfl) ?_; dsimp only)); refine Kd.R_lit (Kd.int .i64) _ 3 ?hg (N := 20) ?hd (xs := ([2, 0, (-1)] : List Int)) (inner := [.int .i64 2, .int .i64 0, .int .i64 (-1)]) (ok := fun _ => True) (okp := fun _ => True) ?hr ?hp (fun _ hk => hk) trivial (Below.refl _ _) (Nat.le_refl _) (by simp) ?_; (case hd => rfl); (case hg => rfl); (case hr => go_simp; first | done | rfl); (case hp => exact (Reps.one (show Kd.M (Kd.int .i64) _ _ _ 2 [.int .i64 2] from rfl) (Reps.one (show Kd.M (Kd.int .i64) _ _ _ 0 [.int .i64 0] from rfl) (Reps.one (show Kd.M (Kd.int .i64) _ _ _ (-1) [.int .i64 (-1)] from rfl) (Reps.none _ _))))); intro v195 w37 ho38 hb hg_ hnew_; clear hg_ hnew_; (first | rw [← Ny194.out] at ho38 | (simp only [Int.reduceToNat] at ho38; rw [← Ny194.out] at ho38)); have n0_ := zk (Kd.R_below (by (with_reducible repeat (first | apply Kd.R_alloc | apply Kd.R_drewN | apply Kd.R_drew)); exact (Kd.R_mono (Kd.R_far (p := ⟨gb193, 2, none⟩) (Kd.R_far (p := ⟨gb193, 1, none⟩) (Kd.R_far (p := ⟨gb193, 0, none⟩) (Kd.R_types HO170.out BK193.out (by decide)) (fun _ hk => hk.2) (.slice Ao33 t183.length co33)) (fun _ hk => hk.2) (.slice Ao35 t186.length co35)) (fun _ hk => hk.2) (.slice Ao36 t189.length co36)) (fun _ h_ => h_.1))) hb); have n1_ := zk (Kd.R_below (by (with_reducible repeat (first | apply Kd.R_alloc | apply Kd.R_drewN | apply Kd.R_drew)); exact (Kd.R_mono (Kd.R_far (p := ⟨gb193, 2, none⟩) (Kd.R_far (p := ⟨gb193, 1, none⟩) (Kd.R_far (p := ⟨gb193, 0, none⟩) (Kd.R_types HO182.out BK193.out (by decide)) (fun _ hk => hk.2) (.slice Ao33 t183.length co33)) (fun _ hk => hk.2) (.slice Ao35 t186.length co35)) (fun _ hk => hk.2) (.slice Ao36 t189.length co36)) (fun _ h_ => h_.1))) hb); have n2_ := zk (Kd.R_elder' (by (with_reducible repeat (first | apply Kd.R_alloc | apply Kd.R_drewN | apply Kd.R_drew)); exact (Kd.R_mono (Kd.R_far (p := ⟨gb193, 2, none⟩) (Kd.R_far (p := ⟨gb193, 1, none⟩) (Kd.R_far (p := ⟨gb193, 0, none⟩) (Kd.R_types HO185.out BK193.out (by decide)) (fun _ hk => hk.2) (.slice Ao33 t183.length co33)) (fun _ hk => hk.2) (.slice Ao35 t186.length co35)) (fun _ hk => hk.2) (.slice Ao36 t189.length co36)) (fun _ h_ => h_.1))) (Kd.R_base ho38) hb); have n3_ := zk (Kd.R_elder' (by (with_reducible repeat (first | apply Kd.R_alloc | apply Kd.R_drewN | apply Kd.R_drew)); exact (Kd.R_mono (Kd.R_far (p := ⟨gb193, 2, none⟩) (Kd.R_far (p := ⟨gb193, 1, none⟩) (Kd.R_far (p := ⟨gb193, 0, none⟩) (Kd.R_types HO188.out BK193.out (by decide)) (fun _ hk => hk.2) (.slice Ao33 t183.length co33)) (fun _ hk => hk.2) (.slice Ao35 t186.length co35)) (fun _ hk => hk.2) (.slice Ao36 t189.length co36)) (fun _ h_ => h_.1))) (Kd.R_base ho38) hb); have n4_ := zk (Kd.R_below (by (with_reducible repeat (first | apply Kd.R_alloc | apply Kd.R_drewN | apply Kd.R_drew)); exact (Kd.R_mono (Kd.R_far (p := ⟨gb193, 2, none⟩) (Kd.R_far (p := ⟨gb193, 1, none⟩) (Kd.R_far (p := ⟨gb193, 0, none⟩) (Kd.R_types HO191.out BK193.out (by decide)) (fun _ hk => hk.2) (.slice Ao33 t183.length co33)) (fun _ hk => hk.2) (.slice Ao35 t186.length co35)) (fun _ hk => hk.2) (.slice Ao36 t189.length co36)) (fun _ h_ => h_.1))) hb); have n5_ := zk (Kd.R_lower (Kd.R_new' (Kd.R_new' ho38 (Kd.R_lt (by (with_reducible repeat (first | apply Kd.R_alloc | apply Kd.R_drewN | apply Kd.R_drew)); exact (Kd.R_mono (Kd.R_far (p := ⟨gb193, 2, none⟩) (Kd.R_far (p := ⟨gb193, 1, none⟩) (Kd.R_far (p := ⟨gb193, 0, none⟩) (Kd.R_types HO185.out BK193.out (by decide)) (fun _ hk => hk.2) (.slice Ao33 t183.length co33)) (fun _ hk => hk.2) (.slice Ao35 t186.length co35)) (fun _ hk => hk.2) (.slice Ao36 t189.length co36)) (fun _ h_ => h_.1))))) (Kd.R_lt (by (with_reducible repeat (first | apply Kd.R_alloc | apply Kd.R_drewN | apply Kd.R_drew)); exact (Kd.R_mono (Kd.R_far (p := ⟨gb193, 2, none⟩) (Kd.R_far (p := ⟨gb193, 1, none⟩) (Kd.R_far (p := ⟨gb193, 0, none⟩) (Kd.R_types HO188.out BK193.out (by decide)) (fun _ hk => hk.2) (.slice Ao33 t183.length co33)) (fun _ hk => hk.2) (.slice Ao35 t186.length co35)) (fun _ hk => hk.2) (.slice Ao36 t189.length co36)) (fun _ h_ => h_.1))))) (zq (by with_reducible repeat first | exact HB.out | apply zA | apply zN | apply zD | refine zS ?_ GE193.out))); have n6_ := zk (blk_below (g := gb193) (o := .cells #[.slice Ao33 t183.length co33, .slice Ao35 t186.length co35, .slice Ao36 t189.length co36] 30 (0, 0)) (by (with_reducible repeat first | apply zM | apply zE | apply zF); refine zP (cs := #[.slice Ao33 t183.length co33, .slice Ao35 t186.length co35, .slice none 0 0]) ?_ 2 _ rfl; (with_reducible repeat first | apply zM | apply zE | apply zF); refine zP (cs := #[.slice Ao33 t183.length co33, .slice none 0 0, .slice none 0 0]) ?_ 1 _ rfl; (with_reducible repeat first | apply zM | apply zE | apply zF); refine zP (cs := #[.slice none 0 0, .slice none 0 0, .slice none 0 0]) ?_ 0 _ rfl; (with_reducible repeat first | apply zM | apply zE | apply zF); exact BK193.out) hb); have n7_ := zk (zs (by with_reducible repeat first | exact HB.out | apply zA | apply zN | apply zD | refine zS ?_ GE193.out) hb); clear HO170; clear HO182; clear HO185; clear HO188; clear HO191; clear BK193; clear HB; have HO170 := n0_; have HO182 := n1_; have HO185 := n2_; have HO188 := n3_; have HO191 := n4_; have HO196 := n5_; have BK193 := n6_; have HB := n7_; clear n0_ n1_ n2_ n3_ n4_ n5_ n6_ n7_; clear hb ho38; obtain ⟨Ao39, co39, eo39⟩ := Kd.R_slice HO196.out; subst eo39) | (go_at_call 15; (with_reducible refine (pl_Ints.calls k _ _ t183 _ _ y194 true _ ?side1 ?side2 ?side3 ?side4 A9.out).mono ?_); (case side1 => repeat (first | exact (Kd.R_reads' HO185.out).2.2 | (with_reducible refine Kd.C_alloc ?_ _) | (with_reducible refine Kd.C_drewN ?_ _) | (with_reducible refine Kd.C_drew ?_))); (case side2 => exact (Kd.R_reads' HO185.out).2.1); (case side3 => repeat (first | exact (Kd.R_reads' HO196.out).2.2 | (with_reducible refine Kd.C_alloc ?_ _) | (with_reducible refine Kd.C_drewN ?_ _) | (with_reducible refine Kd.C_drew ?_))); (case side4 => exact (Kd.R_reads' HO196.out).2.1); rintro e w' ⟨rfl, ⟨nd, rfl⟩⟩; obtain ⟨hcz40_0, hcz40_1, hcz40_2, hfz40_0, hfz40_1, hfz40_2⟩ := zc3 BK193.out) | ((with_reducible refine gd (N := 26) rfl ?_); (try (refine gg (by rfl) ?_; dsimp only)); refine Kd.R_lit (Kd.int .i64) _ 3 ?hg (N := 26) ?hd (xs := ([1] : List Int)) (inner := [.int .i64 1]) (ok := fun _ => True) (okp := fun _ => True) ?hr ?hp (fun _ hk => hk) trivial (Below.refl _ _) (Nat.le_refl _) (by simp) ?_; (case hd => rfl); (case hg => rfl); (case hr => go_simp; first | done | rfl); (case hp => exact (Reps.one (show Kd.M (Kd.int .i64) _ _ _ 1 [.int .i64 1] from rfl) (Reps.none _ _))); intro v199 w41 ho42 hb hg_ hnew_; clear hg_ hnew_; (first | rw [← Ny198.out] at ho42 | (simp only [Int.reduceToNat] at ho42; rw [← Ny198.out] at ho42)); have n0_ := zk (Kd.R_below (by (with_reducible repeat (first | apply Kd.R_alloc | apply Kd.R_drewN | apply Kd.R_drew)); exact HO170.out) hb); have n1_ := zk (Kd.R_below (by (with_reducible repeat (first | apply Kd.R_alloc | apply Kd.R_drewN | apply Kd.R_drew)); exact HO182.out) hb); have n2_ := zk (Kd.R_elder' (by (with_reducible repeat (first | apply Kd.R_alloc | apply Kd.R_drewN | apply Kd.R_drew)); exact HO185.out) (Kd.R_base ho42) hb); have n3_ := zk (Kd.R_elder' (by (with_reducible repeat (first | apply Kd.R_alloc | apply Kd.R_drewN | apply Kd.R_drew)); exact HO188.out) (Kd.R_base ho42) hb); have n4_ := zk (Kd.R_below (by (with_reducible repeat (first | apply Kd.R_alloc | apply Kd.R_drewN | apply Kd.R_drew)); exact HO191.out) hb); have n5_ := zk (Kd.R_elder' (by (with_reducible repeat (first | apply Kd.R_alloc | apply Kd.R_drewN | apply Kd.R_drew)); exact HO196.out) (Kd.R_base ho42) hb); have n6_ := zk (Kd.R_lower (Kd.R_new' (Kd.R_new' (Kd.R_new' ho42 (Kd.R_lt (by (with_reducible repeat (first | apply Kd.R_alloc | apply Kd.R_drewN | apply Kd.R_drew)); exact HO185.out))) (Kd.R_lt (by (with_reducible repeat (first | apply Kd.R_alloc | apply Kd.R_drewN | apply Kd.R_drew)); exact HO188.out))) (Kd.R_lt (by (with_reducible repeat (first | apply Kd.R_alloc | apply Kd.R_drewN | apply Kd.R_drew)); exact HO196.out))) (zq (by with_reducible repeat first | exact HB.out | apply zA | apply zN | apply zD | refine zS ?_ GE193.out))); have n7_ := zk (blk_below (g := gb193) (o := .cells #[.slice Ao33 t183.length co33, .slice Ao35 t186.length co35, .slice Ao36 t189.length co36] 30 (0, 0)) (by (with_reducible repeat first | apply zM | apply zE | apply zF); exact BK193.out) hb); have n8_ := zk (zs (by with_reducible repeat first | exact HB.out | apply zA | apply zN | apply zD | refine zS ?_ GE193.out) hb); clear HO170; clear HO182; clear HO185; clear HO188; clear HO191; clear HO196; clear BK193; clear HB; have HO170 := n0_; have HO182 := n1_; have HO185 := n2_; have HO188 := n3_; have HO191 := n4_; have HO196 := n5_; have HO200 := n6_; have BK193 := n7_; have HB := n8_; clear n0_ n1_ n2_ n3_ n4_ n5_ n6_ n7_ n8_; clear hb ho42; obtain ⟨Ao43, co43, eo43⟩ := Kd.R_slice HO200.out; subst eo43) | (go_at_call 15; (with_reducible refine (pl_Ints.calls k _ _ t186 _ _ y198 true _ ?side1 ?side2 ?side3 ?side4 A11.out).mono ?_); (case side1 => repeat (first | exact (Kd.R_reads' HO188.out).2.2 | (with_reducible refine Kd.C_alloc ?_ _) | (with_reducible refine Kd.C_drewN ?_ _) | (with_reducible refine Kd.C_drew ?_))); (case side2 => exact (Kd.R_reads' HO188.out).2.1); (case side3 => repeat (first | exact (Kd.R_reads' HO200.out).2.2 | (with_reducible refine Kd.C_alloc ?_ _) | (with_reducible refine Kd.C_drewN ?_ _) | (with_reducible refine Kd.C_drew ?_))); (case side4 => exact (Kd.R_reads' HO200.out).2.1); rintro e w' ⟨rfl, ⟨nd, rfl⟩⟩; obtain ⟨hcz44_0, hcz44_1, hcz44_2, hfz44_0, hfz44_1, hfz44_2⟩ := zc3 BK193.out; have p202 : 0 ≤ (0 : Int) := (by omega); have q202 : 0 < (t189.length : Int) := zo (by assumption); obtain ⟨ad202, e202, hx202_0, hx202_1, hx202_2⟩ := at_T46 (Kd.R_reads' HO191.out).2.2 0 p202 q202; cases e202; have qi202 : (0 < t189.length) = True := eq_true (by omega); (try rw [show ((0 : Int)).toNat = 0 from rfl] at hx202_0); (try rw [show 0 * 3 = 0 from rfl] at hx202_0); (try rw [Addr.add_zero'] at hx202_0); (try rw [show ((0 : Int)).toNat = 0 from rfl] at hx202_1); (try rw [show 0 * 3 = 0 from rfl] at hx202_1); (try rw [Addr.add_zero'] at hx202_1); (try rw [show ((0 : Int)).toNat = 0 from rfl] at hx202_2); (try rw [show 0 * 3 = 0 from rfl] at hx202_2); (try rw [Addr.add_zero'] at hx202_2); replace p202 := eq_true p202; replace q202 := eq_true q202; have p203 : 0 ≤ (1 : Int) := (by omega); have q203 : 1 < (t189.length : Int) := zo (by assumption); obtain ⟨ad203, e203, hx203_0, hx203_1, hx203_2⟩ := at_T46 (Kd.R_reads' HO191.out).2.2 1 p203 q203; obtain rfl : ad202 = ad203 := (by injection e203); (try simp only [show (1 : Int).toNat = 1 from rfl, Nat.reduceMul, Nat.reduceEqDiff, Go.Addr.add, ↓reduceIte] at hx203_0); (try simp only [show (1 : Int).toNat = 1 from rfl, Nat.reduceMul, Nat.reduceEqDiff, Go.Addr.add, ↓reduceIte] at hx203_1); (try simp only [show (1 : Int).toNat = 1 from rfl, Nat.reduceMul, Nat.reduceEqDiff, Go.Addr.add, ↓reduceIte] at hx203_2); have qi203 : (1 < t189.length) = True := eq_true (by omega); (try rw [show ((1 : Int)).toNat = 1 from rfl] at hx203_0); (try rw [show 1 * 3 = 3 from rfl] at hx203_0); (try rw [show ((1 : Int)).toNat = 1 from rfl] at hx203_1); (try rw [show 1 * 3 = 3 from rfl] at hx203_1); (try rw [show ((1 : Int)).toNat = 1 from rfl] at hx203_2); (try rw [show 1 * 3 = 3 from rfl] at hx203_2); replace p203 := eq_true p203; replace q203 := eq_true q203) | (go_at_call 18; (with_reducible refine (kids_Moves.calls k _ _ t183 _ _ t186 _ _ t189 t204 _ ?side1 ?side2 ?side3 ?side4 ?side5 ?side6 A18.out).mono ?_); (case side1 => repeat (first | exact (Kd.R_reads' HO185.out).2.2 | (with_reducible refine Kd.C_alloc ?_ _) | (with_reducible refine Kd.C_drewN ?_ _) | (with_reducible refine Kd.C_drew ?_))); (case side2 => exact (Kd.R_reads' HO185.out).2.1); (case side3 => repeat (first | exact (Kd.R_reads' HO188.out).2.2 | (with_reducible refine Kd.C_alloc ?_ _) | (with_reducible refine Kd.C_drewN ?_ _) | (with_reducible refine Kd.C_drew ?_))); (case side4 => exact (Kd.R_reads' HO188.out).2.1); (case side5 => repeat (first | exact (Kd.R_reads' HO191.out).2.2 | (with_reducible refine Kd.C_alloc ?_ _) | (with_reducible refine Kd.C_drewN ?_ _) | (with_reducible refine Kd.C_drew ?_))); (case side6 => exact (Kd.R_reads' HO191.out).2.1); rintro e w45 ⟨rfl, hb⟩; have n0_ := zk (Kd.R_below (by (with_reducible repeat (first | apply Kd.R_alloc | apply Kd.R_drewN | apply Kd.R_drew)); exact HO170.out) hb); have n1_ := zk (Kd.R_below (by (with_reducible repeat (first | apply Kd.R_alloc | apply Kd.R_drewN | apply Kd.R_drew)); exact HO182.out) hb); have n2_ := zk (Kd.R_below (by (with_reducible repeat (first | apply Kd.R_alloc | apply Kd.R_drewN | apply Kd.R_drew)); exact HO185.out) hb); have n3_ := zk (Kd.R_below (by (with_reducible repeat (first | apply Kd.R_alloc | apply Kd.R_drewN | apply Kd.R_drew)); exact HO188.out) hb); have n4_ := zk (Kd.R_below (by (with_reducible repeat (first | apply Kd.R_alloc | apply Kd.R_drewN | apply Kd.R_drew)); exact HO191.out) hb); have n5_ := zk (Kd.R_below (by (with_reducible repeat (first | apply Kd.R_alloc | apply Kd.R_drewN | apply Kd.R_drew)); exact HO196.out) hb); have n6_ := zk (Kd.R_below (by (with_reducible repeat (first | apply Kd.R_alloc | apply Kd.R_drewN | apply Kd.R_drew)); exact HO200.out) hb); have n7_ := zk (blk_below (g := gb193) (o := .cells #[.slice Ao33 t183.length co33, .slice Ao35 t186.length co35, .slice (some ad202) t189.length co36] 30 (0, 0)) (by (with_reducible repeat first | apply zM | apply zE | apply zF); exact BK193.out) hb); have n8_ := zk (zs (by with_reducible repeat first | exact HB.out | apply zA | apply zN | apply zD | refine zS ?_ GE193.out) hb); clear HO170; clear HO182; clear HO185; clear HO188; clear HO191; clear HO196; clear HO200; clear BK193; clear HB; have HO170 := n0_; have HO182 := n1_; have HO185 := n2_; have HO188 := n3_; have HO191 := n4_; have HO196 := n5_; have HO200 := n6_; have BK193 := n7_; have HB := n8_; clear n0_ n1_ n2_ n3_ n4_ n5_ n6_ n7_ n8_; (try clear hb); (try clear hb2); (try clear hk); (try clear hi)))
         go_ret; exact ⟨by first | rfl | (simp [wN, wS] <;> rfl) | (simp [*, wN, wS] <;> rfl), by with_reducible repeat first | exact HB.out | apply zA | apply zN | apply zD | refine zS ?_ GE193.out⟩
        ·
         rw [if_neg c17] at H
         have c17b0 : (((rd_T46 t189 1).f0) == 0 && (((rd_T46 t189 1).f1) == 2 && (((rd_T46 t189 1).f2) == 1))) = false := by simpa using c17
         (try (have c17b1 : decide (((rd_T46 t189 1).f0) = 0 && (((rd_T46 t189 1).f1) == 2 && (((rd_T46 t189 1).f2) == 1))) = false := by simpa using c17))
         (try (have c17b2 : (((rd_T46 t189 1).f0) == 0 && (((rd_T46 t189 1).f1) == 2 && (((rd_T46 t189 1).f2) == 1))) = false := by simpa using c17))
         (try (have c17b3 : ¬ (((rd_T46 t189 1).f0) = 0 && (((rd_T46 t189 1).f1) == 2 && (((rd_T46 t189 1).f2) == 1))) := by simpa using c17))
         clear c17; exact absurd ((Option.some.inj H).trans HR_.out) (by decide)
       ·
        rw [if_neg c16] at H; exact absurd H (by simp)
      ·
       rw [if_neg c15] at H
       have c15b0 : (((rd_T46 t189 0).f0) == 2 && (((rd_T46 t189 0).f1) == (-1) && (((rd_T46 t189 0).f2) == (-1)))) = false := by simpa using c15
       (try (have c15b1 : decide (((rd_T46 t189 0).f0) = 2 && (((rd_T46 t189 0).f1) == (-1) && (((rd_T46 t189 0).f2) == (-1)))) = false := by simpa using c15))
       (try (have c15b2 : (((rd_T46 t189 0).f0) == 2 && (((rd_T46 t189 0).f1) == (-1) && (((rd_T46 t189 0).f2) == (-1)))) = false := by simpa using c15))
       (try (have c15b3 : ¬ (((rd_T46 t189 0).f0) = 2 && (((rd_T46 t189 0).f1) == (-1) && (((rd_T46 t189 0).f2) == (-1)))) := by simpa using c15))
       clear c15; exact absurd ((Option.some.inj H).trans HR_.out) (by decide)
     ·
      rw [if_neg c14] at H; exact absurd H (by simp)
    ·
     rw [if_neg c13] at H; have c13b0 := beq_eq_false_iff_ne.mpr c13; have c13b1 := bne_iff_ne.mpr c13; exact absurd ((Option.some.inj H).trans HR_.out) (by decide)
   ·
    replace c12 := Bool.eq_false_iff.mpr c12; subst c12
    have H1 : (some false) = some r := by rw [if_neg (show ¬ (false = true) by decide)] at H; exact H
    clear H; have H := H1; clear H1; exact absurd ((Option.some.inj H).trans HR_.out) (by decide)
  ·
   replace c10 := Bool.eq_false_iff.mpr c10; subst c10
   have H1 : (some false) = some r := by rw [if_neg (show ¬ (false = true) by decide)] at H; exact H
   clear H; have H := H1; clear H1; exact absurd ((Option.some.inj H).trans HR_.out) (by decide)
 ·
  rw [if_neg c8] at H; have c8b0 : (t192 == 0) = false := beq_eq_false_iff_ne.mpr c8; have c8b1 : (t192 != 0) = true := bne_iff_ne.mpr c8; exact absurd ((Option.some.inj H).trans HR_.out) (by decide)
end Go.Proofs.Ytpekchebllobmaa.G
namespace Go.Proofs.Ytpekchebllobmaa.G
open Go.RowKit Go.Proofs.YtpekchebllobmaaW.PrintWords Go.Proofs.YtpekchebllobmaaW.PrintLast Go.Proofs.YtpekchebllobmaaW.PrintMore
attribute [local go_sem] max2_int min2_int max_two min_two max_three min_three max_four min_four
set_option linter.unusedVariables false
set_option linter.unusedSimpArgs false
attribute [local go_sem high] eqA38
end Go.Proofs.Ytpekchebllobmaa.G
namespace Go.Proofs.Ytpekchebllobmaa.G
open List renaming setIfInBounds_toArray → zt, set_cons_zero → zu, set_cons_succ → zv
open Bool renaming true → T, false → F
open Go.RowKit Go.Proofs.YtpekchebllobmaaW.PrintWords Go.Proofs.YtpekchebllobmaaW.PrintLast Go.Proofs.YtpekchebllobmaaW.PrintMore
attribute [local go_sem] max2_int min2_int max_two min_two max_three min_three max_four min_four
set_option linter.unusedVariables false
set_option linter.unusedSimpArgs false
attribute [local go_sem high] eqA50
def pl_Labels.l0 : Nat → List (S50) → List (S50) → Int → Int → Option (Bool)
  | 0, _, _, _, _ => none
  | k + 1, x0, x1, x12, x13 => if x13 < x12 then (if 0 ≤ x13 then (if x13 < (x0.length : Int) then (if x13 < (x1.length : Int) then (if (!((((rd_T50 x0 x13).f0).toList) == (((rd_T50 x1 x13).f0).toList)) || (!((((rd_T50 x0 x13).f1).toList) == (((rd_T50 x1 x13).f1).toList)) || (!(((rd_T50 x0 x13).f2) == ((rd_T50 x1 x13).f2))))) = true then (some false) else (pl_Labels.l0 k x0 x1 x12 (wrap64 (x13 + 1)))) else (none)) else (none)) else (none)) else (some true)
def pl_Labels.f (k : Nat) (l0 : List (S50)) (l1 : List (S50)) : Option (Bool) := if (l0.length : Int) = (l1.length : Int) then (pl_Labels.l0 k l0 l1 (l0.length : Int) 0) else (some false)
set_option maxHeartbeats 8000000 in
set_option maxRecDepth 100000 in
theorem pl_Labels.calls (k : Nat) (A0 : Option Addr) (c0 : Nat) (l0 : List (S50)) (A1 : Option Addr) (c1 : Nat) (l1 : List (S50)) (r : Bool) (w : World) (hr0 : Kd.C k50 w A0 l0.length l0) (hc0 : l0.length ≤ c0) (hr1 : Kd.C k50 w A1 l1.length l1) (hc1 : l1.length ≤ c1) (h : pl_Labels.f k l0 l1 = some r) :
    Calls Try.prog 21 #[.slice A0 l0.length c0, .slice A1 l1.length c1] w fun e w' => e = .returned (.bool r) ∧ Drawn0 w w' := by
  have hu50 := Try.underlying50; have HR0 := zk hr0; have HC0 := zk hc0; clear hr0 hc0; have HR1 := zk hr1; have HC1 := zk hc1; clear hr1 hc1; have H : (if (l0.length : Int) = (l1.length : Int) then (pl_Labels.l0 k l0 l1 (l0.length : Int) 0) else (some false)) = some r := h; clear h
  by_cases c3 : (l0.length : Int) = (l1.length : Int)
  · rw [if_pos c3] at H
    have c3b0 := beq_iff_eq.mpr c3
    have c3b1 := bne_eq_false_iff_eq.mpr c3
    have c3b2 : (l0.length == l1.length) = true := by first | simpa using c3 | (simp at c3 ⊢; omega)
    clear c3
    have H' := zk H
    clear H
    go_enter Try.func21, Try.ntmps21
    go_wp2
    repeat (go_quiet (fail); try go_wp2)
    go_loopg [13] k (fun kq v13 w' => ∃ (x13_1 : Int), v13 = .int .i64 x13_1 ∧ Aside0 (pl_Labels.l0 kq l0 l1 (l0.length : Int) x13_1 = some r) ∧ Aside0 (kq ≤ k) ∧ Drawn0 w w')
    case atStart => exact ⟨(0), (by first | rfl | (simp; done) | (simp [*]; done)), H', ⟨Nat.le_refl _⟩, by repeat (first | exact Drawn0.refl _ | apply Drawn0.step)⟩
    case round =>
      clear H'; (try clear c1); (try clear c2); (try clear p2); (try clear c3); (try clear c3b0); (try clear c3b1); (try clear c3b2); obtain ⟨x13_1, rfl, HA, HK1, ⟨m1, rfl⟩⟩ := hrel
      cases gk with
      | zero => exact absurd HA.out (by simp [pl_Labels.l0])
      | succ k1 =>
        have H := HA.out; clear HA; simp only [pl_Labels.l0] at H
        by_cases c4 : x13_1 < (l0.length : Int)
        · rw [if_pos c4] at H
          have c4b0 := decide_eq_true c4
          clear c4
          by_cases c5 : 0 ≤ x13_1
          · rw [if_pos c5] at H
            have c5b0 : decide (0 ≤ x13_1) = true := decide_eq_true c5
            clear c5
            by_cases c6 : x13_1 < (l0.length : Int)
            · rw [if_pos c6] at H
              have c6b0 := decide_eq_true c6
              clear c6
              by_cases c7 : x13_1 < (l1.length : Int)
              · rw [if_pos c7] at H
                have c7b0 : decide (x13_1 < (l1.length : Int)) = true := decide_eq_true c7
                clear c7
                by_cases c8 : (!((((rd_T50 l0 x13_1).f0).toList) == (((rd_T50 l1 x13_1).f0).toList)) || (!((((rd_T50 l0 x13_1).f1).toList) == (((rd_T50 l1 x13_1).f1).toList)) || (!(((rd_T50 l0 x13_1).f2) == ((rd_T50 l1 x13_1).f2))))) = true
                · rw [if_pos c8] at H
                  have c8b0 : (!((((rd_T50 l0 x13_1).f0).toList) == (((rd_T50 l1 x13_1).f0).toList)) || (!((((rd_T50 l0 x13_1).f1).toList) == (((rd_T50 l1 x13_1).f1).toList)) || (!(((rd_T50 l0 x13_1).f2) == ((rd_T50 l1 x13_1).f2))))) = true := c8
                  clear c8
                  obtain rfl := Option.some.inj H
                  have p383 : 0 ≤ (x13_1 : Int) := zo (by assumption)
                  have q383 : x13_1 < (l0.length : Int) := zo (by assumption)
                  obtain ⟨ad383, e383, hx383_0, hx383_1, hx383_2⟩ := at_T50 HR0.out x13_1 p383 q383
                  cases e383
                  replace p383 := eq_true p383
                  replace q383 := eq_true q383
                  have p384 : 0 ≤ (x13_1 : Int) := zo (by assumption)
                  have q384 : x13_1 < (l1.length : Int) := zo (by assumption)
                  obtain ⟨ad384, e384, hx384_0, hx384_1, hx384_2⟩ := at_T50 HR1.out x13_1 p384 q384
                  cases e384
                  replace p384 := eq_true p384
                  replace q384 := eq_true q384
                  go_wp2
                  repeat (go_quiet (fail); try go_wp2)
                  go_ret
                  exact ⟨by first | rfl | (simp; done) | (simp [*]; done), by repeat (first | exact Drawn0.refl _ | apply Drawn0.step)⟩
                · rw [if_neg c8] at H
                  have c8b0 : (!((((rd_T50 l0 x13_1).f0).toList) == (((rd_T50 l1 x13_1).f0).toList)) || (!((((rd_T50 l0 x13_1).f1).toList) == (((rd_T50 l1 x13_1).f1).toList)) || (!(((rd_T50 l0 x13_1).f2) == ((rd_T50 l1 x13_1).f2))))) = false := by simpa using c8
                  clear c8
                  have H' := zk H
                  clear H
                  have p383 : 0 ≤ (x13_1 : Int) := zo (by assumption)
                  have q383 : x13_1 < (l0.length : Int) := zo (by assumption)
                  obtain ⟨ad383, e383, hx383_0, hx383_1, hx383_2⟩ := at_T50 HR0.out x13_1 p383 q383
                  cases e383
                  replace p383 := eq_true p383
                  replace q383 := eq_true q383
                  have p384 : 0 ≤ (x13_1 : Int) := zo (by assumption)
                  have q384 : x13_1 < (l1.length : Int) := zo (by assumption)
                  obtain ⟨ad384, e384, hx384_0, hx384_1, hx384_2⟩ := at_T50 HR1.out x13_1 p384 q384
                  cases e384
                  replace p384 := eq_true p384
                  replace q384 := eq_true q384
                  go_wp2
                  repeat (go_quiet (fail); try go_wp2)
                  go_roundg k1
                  case measure => have := HK1.out; omega
                  case rel => exact ⟨(wrap64 (x13_1 + 1)), (by first | rfl | (simp; done) | (simp [*]; done)), H', ⟨by have := HK1.out; omega⟩, by repeat (first | exact Drawn0.refl _ | apply Drawn0.step)⟩
              · rw [if_neg c7] at H
                exact absurd H (by simp)
            · rw [if_neg c6] at H
              exact absurd H (by simp)
          · rw [if_neg c5] at H
            exact absurd H (by simp)
        · rw [if_neg c4] at H
          have c4b0 := decide_eq_false c4
          clear c4
          obtain rfl := Option.some.inj H
          go_wp2
          repeat (go_quiet (fail); try go_wp2)
          go_ret
          exact ⟨by first | rfl | (simp; done) | (simp [*]; done), by repeat (first | exact Drawn0.refl _ | apply Drawn0.step)⟩
  · rw [if_neg c3] at H
    have c3b0 := beq_eq_false_iff_ne.mpr c3
    have c3b1 := bne_iff_ne.mpr c3
    have c3b2 : (l0.length == l1.length) = false := by first | simpa using c3 | (simp at c3 ⊢; omega)
    obtain rfl := Option.some.inj H
    go_enter Try.func21, Try.ntmps21
    go_wp2
    repeat (go_quiet (fail); try go_wp2)
    go_ret
    exact ⟨by first | rfl | (simp; done) | (simp [*]; done), by repeat (first | exact Drawn0.refl _ | apply Drawn0.step)⟩
mutual
def lw_KidsMakes.j0 : Nat → List (S50) → List (S50) → Bool → Option (Bool)
 | 0, _, _, _ => none
 | k + 1, x0, x1, x26 => if x26 = true then ((lw_same.f k).bind fun t389 => (some t389)) else ((kids_Of.f k x0 x1).bind fun bt390 => ((lw_steps.f k bt390.2.2.1).bind fun t401 => ((r32_Run.f k x0 x1 bt390.2.1 t401).bind fun bt404 => ((r32_Trim.f k x0 x1).bind fun bt408 => (lw_KidsMakes.l0 k x1 bt390.2.2.2 bt404.1 bt404.2 bt408.1 bt408.2 (bt390.2.2.1.length : Int) 0 bt390.1 bt390.2.1 bt390.2.2.1)))))
def lw_KidsMakes.l0 : Nat → List (S50) → Int → List (S50) → Bool → Int → Int → Int → Int → List Int → List Int → List (S46) → Option (Bool)
 | 0, _, _, _, _, _, _, _, _, _, _, _ => none
 | k + 1, x1, x6, x7, x8, x9, x10, x53, x54, x401000, x401001, x401002 => if x54 < x53 then (if 0 ≤ x54 then (if x54 < (x401002.length : Int) then (if ((rd_T46 x401002 x54).f0) < x9 then (some false) else (if ((rd_T46 x401002 x54).f0) ≥ (wrap64 ((x1.length : Int) - x10)) then (some false) else (lw_KidsMakes.l0 k x1 x6 x7 x8 x9 x10 x53 (wrap64 (x54 + 1)) x401000 x401001 x401002))) else (none)) else (none)) else (if x6 = 0 then (if x8 = true then ((pl_Labels.f k x7 x1).bind fun t411 => (if t411 = true then ((lw_same.f k).bind fun t412 => (some t412)) else (some false))) else (some false)) else (some false))
end
def lw_KidsMakes.f (k : Nat) (l0 : List (S50)) (l1 : List (S50)) : Option (Bool) := (lw_heavy.f k l0).bind fun t385 => (if t385 = true then (lw_KidsMakes.j0 k l0 l1 true) else ((lw_heavy.f k l1).bind fun t386 => (if t386 = true then (lw_KidsMakes.j0 k l0 l1 true) else ((r32_Twice.f k l0).bind fun t387 => (if t387 = true then (lw_KidsMakes.j0 k l0 l1 true) else ((r32_Twice.f k l1).bind fun t388 => (lw_KidsMakes.j0 k l0 l1 t388)))))))
def lw_KidsMakes.T4 : Bool × List (List Nat × List Nat) := (true, [([], []), ([], []), ([], []), ([2], [2]), ([], []), ([4], [4]), ([5], [5]), ([0, 1, 3, 6, 6], [0, 1, 3, 6]), ([7], [7]), ([8], [8]), ([8], [8]), ([9, 7, 0, 1, 2, 3, 4, 5, 6, 7, 8, 9], [9]), ([10, 11, 0, 1, 2, 3, 4, 5, 6, 7, 8, 9, 10, 11], [10])])
def lw_KidsMakes.B4 : List Nat := [0, 0, 0, 4, 0, 16, 48, 127, 255, 511, 511, 1023, 4095]
theorem lw_KidsMakes.tab4 : rtab .any (opsOf Try.f4 4) = lw_KidsMakes.T4 := by kernel_rfl
theorem lw_KidsMakes.bits4 : waitsOk lw_KidsMakes.T4.2 lw_KidsMakes.B4 = true := by kernel_rfl
set_option maxHeartbeats 8000000 in
set_option maxRecDepth 100000 in
theorem lw_KidsMakes.calls (k : Nat) (A0 : Option Addr) (c0 : Nat) (l0 : List (S50)) (A1 : Option Addr) (c1 : Nat) (l1 : List (S50)) (r : Bool) (w : World) (hr0 : Kd.C k50 w A0 l0.length l0) (hc0 : l0.length ≤ c0) (hr1 : Kd.C k50 w A1 l1.length l1) (hc1 : l1.length ≤ c1) (h : (if r = true then lw_KidsMakes.f k l0 l1 else none) = some r) :
  Calls Try.prog 4 #[.slice A0 l0.length c0, .slice A1 l1.length c1] w fun e w' => e = .returned (.bool r) ∧ Below w.heap.size w w' := by
 split at h
 case isFalse => cases h
 rename_i hr_
 have HR_ := zk hr_
 clear hr_
 have hu30 := Try.underlying30
 have HR0 := zk hr0
 have HC0 := zk hc0
 clear hr0 hc0
 have HR1 := zk hr1
 have HC1 := zk hc1
 clear hr1 hc1
 have HB := zk (Below.refl w.heap.size w)
 have H : ((lw_heavy.f k l0).bind fun t385 => (if t385 = true then (lw_KidsMakes.j0 k l0 l1 true) else ((lw_heavy.f k l1).bind fun t386 => (if t386 = true then (lw_KidsMakes.j0 k l0 l1 true) else ((r32_Twice.f k l0).bind fun t387 => (if t387 = true then (lw_KidsMakes.j0 k l0 l1 true) else ((r32_Twice.f k l1).bind fun t388 => (lw_KidsMakes.j0 k l0 l1 t388)))))))) = some r := h
 clear h
 have HC3 := zk H
 clear H
 go_enter Try.func4, Try.ntmps4
 go_upto_region 1 with (fail)
 go_cut [26] (fun v26 wc => ∃ (kq : Nat) (x26_2 : Bool), v26 = .bool x26_2 ∧ Aside0 (lw_KidsMakes.j0 kq l0 l1 x26_2 = some r) ∧ Aside0 (kq ≤ k) ∧ Aside0 (Below w.heap.size w wc))
 case first =>
  have H := HC3.out; clear HC3; replace H := Option.bind_eq_some_iff.mp H; obtain ⟨t385, A40, H⟩ := H; replace H : (if t385 = true then (lw_KidsMakes.j0 k l0 l1 true) else ((lw_heavy.f k l1).bind fun t386 => (if t386 = true then (lw_KidsMakes.j0 k l0 l1 true) else ((r32_Twice.f k l0).bind fun t387 => (if t387 = true then (lw_KidsMakes.j0 k l0 l1 true) else ((r32_Twice.f k l1).bind fun t388 => (lw_KidsMakes.j0 k l0 l1 t388))))))) = some r := H; have A4 := zk A40; clear A40
  by_cases c5 : t385 = true
  ·
   subst c5
   have H1 : (lw_KidsMakes.j0 k l0 l1 true) = some r := by rw [if_pos rfl] at H; exact H
   clear H; have H := H1; clear H1; have H' := zk H; clear H
   go_wp2_with (first | ((with_reducible refine gk (f := 7) rfl ?_); refine gl (some 14) rfl rfl Try.func7 (by kernel_rfl) rfl #[.slice A0 l0.length c0] rfl (by (try simp only [List.map_toArray, List.map_cons, List.map_nil]); first | done | rfl | (simp only [List.length_drop, List.length_take]; rfl)) ?_; (with_reducible refine (lw_heavy.calls k _ _ l0 true _ ?side1 ?side2 A4.out).mono ?_); (case side1 => repeat (first | exact (Kd.C_below HR0.out HB.out) | (with_reducible refine Kd.C_alloc ?_ _) | (with_reducible refine Kd.C_drewN ?_ _) | (with_reducible refine Kd.C_drew ?_))); (case side2 => exact HC0.out); rintro e w' ⟨rfl, ⟨nd, rfl⟩⟩; refine ⟨_, rfl, ?_⟩))
   go_meet
   case rel => exact ⟨_, (true), (by first | rfl | (simp; done) | (simp [*]; done)), H', ⟨by first | omega | exact Nat.le_refl _⟩, ⟨by with_reducible repeat first | exact HB.out | apply zA | apply zN | apply zD⟩⟩
  ·
   replace c5 := Bool.eq_false_iff.mpr c5; subst c5
   have H1 : ((lw_heavy.f k l1).bind fun t386 => (if t386 = true then (lw_KidsMakes.j0 k l0 l1 true) else ((r32_Twice.f k l0).bind fun t387 => (if t387 = true then (lw_KidsMakes.j0 k l0 l1 true) else ((r32_Twice.f k l1).bind fun t388 => (lw_KidsMakes.j0 k l0 l1 t388)))))) = some r := by rw [if_neg (show ¬ (false = true) by decide)] at H; exact H
   clear H; have H := H1; clear H1; replace H := Option.bind_eq_some_iff.mp H; obtain ⟨t386, A60, H⟩ := H; replace H : (if t386 = true then (lw_KidsMakes.j0 k l0 l1 true) else ((r32_Twice.f k l0).bind fun t387 => (if t387 = true then (lw_KidsMakes.j0 k l0 l1 true) else ((r32_Twice.f k l1).bind fun t388 => (lw_KidsMakes.j0 k l0 l1 t388))))) = some r := H; have A6 := zk A60; clear A60
   by_cases c7 : t386 = true
   ·
    subst c7
    have H1 : (lw_KidsMakes.j0 k l0 l1 true) = some r := by rw [if_pos rfl] at H; exact H
    clear H; have H := H1; clear H1; have H' := zk H; clear H
    go_wp2_with (first | ((with_reducible refine gk (f := 7) rfl ?_); refine gl (some 14) rfl rfl Try.func7 (by kernel_rfl) rfl #[.slice A0 l0.length c0] rfl (by (try simp only [List.map_toArray, List.map_cons, List.map_nil]); first | done | rfl | (simp only [List.length_drop, List.length_take]; rfl)) ?_; (with_reducible refine (lw_heavy.calls k _ _ l0 false _ ?side1 ?side2 A4.out).mono ?_); (case side1 => repeat (first | exact (Kd.C_below HR0.out HB.out) | (with_reducible refine Kd.C_alloc ?_ _) | (with_reducible refine Kd.C_drewN ?_ _) | (with_reducible refine Kd.C_drew ?_))); (case side2 => exact HC0.out); rintro e w' ⟨rfl, ⟨nd, rfl⟩⟩; refine ⟨_, rfl, ?_⟩) | (go_at_call 7; (with_reducible refine (lw_heavy.calls k _ _ l1 true _ ?side1 ?side2 A6.out).mono ?_); (case side1 => repeat (first | exact (Kd.C_below HR1.out (by with_reducible repeat first | exact HB.out | apply zA | apply zN | apply zD)) | (with_reducible refine Kd.C_alloc ?_ _) | (with_reducible refine Kd.C_drewN ?_ _) | (with_reducible refine Kd.C_drew ?_))); (case side2 => exact HC1.out); rintro e w' ⟨rfl, ⟨nd, rfl⟩⟩))
    go_meet
    case rel => exact ⟨_, (true), (by first | rfl | (simp; done) | (simp [*]; done)), H', ⟨by first | omega | exact Nat.le_refl _⟩, ⟨by with_reducible repeat first | exact HB.out | apply zA | apply zN | apply zD⟩⟩
   ·
    replace c7 := Bool.eq_false_iff.mpr c7; subst c7
    have H1 : ((r32_Twice.f k l0).bind fun t387 => (if t387 = true then (lw_KidsMakes.j0 k l0 l1 true) else ((r32_Twice.f k l1).bind fun t388 => (lw_KidsMakes.j0 k l0 l1 t388)))) = some r := by rw [if_neg (show ¬ (false = true) by decide)] at H; exact H
    clear H; have H := H1; clear H1; replace H := Option.bind_eq_some_iff.mp H; obtain ⟨t387, A80, H⟩ := H; replace H : (if t387 = true then (lw_KidsMakes.j0 k l0 l1 true) else ((r32_Twice.f k l1).bind fun t388 => (lw_KidsMakes.j0 k l0 l1 t388))) = some r := H; have A8 := zk A80; clear A80
    by_cases c9 : t387 = true
    ·
     subst c9
     have H1 : (lw_KidsMakes.j0 k l0 l1 true) = some r := by rw [if_pos rfl] at H; exact H
     clear H; have H := H1; clear H1; have H' := zk H; clear H
     go_wp2_with (first | ((with_reducible refine gk (f := 7) rfl ?_); refine gl (some 14) rfl rfl Try.func7 (by kernel_rfl) rfl #[.slice A0 l0.length c0] rfl (by (try simp only [List.map_toArray, List.map_cons, List.map_nil]); first | done | rfl | (simp only [List.length_drop, List.length_take]; rfl)) ?_; (with_reducible refine (lw_heavy.calls k _ _ l0 false _ ?side1 ?side2 A4.out).mono ?_); (case side1 => repeat (first | exact (Kd.C_below HR0.out HB.out) | (with_reducible refine Kd.C_alloc ?_ _) | (with_reducible refine Kd.C_drewN ?_ _) | (with_reducible refine Kd.C_drew ?_))); (case side2 => exact HC0.out); rintro e w' ⟨rfl, ⟨nd, rfl⟩⟩; refine ⟨_, rfl, ?_⟩) | (go_at_call 7; (with_reducible refine (lw_heavy.calls k _ _ l1 false _ ?side1 ?side2 A6.out).mono ?_); (case side1 => repeat (first | exact (Kd.C_below HR1.out (by with_reducible repeat first | exact HB.out | apply zA | apply zN | apply zD)) | (with_reducible refine Kd.C_alloc ?_ _) | (with_reducible refine Kd.C_drewN ?_ _) | (with_reducible refine Kd.C_drew ?_))); (case side2 => exact HC1.out); rintro e w' ⟨rfl, ⟨nd, rfl⟩⟩) | (go_at_call 12; (with_reducible refine (r32_Twice.calls k _ _ l0 true _ ?side1 ?side2 A8.out).mono ?_); (case side1 => repeat (first | exact (Kd.C_below HR0.out (by with_reducible repeat first | exact HB.out | apply zA | apply zN | apply zD)) | (with_reducible refine Kd.C_alloc ?_ _) | (with_reducible refine Kd.C_drewN ?_ _) | (with_reducible refine Kd.C_drew ?_))); (case side2 => exact HC0.out); rintro e w10 ⟨rfl, hb⟩; have n0_ := zk (zs (by with_reducible repeat first | exact HB.out | apply zA | apply zN | apply zD) hb); clear HB; have HB := n0_; clear n0_; (try clear hb); (try clear hb2); (try clear hk); (try clear hi)))
     go_meet
     case rel => exact ⟨_, (true), (by first | rfl | (simp; done) | (simp [*]; done)), H', ⟨by first | omega | exact Nat.le_refl _⟩, ⟨by with_reducible repeat first | exact HB.out | apply zA | apply zN | apply zD⟩⟩
    ·
     replace c9 := Bool.eq_false_iff.mpr c9; subst c9
     have H1 : ((r32_Twice.f k l1).bind fun t388 => (lw_KidsMakes.j0 k l0 l1 t388)) = some r := by rw [if_neg (show ¬ (false = true) by decide)] at H; exact H
     clear H; have H := H1; clear H1; replace H := Option.bind_eq_some_iff.mp H; obtain ⟨t388, A110, H⟩ := H; replace H : (lw_KidsMakes.j0 k l0 l1 t388) = some r := H; have A11 := zk A110; clear A110; have H' := zk H; clear H
     go_wp2_with (first | ((with_reducible refine gk (f := 7) rfl ?_); refine gl (some 14) rfl rfl Try.func7 (by kernel_rfl) rfl #[.slice A0 l0.length c0] rfl (by (try simp only [List.map_toArray, List.map_cons, List.map_nil]); first | done | rfl | (simp only [List.length_drop, List.length_take]; rfl)) ?_; (with_reducible refine (lw_heavy.calls k _ _ l0 false _ ?side1 ?side2 A4.out).mono ?_); (case side1 => repeat (first | exact (Kd.C_below HR0.out HB.out) | (with_reducible refine Kd.C_alloc ?_ _) | (with_reducible refine Kd.C_drewN ?_ _) | (with_reducible refine Kd.C_drew ?_))); (case side2 => exact HC0.out); rintro e w' ⟨rfl, ⟨nd, rfl⟩⟩; refine ⟨_, rfl, ?_⟩) | (go_at_call 7; (with_reducible refine (lw_heavy.calls k _ _ l1 false _ ?side1 ?side2 A6.out).mono ?_); (case side1 => repeat (first | exact (Kd.C_below HR1.out (by with_reducible repeat first | exact HB.out | apply zA | apply zN | apply zD)) | (with_reducible refine Kd.C_alloc ?_ _) | (with_reducible refine Kd.C_drewN ?_ _) | (with_reducible refine Kd.C_drew ?_))); (case side2 => exact HC1.out); rintro e w' ⟨rfl, ⟨nd, rfl⟩⟩) | (go_at_call 12; (with_reducible refine (r32_Twice.calls k _ _ l0 false _ ?side1 ?side2 A8.out).mono ?_); (case side1 => repeat (first | exact (Kd.C_below HR0.out (by with_reducible repeat first | exact HB.out | apply zA | apply zN | apply zD)) | (with_reducible refine Kd.C_alloc ?_ _) | (with_reducible refine Kd.C_drewN ?_ _) | (with_reducible refine Kd.C_drew ?_))); (case side2 => exact HC0.out); rintro e w12 ⟨rfl, hb⟩; have n0_ := zk (zs (by with_reducible repeat first | exact HB.out | apply zA | apply zN | apply zD) hb); clear HB; have HB := n0_; clear n0_; (try clear hb); (try clear hb2); (try clear hk); (try clear hi)) | (go_at_call 12; (with_reducible refine (r32_Twice.calls k _ _ l1 t388 _ ?side1 ?side2 A11.out).mono ?_); (case side1 => repeat (first | exact (Kd.C_below HR1.out HB.out) | (with_reducible refine Kd.C_alloc ?_ _) | (with_reducible refine Kd.C_drewN ?_ _) | (with_reducible refine Kd.C_drew ?_))); (case side2 => exact HC1.out); rintro e w13 ⟨rfl, hb⟩; have n0_ := zk (zs (by with_reducible repeat first | exact HB.out | apply zA | apply zN | apply zD) hb); clear HB; have HB := n0_; clear n0_; (try clear hb); (try clear hb2); (try clear hk); (try clear hi)))
     go_meet
     case rel => exact ⟨_, (t388), (by first | rfl | (simp; done) | (simp [*]; done)), H', ⟨by first | omega | exact Nat.le_refl _⟩, ⟨by with_reducible repeat first | exact HB.out | apply zA | apply zN | apply zD⟩⟩
 case rest =>
  clear HC3; (try clear c1); (try clear p2); (try clear c4); (try clear c5); (try clear c7); (try clear c9); obtain ⟨kq, x26_2, rfl, HA, HJ2, HB⟩ := hcut
  cases kq with
  | zero => exact absurd HA.out (by simp [lw_KidsMakes.j0])
  | succ kj2 =>
   have H := HA.out; clear HA; simp only [lw_KidsMakes.j0] at H
   by_cases c14 : x26_2 = true
   ·
    subst c14
    have H1 : ((lw_same.f kj2).bind fun t389 => (some t389)) = some r := by rw [if_pos rfl] at H; exact H
    clear H; have H := H1; clear H1; replace H := Option.bind_eq_some_iff.mp H; obtain ⟨t389, A150, H⟩ := H; replace H : (some t389) = some r := H; have A15 := zk A150; clear A150; obtain rfl := Option.some.inj H
    go_wp2_with (first | ((with_reducible refine gk (f := 8) rfl ?_); refine gl (some 27) rfl rfl Try.func8 (by kernel_rfl) rfl #[] rfl (by (try simp only [List.map_toArray, List.map_cons, List.map_nil]); first | done | rfl | (simp only [List.length_drop, List.length_take]; rfl)) ?_; (with_reducible refine (lw_same.calls kj2  t389 _ A15.out).mono ?_); rintro e w16 ⟨rfl, hb⟩; refine ⟨_, rfl, ?_⟩; have n0_ := zk (zs (by with_reducible repeat first | exact HB.out | apply zA | apply zN | apply zD) hb); clear HB; have HB := n0_; clear n0_; (try clear hb); (try clear hb2); (try clear hk); (try clear hi)))
    go_ret; exact ⟨by first | rfl | (simp [wN, wS] <;> rfl) | (simp [*, wN, wS] <;> rfl), by with_reducible repeat first | exact HB.out | apply zA | apply zN | apply zD⟩
   ·
    replace c14 := Bool.eq_false_iff.mpr c14; subst c14
    have H1 : ((kids_Of.f kj2 l0 l1).bind fun bt390 => ((lw_steps.f kj2 bt390.2.2.1).bind fun t401 => ((r32_Run.f kj2 l0 l1 bt390.2.1 t401).bind fun bt404 => ((r32_Trim.f kj2 l0 l1).bind fun bt408 => (lw_KidsMakes.l0 kj2 l1 bt390.2.2.2 bt404.1 bt404.2 bt408.1 bt408.2 (bt390.2.2.1.length : Int) 0 bt390.1 bt390.2.1 bt390.2.2.1))))) = some r := by rw [if_neg (show ¬ (false = true) by decide)] at H; exact H
    clear H; have H := H1; clear H1; replace H := Option.bind_eq_some_iff.mp H; obtain ⟨⟨t390, t393, t396, t399⟩, A170, H⟩ := H; replace H : ((lw_steps.f kj2 t396).bind fun t401 => ((r32_Run.f kj2 l0 l1 t393 t401).bind fun bt404 => ((r32_Trim.f kj2 l0 l1).bind fun bt408 => (lw_KidsMakes.l0 kj2 l1 t399 bt404.1 bt404.2 bt408.1 bt408.2 (t396.length : Int) 0 t390 t393 t396)))) = some r := H; have A17 := zk A170; clear A170; replace H := Option.bind_eq_some_iff.mp H; obtain ⟨t401, A180, H⟩ := H; replace H : ((r32_Run.f kj2 l0 l1 t393 t401).bind fun bt404 => ((r32_Trim.f kj2 l0 l1).bind fun bt408 => (lw_KidsMakes.l0 kj2 l1 t399 bt404.1 bt404.2 bt408.1 bt408.2 (t396.length : Int) 0 t390 t393 t396))) = some r := H; have A18 := zk A180; clear A180; replace H := Option.bind_eq_some_iff.mp H; obtain ⟨⟨t404, t405⟩, A190, H⟩ := H; replace H : ((r32_Trim.f kj2 l0 l1).bind fun bt408 => (lw_KidsMakes.l0 kj2 l1 t399 t404 t405 bt408.1 bt408.2 (t396.length : Int) 0 t390 t393 t396)) = some r := H; have A19 := zk A190; clear A190; replace H := Option.bind_eq_some_iff.mp H; obtain ⟨⟨t408, t409⟩, A200, H⟩ := H; replace H : (lw_KidsMakes.l0 kj2 l1 t399 t404 t405 t408 t409 (t396.length : Int) 0 t390 t393 t396) = some r := H; have A20 := zk A200; clear A200; have H' := zk H; clear H
    try go_wp2_with (first | ((with_reducible refine gk (f := 11) rfl ?_); refine gl (some 31) rfl rfl Try.func11 (by kernel_rfl) rfl #[.slice A0 l0.length c0, .slice A1 l1.length c1] rfl (by (try simp only [List.map_toArray, List.map_cons, List.map_nil]); first | done | rfl | (simp only [List.length_drop, List.length_take]; rfl)) ?_; (with_reducible refine (kids_Of.calls kj2 _ _ l0 _ _ l1 t390 t393 t396 t399 _ ?side1 ?side2 ?side3 ?side4 A17.out).mono ?_); (case side1 => repeat (first | exact (Kd.C_below HR0.out HB.out) | (with_reducible refine Kd.C_alloc ?_ _) | (with_reducible refine Kd.C_drewN ?_ _) | (with_reducible refine Kd.C_drew ?_))); (case side2 => exact HC0.out); (case side3 => repeat (first | exact (Kd.C_below HR1.out HB.out) | (with_reducible refine Kd.C_alloc ?_ _) | (with_reducible refine Kd.C_drewN ?_ _) | (with_reducible refine Kd.C_drew ?_))); (case side4 => exact HC1.out); rintro e w21 ⟨v391, v394, v397, rfl, ho0, ho1, ho2, hb⟩; refine ⟨_, rfl, ?_⟩; have n0_ := zk (Kd.R_lower ho0 (zq (by with_reducible repeat first | exact HB.out | apply zA | apply zN | apply zD))); have n1_ := zk (Kd.R_lower ho1 (zq (by with_reducible repeat first | exact HB.out | apply zA | apply zN | apply zD))); have n2_ := zk (Kd.R_lower ho2 (zq (by with_reducible repeat first | exact HB.out | apply zA | apply zN | apply zD))); have n3_ := zk (zs (by with_reducible repeat first | exact HB.out | apply zA | apply zN | apply zD) hb); clear HB; have HO392 := n0_; have HO395 := n1_; have HO398 := n2_; have HB := n3_; clear n0_ n1_ n2_ n3_; (try clear hb); (try clear hb2); (try clear hk); (try clear hi); (try clear ho0); (try clear ho1); (try clear ho2)) | ((with_reducible refine gd (N := 5) rfl ?_); (try (refine gg (by rfl) ?_; dsimp only)); refine zb ?hg (N := 5) ?hd (cs := #[.slice none 0 0, .slice none 0 0, .slice none 0 0]) (t := 30) ?hr ?_; (case hd => rfl); (case hg => rfl); (case hr => go_simp; first | done | rfl); intro gb400 hg w22 hbox hb; have n0_ := zk (Kd.R_below (by (with_reducible repeat (first | apply Kd.R_alloc | apply Kd.R_drewN | apply Kd.R_drew)); exact HO392.out) hb); have n1_ := zk (Kd.R_below (by (with_reducible repeat (first | apply Kd.R_alloc | apply Kd.R_drewN | apply Kd.R_drew)); exact HO395.out) hb); have n2_ := zk (Kd.R_below (by (with_reducible repeat (first | apply Kd.R_alloc | apply Kd.R_drewN | apply Kd.R_drew)); exact HO398.out) hb); have n3_ := zk (zs (by with_reducible repeat first | exact HB.out | apply zA | apply zN | apply zD) hb); have n4_ := zk (hbox); have n5_ := zk ((by rw [hg]; exact (zq (by with_reducible repeat first | exact HB.out | apply zA | apply zN | apply zD)) : w.heap.size ≤ gb400)); have n6_ := n5_; clear HO392; clear HO395; clear HO398; clear HB; have HO392 := n0_; have HO395 := n1_; have HO398 := n2_; have HB := n3_; have BK400 := n4_; have GW400 := n5_; have GE400 := n6_; clear n0_ n1_ n2_ n3_ n4_ n5_ n6_; clear hb hbox hg; obtain ⟨Ao23, co23, eo23⟩ := Kd.R_slice HO392.out; subst eo23; obtain ⟨hcz24_0, hcz24_1, hcz24_2, hfz24_0, hfz24_1, hfz24_2⟩ := zc3 BK400.out; obtain ⟨Ao25, co25, eo25⟩ := Kd.R_slice HO395.out; subst eo25; obtain ⟨Ao26, co26, eo26⟩ := Kd.R_slice HO398.out; subst eo26))
    have n0_ : Aside0 (Kd.R (Kd.int .i64) 3 (((w22.setCell ⟨gb400, 0, none⟩ (.slice Ao23 t390.length co23)).setCell ⟨gb400, 1, none⟩ (.slice Ao25 t393.length co25)).setCell ⟨gb400, 2, none⟩ (.slice Ao26 t396.length co26)) w.heap.size (fun k_ => some k_ ≠ (.slice Ao25 t393.length co25 : Value).ownBlock) (.slice Ao23 t390.length co23) t390) := ⟨by (with_reducible repeat (first | apply Kd.R_alloc | apply Kd.R_drewN | apply Kd.R_drew)); exact Kd.R_mono (Kd.R_far (p := ⟨gb400, 2, none⟩) (Kd.R_far (p := ⟨gb400, 1, none⟩) (Kd.R_far (p := ⟨gb400, 0, none⟩) (Kd.R_types HO392.out BK400.out (by decide)) (fun _ hk => hk.2) (.slice Ao23 t390.length co23)) (fun _ hk => hk.2) (.slice Ao25 t393.length co25)) (fun _ hk => hk.2) (.slice Ao26 t396.length co26)) (fun _ hk => hk.1)⟩; have n1_ : Aside0 (Kd.R (Kd.int .i64) 3 (((w22.setCell ⟨gb400, 0, none⟩ (.slice Ao23 t390.length co23)).setCell ⟨gb400, 1, none⟩ (.slice Ao25 t393.length co25)).setCell ⟨gb400, 2, none⟩ (.slice Ao26 t396.length co26)) w.heap.size (fun k_ => some k_ ≠ (.slice Ao23 t390.length co23 : Value).ownBlock) (.slice Ao25 t393.length co25) t393) := ⟨by (with_reducible repeat (first | apply Kd.R_alloc | apply Kd.R_drewN | apply Kd.R_drew)); exact Kd.R_mono (Kd.R_far (p := ⟨gb400, 2, none⟩) (Kd.R_far (p := ⟨gb400, 1, none⟩) (Kd.R_far (p := ⟨gb400, 0, none⟩) (Kd.R_types HO395.out BK400.out (by decide)) (fun _ hk => hk.2) (.slice Ao23 t390.length co23)) (fun _ hk => hk.2) (.slice Ao25 t393.length co25)) (fun _ hk => hk.2) (.slice Ao26 t396.length co26)) (fun _ hk => hk.1)⟩; have n2_ : Aside0 (Kd.R k46 46 (((w22.setCell ⟨gb400, 0, none⟩ (.slice Ao23 t390.length co23)).setCell ⟨gb400, 1, none⟩ (.slice Ao25 t393.length co25)).setCell ⟨gb400, 2, none⟩ (.slice Ao26 t396.length co26)) w.heap.size (fun _ => True) (.slice Ao26 t396.length co26) t396) := ⟨by (with_reducible repeat (first | apply Kd.R_alloc | apply Kd.R_drewN | apply Kd.R_drew)); exact Kd.R_mono (Kd.R_far (p := ⟨gb400, 2, none⟩) (Kd.R_far (p := ⟨gb400, 1, none⟩) (Kd.R_far (p := ⟨gb400, 0, none⟩) (Kd.R_types HO398.out BK400.out (by decide)) (fun _ hk => hk.2) (.slice Ao23 t390.length co23)) (fun _ hk => hk.2) (.slice Ao25 t393.length co25)) (fun _ hk => hk.2) (.slice Ao26 t396.length co26)) (fun _ hk => trivial)⟩; have n3_ : Aside0 ((((w22.setCell ⟨gb400, 0, none⟩ (.slice Ao23 t390.length co23)).setCell ⟨gb400, 1, none⟩ (.slice Ao25 t393.length co25)).setCell ⟨gb400, 2, none⟩ (.slice Ao26 t396.length co26)).heap[gb400]? = some (.cells #[.slice Ao23 t390.length co23, .slice Ao25 t393.length co25, .slice Ao26 t396.length co26] 30 (0, 0))) := ⟨by (with_reducible repeat first | apply zM | apply zE | apply zF); refine zP (cs := #[.slice Ao23 t390.length co23, .slice Ao25 t393.length co25, .slice none 0 0]) ?_ 2 _ rfl; (with_reducible repeat first | apply zM | apply zE | apply zF); refine zP (cs := #[.slice Ao23 t390.length co23, .slice none 0 0, .slice none 0 0]) ?_ 1 _ rfl; (with_reducible repeat first | apply zM | apply zE | apply zF); refine zP (cs := #[.slice none 0 0, .slice none 0 0, .slice none 0 0]) ?_ 0 _ rfl; (with_reducible repeat first | apply zM | apply zE | apply zF); exact BK400.out⟩; have n4_ : Aside0 (Below w.heap.size w (((w22.setCell ⟨gb400, 0, none⟩ (.slice Ao23 t390.length co23)).setCell ⟨gb400, 1, none⟩ (.slice Ao25 t393.length co25)).setCell ⟨gb400, 2, none⟩ (.slice Ao26 t396.length co26))) := ⟨by with_reducible repeat first | exact HB.out | apply zA | apply zN | apply zD | refine zS ?_ GE400.out⟩
    (try clear HO392)
    (try clear HO395)
    (try clear HO398)
    (try clear BK400)
    (try clear HB)
    generalize (((w22.setCell ⟨gb400, 0, none⟩ (.slice Ao23 t390.length co23)).setCell ⟨gb400, 1, none⟩ (.slice Ao25 t393.length co25)).setCell ⟨gb400, 2, none⟩ (.slice Ao26 t396.length co26)) = w27 at n0_ n1_ n2_ n3_ n4_ ⊢; have HO392 := n0_; have HO395 := n1_; have HO398 := n2_; have BK400 := n3_; have HB := n4_; clear n0_ n1_ n2_ n3_ n4_; have n0_ := zk (Kd.R_drew HO392.out); have n1_ := zk (Kd.R_drew HO395.out); have n2_ := zk (Kd.R_drew HO398.out); have n3_ := zk (zE BK400.out); have n4_ := zk (zD HB.out); clear HO392; clear HO395; clear HO398; clear BK400; clear HB; have HO392 := n0_; have HO395 := n1_; have HO398 := n2_; have BK400 := n3_; have HB := n4_; clear n0_ n1_ n2_ n3_ n4_; refine start_ (n := 13) (S := fun w' => w'.cell? ⟨gb400, 0, none⟩ = some (.slice Ao23 t390.length co23) ∧ w'.cell? ⟨gb400, 1, none⟩ = some (.slice Ao25 t393.length co25) ∧ w'.cell? ⟨gb400, 2, none⟩ = some (.slice Ao26 t396.length co26)) (ds := []) #[F,F,F,F,F,F,F,F,F,F,F,F,F] (by kernel_rfl) rfl rfl ⟨(zC BK400.out 0).trans rfl, (zC BK400.out 1).trans rfl, (zC BK400.out 2).trans rfl⟩ (fun hHeld => ?_); refine with_tabW lw_KidsMakes.tab4 lw_KidsMakes.bits4 (fun HT_ HW_ => ?_); generalize w27.drew = w28 at HO392 HO395 HO398 BK400 HB hHeld ⊢; refine pure_ (i := 0) (N := some 35) (v := ?_) (a' := ?_) #[T,F,F,F,F,F,F,F,F,F,F,F,F] rfl rfl (any_of HT_.out (by kernel_rfl)) (fun _ _ _ h => h) (Or.inl ⟨by rfl, ?_⟩) ?_ ?_; rotate_left; (intro w'; go_simp; (with_reducible rfl)); rotate_left; (simp only [Act.put, zt, zu, zv, i64_w, i32_w]; rfl); refine pure_ (i := 1) (N := some 36) (v := ?_) (a' := ?_) #[T,T,F,F,F,F,F,F,F,F,F,F,F] rfl rfl (any_of HT_.out (by kernel_rfl)) (fun _ _ _ h => h) (Or.inl ⟨by rfl, ?_⟩) ?_ ?_; rotate_left; (intro w'; go_simp; (with_reducible rfl)); rotate_left; (simp only [Act.put, zt, zu, zv, i64_w, i32_w]; rfl); refine pure_ (i := 2) (N := some 37) (v := ?_) (a' := ?_) #[T,T,T,F,F,F,F,F,F,F,F,F,F] rfl rfl (any_of HT_.out (by kernel_rfl)) (fun _ _ _ h => h) (Or.inl ⟨by rfl, ?_⟩) ?_ ?_; rotate_left; (intro w'; go_simp; (with_reducible rfl)); rotate_left; (simp only [Act.put, zt, zu, zv, i64_w, i32_w]; rfl); refine pure_ (i := 4) (N := some 39) (v := ?_) (a' := ?_) #[T,T,T,F,T,F,F,F,F,F,F,F,F] rfl rfl (any_of HT_.out (by kernel_rfl)) (fun _ _ _ h => h) (Or.inl ⟨by rfl, ?_⟩) ?_ ?_; rotate_left; (intro w'; go_simp; (with_reducible rfl)); rotate_left; (simp only [Act.put, zt, zu, zv, i64_w, i32_w]; rfl); refine take_ (i := 3) (N := some 38) (v := ?_) (a' := ?_) #[T,T,T,T,T,F,F,F,F,F,F,F,F] rfl rfl (take_ofW HT_.out HW_.out (by kernel_rfl)) (fun _ _ _ h => h) (Or.inl ⟨by rfl, ?_⟩) hHeld ?_ ?_; rotate_left; (rintro w' ⟨s0, s1, s2⟩; go_simp; (with_reducible rfl)); rotate_left; (simp only [Act.put, zt, zu, zv, i64_w, i32_w]; rfl); refine take_ (i := 5) (N := some 40) (v := ?_) (a' := ?_) #[T,T,T,T,T,T,F,F,F,F,F,F,F] rfl rfl (take_ofW HT_.out HW_.out (by kernel_rfl)) (fun _ _ _ h => h) (Or.inl ⟨by rfl, ?_⟩) hHeld ?_ ?_; rotate_left; (rintro w' ⟨s0, s1, s2⟩; go_simp; (with_reducible rfl)); rotate_left; (simp only [Act.put, zt, zu, zv, i64_w, i32_w]; rfl); refine one_ (i := 6) (N := some 41) #[T,T,T,T,T,T,T,F,F,F,F,F,F] rfl rfl (one_of HT_.out (by kernel_rfl)) (by decide) (fun K hK => ?_); refine goes_ Try.func13 (by kernel_rfl) rfl #[.slice Ao26 t396.length co26] (by rfl) rfl rfl (by (try simp only [List.map_toArray, List.map_cons, List.map_nil]); first | done | rfl | (simp only [List.length_drop, List.length_take]; rfl)) ?_
    with_reducible refine (lw_steps.calls kj2 _ _ t396 t401 _ ?side1 ?side2 A18.out).mono ?_
    (case side1 => repeat (first | exact (Kd.R_reads' HO398.out).2.2 | (with_reducible refine Kd.C_alloc ?_ _) | (with_reducible refine Kd.C_drewN ?_ _) | (with_reducible refine Kd.C_drew ?_)))
    (case side2 => exact (Kd.R_reads' HO398.out).2.1)
    rintro e w29 ⟨v402, rfl, ho0, hb⟩; refine ⟨_, rfl, ?_⟩; have n0_ := zk (Kd.R_below (by (with_reducible repeat (first | apply Kd.R_alloc | apply Kd.R_drewN | apply Kd.R_drew)); exact HO392.out) hb); have n1_ := zk (Kd.R_below (by (with_reducible repeat (first | apply Kd.R_alloc | apply Kd.R_drewN | apply Kd.R_drew)); exact HO395.out) hb); have n2_ := zk (Kd.R_below (by (with_reducible repeat (first | apply Kd.R_alloc | apply Kd.R_drewN | apply Kd.R_drew)); exact HO398.out) hb); have n3_ := zk (Kd.R_lower ho0 (zq (by with_reducible repeat first | exact HB.out | apply zA | apply zN | apply zD | refine zS ?_ GE400.out))); have n4_ := zk (blk_below (g := gb400) (o := .cells #[.slice Ao23 t390.length co23, .slice Ao25 t393.length co25, .slice Ao26 t396.length co26] 30 (0, 0)) (by (with_reducible repeat first | apply zM | apply zE | apply zF); exact BK400.out) hb); have n5_ := zk (zs (by with_reducible repeat first | exact HB.out | apply zA | apply zN | apply zD | refine zS ?_ GE400.out) hb); clear HO392; clear HO395; clear HO398; clear BK400; clear HB; have HO392 := n0_; have HO395 := n1_; have HO398 := n2_; have HO403 := n3_; have BK400 := n4_; have HB := n5_; clear n0_ n1_ n2_ n3_ n4_ n5_
    (try clear hb)
    (try clear hb2)
    (try clear hk)
    (try clear hi)
    (try clear ho0)
    obtain ⟨Ao30, co30, eo30⟩ := Kd.R_slice HO403.out
    (first | subst eo30 | (injection eo30 with f1_ f2_ f3_; have f4_ := f1_.symm; have f5_ := f3_.symm; clear f1_ f2_ f3_; subst f4_; subst f5_))
    refine hK.out _ _ ⟨(zC BK400.out 0).trans rfl, (zC BK400.out 1).trans rfl, (zC BK400.out 2).trans rfl⟩ (fun hHeld => ?_); clear hK K; refine norm_ (a' := ?_) ?_ ?_; rotate_left
    ·
     show Act.put _ (some 41) _ = _
     simp only [Act.put, zt, zu, zv, i64_w, i32_w]; rfl
    refine one_ (i := 7) (N := some 42) #[T,T,T,T,T,T,T,T,F,F,F,F,F] rfl rfl (one_of HT_.out (by kernel_rfl)) (by decide) (fun K hK => ?_); refine goes_ Try.func20 (by kernel_rfl) rfl #[.slice A0 l0.length c0, .slice A1 l1.length c1, .slice Ao25 t393.length co25, .slice Ao30 t401.length co30] (by rfl) rfl rfl (by (try simp only [List.map_toArray, List.map_cons, List.map_nil]); first | done | rfl | (simp only [List.length_drop, List.length_take]; rfl)) ?_
    with_reducible refine (r32_Run.calls kj2 _ _ l0 _ _ l1 _ _ t393 _ _ t401 t404 t405 _ ?side1 ?side2 ?side3 ?side4 ?side5 ?side6 ?side7 ?side8 A19.out).mono ?_
    (case side1 => repeat (first | exact (Kd.C_below HR0.out HB.out) | (with_reducible refine Kd.C_alloc ?_ _) | (with_reducible refine Kd.C_drewN ?_ _) | (with_reducible refine Kd.C_drew ?_)))
    (case side2 => exact HC0.out)
    (case side3 => repeat (first | exact (Kd.C_below HR1.out HB.out) | (with_reducible refine Kd.C_alloc ?_ _) | (with_reducible refine Kd.C_drewN ?_ _) | (with_reducible refine Kd.C_drew ?_)))
    (case side4 => exact HC1.out)
    (case side5 => repeat (first | exact (Kd.R_reads' HO395.out).2.2 | (with_reducible refine Kd.C_alloc ?_ _) | (with_reducible refine Kd.C_drewN ?_ _) | (with_reducible refine Kd.C_drew ?_)))
    (case side6 => exact (Kd.R_reads' HO395.out).2.1)
    (case side7 => repeat (first | exact (Kd.R_reads' HO403.out).2.2 | (with_reducible refine Kd.C_alloc ?_ _) | (with_reducible refine Kd.C_drewN ?_ _) | (with_reducible refine Kd.C_drew ?_)))
    (case side8 => exact (Kd.R_reads' HO403.out).2.1)
    rintro e w31 ⟨v406, rfl, ho0, hb⟩; refine ⟨_, rfl, ?_⟩; have n0_ := zk (Kd.R_below (by (with_reducible repeat (first | apply Kd.R_alloc | apply Kd.R_drewN | apply Kd.R_drew)); exact HO392.out) hb); have n1_ := zk (Kd.R_below (by (with_reducible repeat (first | apply Kd.R_alloc | apply Kd.R_drewN | apply Kd.R_drew)); exact HO395.out) hb); have n2_ := zk (Kd.R_below (by (with_reducible repeat (first | apply Kd.R_alloc | apply Kd.R_drewN | apply Kd.R_drew)); exact HO398.out) hb); have n3_ := zk (Kd.R_below (by (with_reducible repeat (first | apply Kd.R_alloc | apply Kd.R_drewN | apply Kd.R_drew)); exact HO403.out) hb); have n4_ := zk (Kd.R_lower ho0 (zq (by with_reducible repeat first | exact HB.out | apply zA | apply zN | apply zD | refine zS ?_ GE400.out))); have n5_ := zk (blk_below (g := gb400) (o := .cells #[.slice Ao23 t390.length co23, .slice Ao25 t393.length co25, .slice Ao26 t396.length co26] 30 (0, 0)) (by (with_reducible repeat first | apply zM | apply zE | apply zF); exact BK400.out) hb); have n6_ := zk (zs (by with_reducible repeat first | exact HB.out | apply zA | apply zN | apply zD | refine zS ?_ GE400.out) hb); clear HO392; clear HO395; clear HO398; clear HO403; clear BK400; clear HB; have HO392 := n0_; have HO395 := n1_; have HO398 := n2_; have HO403 := n3_; have HO407 := n4_; have BK400 := n5_; have HB := n6_; clear n0_ n1_ n2_ n3_ n4_ n5_ n6_
    (try clear hb)
    (try clear hb2)
    (try clear hk)
    (try clear hi)
    (try clear ho0)
    refine hK.out _ _ ⟨(zC BK400.out 0).trans rfl, (zC BK400.out 1).trans rfl, (zC BK400.out 2).trans rfl⟩ (fun hHeld => ?_); clear hK K; refine norm_ (a' := ?_) ?_ ?_; rotate_left
    ·
     show Act.put _ (some 42) _ = _
     simp only [Act.put, zt, zu, zv, i64_w, i32_w]; rfl
    refine pure_ (i := 8) (N := some 34) (v := ?_) (a' := ?_) #[T,T,T,T,T,T,T,T,T,F,F,F,F] rfl rfl (any_of HT_.out (by kernel_rfl)) (fun _ _ _ h => h) (Or.inl ⟨by rfl, ?_⟩) ?_ ?_; rotate_left; (intro w'; go_simp; (with_reducible rfl)); rotate_left; (simp only [Act.put, zt, zu, zv, i64_w, i32_w]; rfl); refine pure_ (i := 9) (N := some 43) (v := ?_) (a' := ?_) #[T,T,T,T,T,T,T,T,T,T,F,F,F] rfl rfl (any_of HT_.out (by kernel_rfl)) (fun _ _ _ h => h) (Or.inl ⟨by rfl, ?_⟩) ?_ ?_; rotate_left; (intro w'; go_simp; (with_reducible rfl)); rotate_left; (simp only [Act.put, zt, zu, zv, i64_w, i32_w]; rfl); refine pure_ (i := 10) (N := some 44) (v := ?_) (a' := ?_) #[T,T,T,T,T,T,T,T,T,T,T,F,F] rfl rfl (any_of HT_.out (by kernel_rfl)) (fun _ _ _ h => h) (Or.inl ⟨by rfl, ?_⟩) ?_ ?_; rotate_left; (intro w'; go_simp; (with_reducible rfl)); rotate_left; (simp only [Act.put, zt, zu, zv, i64_w, i32_w]; rfl); refine pure_ (i := 11) (N := some 7) (v := ?_) (a' := ?_) #[T,T,T,T,T,T,T,T,T,T,T,T,F] rfl rfl (any_of HT_.out (by kernel_rfl)) (fun _ _ _ h => h) (Or.inl ⟨by rfl, ?_⟩) ?_ ?_; rotate_left; (intro w'; go_simp; (with_reducible rfl)); rotate_left; (simp only [Act.put, zt, zu, zv, i64_w, i32_w]; rfl); refine pure_ (i := 12) (N := some 8) (v := ?_) (a' := ?_) #[T,T,T,T,T,T,T,T,T,T,T,T,T] rfl rfl (any_of HT_.out (by kernel_rfl)) (fun _ _ _ h => h) (Or.inl ⟨by rfl, ?_⟩) ?_ ?_; rotate_left; (intro w'; go_simp; (with_reducible rfl)); rotate_left; (simp only [Act.put, zt, zu, zv, i64_w, i32_w]; rfl); refine done_ (done_of HT_.out (by kernel_rfl)) ?_
    try go_wp2_with (first | ((with_reducible refine gk (f := 10) rfl ?_); refine gl (some 48) rfl rfl Try.func10 (by kernel_rfl) rfl #[.slice A0 l0.length c0, .slice A1 l1.length c1] rfl (by (try simp only [List.map_toArray, List.map_cons, List.map_nil]); first | done | rfl | (simp only [List.length_drop, List.length_take]; rfl)) ?_; (with_reducible refine (r32_Trim.calls kj2 _ _ l0 _ _ l1 t408 t409 _ ?side1 ?side2 ?side3 ?side4 A20.out).mono ?_); (case side1 => repeat (first | exact (Kd.C_below HR0.out HB.out) | (with_reducible refine Kd.C_alloc ?_ _) | (with_reducible refine Kd.C_drewN ?_ _) | (with_reducible refine Kd.C_drew ?_))); (case side2 => exact HC0.out); (case side3 => repeat (first | exact (Kd.C_below HR1.out HB.out) | (with_reducible refine Kd.C_alloc ?_ _) | (with_reducible refine Kd.C_drewN ?_ _) | (with_reducible refine Kd.C_drew ?_))); (case side4 => exact HC1.out); rintro e w' ⟨rfl, ⟨nd, rfl⟩⟩; refine ⟨_, rfl, ?_⟩; obtain ⟨hcz32_0, hcz32_1, hcz32_2, hfz32_0, hfz32_1, hfz32_2⟩ := zc3 BK400.out))
    go_loopg [54] kj2 (fun kq v54 w' => ∃ (x54_2 : Int), v54 = .int .i64 x54_2 ∧ Aside0 (lw_KidsMakes.l0 kq l1 t399 t404 t405 t408 t409 (t396.length : Int) x54_2 t390 t393 t396 = some r) ∧ Aside0 (kq ≤ kj2) ∧ Aside0 (Kd.R k50 50 w' w.heap.size (fun _ => True) v406 t404) ∧ Aside0 (Kd.R (Kd.int .i64) 3 w' w.heap.size (fun k_ => some k_ ≠ ((.slice Ao25 t393.length co25) : Value).ownBlock) (.slice Ao23 t390.length co23) t390) ∧ Aside0 (Kd.R (Kd.int .i64) 3 w' w.heap.size (fun k_ => some k_ ≠ ((.slice Ao23 t390.length co23) : Value).ownBlock) (.slice Ao25 t393.length co25) t393) ∧ Aside0 (Kd.R k46 46 w' w.heap.size (fun _ => True) (.slice Ao26 t396.length co26) t396) ∧ Aside0 (w'.heap[gb400]? = some (.cells #[(.slice Ao23 t390.length co23), (.slice Ao25 t393.length co25), (.slice Ao26 t396.length co26)] 30 (0, 0))) ∧ Aside0 (Below w.heap.size w w'))
    case atStart => exact ⟨(0), (by first | rfl | (simp; done) | (simp [*]; done)), H', ⟨Nat.le_refl _⟩, ⟨by (with_reducible repeat (first | apply Kd.R_alloc | apply Kd.R_drewN | apply Kd.R_drew)); exact HO407.out⟩, ⟨by (with_reducible repeat (first | apply Kd.R_alloc | apply Kd.R_drewN | apply Kd.R_drew)); exact HO392.out⟩, ⟨by (with_reducible repeat (first | apply Kd.R_alloc | apply Kd.R_drewN | apply Kd.R_drew)); exact HO395.out⟩, ⟨by (with_reducible repeat (first | apply Kd.R_alloc | apply Kd.R_drewN | apply Kd.R_drew)); exact HO398.out⟩, ⟨by (with_reducible repeat first | apply zM | apply zE | apply zF); exact BK400.out⟩, ⟨by with_reducible repeat first | exact HB.out | apply zA | apply zN | apply zD | refine zS ?_ GE400.out⟩⟩
    case round =>
     clear H'; (try clear c1); (try clear c2); (try clear p2); (try clear c4); (try clear c5); (try clear c7); (try clear c8); (try clear c9); (try clear c10); (try clear c11); (try clear c13); (try clear c14); (try clear c20); (try clear p2)
     (try clear BK400)
     obtain ⟨x54_2, rfl, HA, HK2, HO_7, HO_401000, HO_401001, HO_401002, BK400, HB⟩ := hrel
     cases gk with
     | zero => exact absurd HA.out (by simp [lw_KidsMakes.l0])
     | succ k2 =>
      have H := HA.out; clear HA; simp only [lw_KidsMakes.l0] at H
      by_cases c33 : x54_2 < (t396.length : Int)
      ·
       rw [if_pos c33] at H; have c33b0 := decide_eq_true c33; clear c33
       by_cases c34 : 0 ≤ x54_2
       ·
        rw [if_pos c34] at H; have c34b0 := decide_eq_true c34; clear c34
        by_cases c35 : x54_2 < (t396.length : Int)
        ·
         rw [if_pos c35] at H; have c35b0 := decide_eq_true c35; clear c35
         by_cases c36 : ((rd_T46 t396 x54_2).f0) < t408
         ·
          rw [if_pos c36] at H; have c36b0 := decide_eq_true c36; clear c36; exact absurd ((Option.some.inj H).trans HR_.out) (by decide)
         ·
          rw [if_neg c36] at H; have c36b0 := decide_eq_false c36; clear c36
          by_cases c38 : ((rd_T46 t396 x54_2).f0) ≥ (wrap64 ((l1.length : Int) - t409))
          ·
           rw [if_pos c38] at H; have c38b0 : decide ((wrap64 ((l1.length : Int) - t409)) ≤ ((rd_T46 t396 x54_2).f0)) = true := decide_eq_true c38; clear c38; exact absurd ((Option.some.inj H).trans HR_.out) (by decide)
          ·
           rw [if_neg c38] at H; have c38b0 : decide ((wrap64 ((l1.length : Int) - t409)) ≤ ((rd_T46 t396 x54_2).f0)) = false := decide_eq_false c38; clear c38; have H' := zk H; clear H; have hcz40_0 : wr.cell? ⟨gb400, 0, none⟩ = some (.slice Ao23 t390.length co23) := (zC BK400.out 0).trans rfl; have hcz40_1 : wr.cell? ⟨gb400, 1, none⟩ = some (.slice Ao25 t393.length co25) := (zC BK400.out 1).trans rfl; have hcz40_2 : wr.cell? ⟨gb400, 2, none⟩ = some (.slice Ao26 t396.length co26) := (zC BK400.out 2).trans rfl; have hfz40_0 := zR BK400.out 0; have hfz40_1 := zR BK400.out 1; have hfz40_2 := zR BK400.out 2; have p410 : 0 ≤ (x54_2 : Int) := zo (by assumption); have q410 : x54_2 < (t396.length : Int) := zo (by assumption); obtain ⟨ad410, e410, hx410_0, hx410_1, hx410_2⟩ := at_T46 (Kd.R_reads' HO_401002.out).2.2 x54_2 p410 q410; cases e410; replace p410 := eq_true p410; replace q410 := eq_true q410; go_wp2
           go_roundg k2
           case measure => have := HJ2.out; have := HK2.out; omega
           case rel => exact ⟨(wrap64 (x54_2 + 1)), (by first | rfl | (simp; done) | (simp [*]; done)), H', ⟨by have := HJ2.out; have := HK2.out; omega⟩, ⟨by (with_reducible repeat (first | apply Kd.R_alloc | apply Kd.R_drewN | apply Kd.R_drew)); exact HO_7.out⟩, ⟨by (with_reducible repeat (first | apply Kd.R_alloc | apply Kd.R_drewN | apply Kd.R_drew)); exact HO_401000.out⟩, ⟨by (with_reducible repeat (first | apply Kd.R_alloc | apply Kd.R_drewN | apply Kd.R_drew)); exact HO_401001.out⟩, ⟨by (with_reducible repeat (first | apply Kd.R_alloc | apply Kd.R_drewN | apply Kd.R_drew)); exact HO_401002.out⟩, ⟨by (with_reducible repeat first | apply zM | apply zE | apply zF); exact BK400.out⟩, ⟨by with_reducible repeat first | exact HB.out | apply zA | apply zN | apply zD | refine zS ?_ GE400.out⟩⟩
        ·
         rw [if_neg c35] at H; exact absurd H (by simp)
       ·
        rw [if_neg c34] at H; exact absurd H (by simp)
      ·
       rw [if_neg c33] at H; have c33b0 := decide_eq_false c33; clear c33
       by_cases c41 : t399 = 0
       ·
        rw [if_pos c41] at H; have c41b0 := beq_iff_eq.mpr c41; have c41b1 := bne_eq_false_iff_eq.mpr c41; clear c41
        by_cases c42 : t405 = true
        ·
         subst c42
         have H1 : ((pl_Labels.f k2 t404 l1).bind fun t411 => (if t411 = true then ((lw_same.f k2).bind fun t412 => (some t412)) else (some false))) = some r := by rw [if_pos rfl] at H; exact H
         clear H; have H := H1; clear H1; replace H := Option.bind_eq_some_iff.mp H; obtain ⟨t411, A430, H⟩ := H; replace H : (if t411 = true then ((lw_same.f k2).bind fun t412 => (some t412)) else (some false)) = some r := H; have A43 := zk A430; clear A430
         by_cases c44 : t411 = true
         ·
          subst c44
          have H1 : ((lw_same.f k2).bind fun t412 => (some t412)) = some r := by rw [if_pos rfl] at H; exact H
          clear H; have H := H1; clear H1; replace H := Option.bind_eq_some_iff.mp H; obtain ⟨t412, A450, H⟩ := H; replace H : (some t412) = some r := H; have A45 := zk A450; clear A450; obtain rfl := Option.some.inj H; obtain ⟨Ao46, co46, eo46⟩ := Kd.R_slice HO_7.out; subst eo46
          go_wp2_with (first | (go_at_call 21; (with_reducible refine (pl_Labels.calls k2 _ _ t404 _ _ l1 true _ ?side1 ?side2 ?side3 ?side4 A43.out).mono ?_); (case side1 => repeat (first | exact (Kd.R_reads' HO_7.out).2.2 | (with_reducible refine Kd.C_alloc ?_ _) | (with_reducible refine Kd.C_drewN ?_ _) | (with_reducible refine Kd.C_drew ?_))); (case side2 => exact (Kd.R_reads' HO_7.out).2.1); (case side3 => repeat (first | exact (Kd.C_below HR1.out HB.out) | (with_reducible refine Kd.C_alloc ?_ _) | (with_reducible refine Kd.C_drewN ?_ _) | (with_reducible refine Kd.C_drew ?_))); (case side4 => exact HC1.out); rintro e w' ⟨rfl, ⟨nd, rfl⟩⟩) | (go_at_call 8; (with_reducible refine (lw_same.calls k2  t412 _ A45.out).mono ?_); rintro e w47 ⟨rfl, hb⟩; have n0_ := zk (Kd.R_below (by (with_reducible repeat (first | apply Kd.R_alloc | apply Kd.R_drewN | apply Kd.R_drew)); exact HO_7.out) hb); have n1_ := zk (Kd.R_below (by (with_reducible repeat (first | apply Kd.R_alloc | apply Kd.R_drewN | apply Kd.R_drew)); exact HO_401000.out) hb); have n2_ := zk (Kd.R_below (by (with_reducible repeat (first | apply Kd.R_alloc | apply Kd.R_drewN | apply Kd.R_drew)); exact HO_401001.out) hb); have n3_ := zk (Kd.R_below (by (with_reducible repeat (first | apply Kd.R_alloc | apply Kd.R_drewN | apply Kd.R_drew)); exact HO_401002.out) hb); have n4_ := zk (blk_below (g := gb400) (o := .cells #[.slice Ao23 t390.length co23, .slice Ao25 t393.length co25, .slice Ao26 t396.length co26] 30 (0, 0)) (by (with_reducible repeat first | apply zM | apply zE | apply zF); exact BK400.out) hb); have n5_ := zk (zs (by with_reducible repeat first | exact HB.out | apply zA | apply zN | apply zD | refine zS ?_ GE400.out) hb); clear HO_7; clear HO_401000; clear HO_401001; clear HO_401002; clear BK400; clear HB; have HO_7 := n0_; have HO_401000 := n1_; have HO_401001 := n2_; have HO_401002 := n3_; have BK400 := n4_; have HB := n5_; clear n0_ n1_ n2_ n3_ n4_ n5_; (try clear hb); (try clear hb2); (try clear hk); (try clear hi)))
          go_ret; exact ⟨by first | rfl | (simp [wN, wS] <;> rfl) | (simp [*, wN, wS] <;> rfl), by with_reducible repeat first | exact HB.out | apply zA | apply zN | apply zD | refine zS ?_ GE400.out⟩
         ·
          replace c44 := Bool.eq_false_iff.mpr c44; subst c44
          have H1 : (some false) = some r := by rw [if_neg (show ¬ (false = true) by decide)] at H; exact H
          clear H; have H := H1; clear H1; exact absurd ((Option.some.inj H).trans HR_.out) (by decide)
        ·
         replace c42 := Bool.eq_false_iff.mpr c42; subst c42
         have H1 : (some false) = some r := by rw [if_neg (show ¬ (false = true) by decide)] at H; exact H
         clear H; have H := H1; clear H1; exact absurd ((Option.some.inj H).trans HR_.out) (by decide)
       ·
        rw [if_neg c41] at H; have c41b0 := beq_eq_false_iff_ne.mpr c41; have c41b1 := bne_iff_ne.mpr c41; exact absurd ((Option.some.inj H).trans HR_.out) (by decide)
end Go.Proofs.Ytpekchebllobmaa.G
namespace Go.Proofs.Ytpekchebllobmaa.G
open Go.RowKit Go.Proofs.YtpekchebllobmaaW.PrintWords Go.Proofs.YtpekchebllobmaaW.PrintLast Go.Proofs.YtpekchebllobmaaW.PrintMore
attribute [local go_sem] max2_int min2_int max_two min_two max_three min_three max_four min_four
set_option linter.unusedVariables false
set_option linter.unusedSimpArgs false
end Go.Proofs.Ytpekchebllobmaa.G
namespace Go.Proofs.Ytpekchebllobmaa.G
open Go.RowKit Go.Proofs.YtpekchebllobmaaW.PrintWords
/-- A pile: places rise, members don't. -/
def Down (l : List Int) (p : List Int) : Prop := p.Pairwise fun x y => x < y ∧ rd l y ≤ rd l x
theorem Down.last {l p : List Int} (h : Down l p) (hp : 0 < p.length) (x : Int) (hx : x ∈ p) : x ≤ rd p (p.length - 1) ∧ rd l (rd p (p.length - 1)) ≤ rd l x := by
  obtain ⟨j, hj, rfl⟩ := List.getElem_of_mem hx
  have e : rd p (p.length - 1) = p[p.length - 1] := by
    unfold rd; rw [List.getD_eq_getElem?_getD, List.getElem?_eq_getElem (by omega)]; simp only [Option.getD_some]
    congr 1
    omega
  rw [e]
  by_cases hjl : j = p.length - 1
  (subst hjl; exact ⟨Int.le_refl _, Int.le_refl _⟩); (have := List.pairwise_iff_getElem.1 h j (p.length - 1) hj (by omega) (by omega); exact ⟨by omega, this.2⟩)
theorem topAt_eq {ps : List (List Int)} {k : Nat} (hk : k < ps.length) : topAt ps k = rd (ps.getD k []) ((ps.getD k []).length - 1) := by
  unfold topAt topOf rd_L1; rw [if_neg (by omega), if_neg (by omega)]; rfl
structure Pat (l : List Int) (i : Nat) (ps : List (List Int)) (ah : List Int) : Prop where
  inv : PInv l i ps ah
  down : ∀ k, Down l (ps.getD k [])
  pos : ∀ k x, x ∈ ps.getD k [] → 0 ≤ rd l x
  tops : ∀ j k : Nat, j < k → k < ps.length → rd l (topAt ps j) < rd l (topAt ps k)
  all : ∀ x : Int, 0 ≤ x → x < i → 0 ≤ rd l x → ∃ k, x ∈ ps.getD k []
  cross : ∀ j k x y, x ∈ ps.getD j [] → y ∈ ps.getD k [] → x < y → rd l x < rd l y → j < k
  back0 : ∀ x, x ∈ ps.getD 0 [] → rd ah x = -1
  back : ∀ k x, x ∈ ps.getD (k + 1) [] → rd ah x ∈ ps.getD k [] ∧ rd ah x < x ∧ rd l (rd ah x) < rd l x ∧ ∀ y, y ∈ ps.getD k [] → y < x → y ≤ rd ah x
  one : ∀ j k x, x ∈ ps.getD j [] → x ∈ ps.getD k [] → j = k
theorem mem_lt {ps : List (List Int)} {k : Nat} {x : Int} (h : x ∈ ps.getD k []) : k < ps.length := by
  rcases Nat.lt_or_ge k ps.length with hk | hk
  (exact hk); (rw [List.getD_eq_getElem?_getD, List.getElem?_eq_none hk] at h; simp at h)
theorem Pat.nonempty {l : List Int} {i : Nat} {ps : List (List Int)} {ah : List Int} (h : Pat l i ps ah) {k : Nat} (hk : k < ps.length) : 0 < (ps.getD k []).length := by
  have hm : ps.getD k [] ∈ ps := by rw [List.getD_eq_getElem?_getD, List.getElem?_eq_getElem hk]; exact List.getElem_mem _
  exact (h.inv.pile _ hm).1
theorem Pat.range {l : List Int} {i : Nat} {ps : List (List Int)} {ah : List Int} (h : Pat l i ps ah) {k : Nat} {x : Int} (hx : x ∈ ps.getD k []) : 0 ≤ x ∧ x < i := by
  have hk := mem_lt hx
  have hm : ps.getD k [] ∈ ps := by rw [List.getD_eq_getElem?_getD, List.getElem?_eq_getElem hk]; exact List.getElem_mem _
  exact (h.inv.pile _ hm).2.2 x hx
theorem Pat.top {l : List Int} {i : Nat} {ps : List (List Int)} {ah : List Int} (h : Pat l i ps ah) {k : Nat} {x : Int} (hx : x ∈ ps.getD k []) : x ≤ topAt ps k ∧ rd l (topAt ps k) ≤ rd l x := by
  rw [topAt_eq (mem_lt hx)]; exact (h.down k).last (h.nonempty (mem_lt hx)) x hx
/-- The halving finds the first pile whose top is not less. -/
theorem findL_first (l : List Int) (ps : List (List Int)) (n : Int) (ht : ∀ j k : Nat, j < k → k < ps.length → rd l (topAt ps j) < rd l (topAt ps k)) :
    ∀ (f : Nat) (lo hi : Nat), lo ≤ hi → hi ≤ ps.length → hi - lo ≤ f → (∀ j, j < lo → rd l (topAt ps j) < n) → (∀ j, hi ≤ j → j < ps.length → n ≤ rd l (topAt ps j)) →
      ∃ k : Nat, findL f l ps n lo hi = k ∧ k ≤ ps.length ∧ (∀ j, j < k → rd l (topAt ps j) < n) ∧ (∀ j, k ≤ j → j < ps.length → n ≤ rd l (topAt ps j)) := by
  intro f
  induction f with
  | zero =>
    intro lo hi h1 h2 h3 h4 h5
    obtain rfl : lo = hi := by omega
    exact ⟨lo, rfl, h2, h4, h5⟩
  | succ f ih =>
    intro lo hi h1 h2 h3 h4 h5; rw [findL]
    by_cases hlt : (lo : Int) < hi
    · rw [if_pos hlt]
      have em : ((lo : Int) + hi) / 2 = (((lo + hi) / 2 : Nat) : Int) := by omega
      rw [em]
      have et : topOf ps (((lo + hi) / 2 : Nat) : Int) = topAt ps (((lo + hi) / 2 : Nat) : Int) := by
        unfold topAt; rw [if_neg (by omega), if_neg (by omega)]
      rw [et]
      split
      · rename_i hge
        refine ih lo ((lo + hi) / 2) (by omega) (by omega) (by omega) h4 (fun j hj hjl => ?_)
        rcases Nat.lt_or_ge ((lo + hi) / 2) j with h | h
        · have := ht _ _ h hjl; omega
        · obtain rfl : j = (lo + hi) / 2 := by omega
          exact hge
      · rename_i hge
        have e1 : (((lo + hi) / 2 : Nat) : Int) + 1 = (((lo + hi) / 2 + 1 : Nat) : Int) := by omega
        rw [e1]
        refine ih ((lo + hi) / 2 + 1) hi (by omega) h2 (by omega) (fun j hj => ?_) h5
        rcases Nat.lt_or_ge j ((lo + hi) / 2) with h | h
        · have := ht _ _ h (show (lo + hi) / 2 < ps.length by omega); omega
        · obtain rfl : j = (lo + hi) / 2 := by omega
          omega
    · rw [if_neg hlt]
      obtain rfl : lo = hi := by omega
      exact ⟨lo, rfl, h2, h4, h5⟩
theorem Pat.step {l : List Int} {i : Nat} {st : List (List Int) × List Int} (h : Pat l i st.1 st.2) (hi : i < l.length) : Pat l (i + 1) (playStep l st i).1 (playStep l st i).2 := by
  have hinv := h.inv.step hi
  by_cases hneg : rd l i < 0
  · have e : playStep l st i = st := by unfold playStep; rw [if_pos hneg]
    rw [e] at hinv ⊢
    refine { h with inv := hinv, all := fun x h0 h1 h2 => ?_ }
    by_cases hx : x = i
    · subst hx; omega
    · exact h.all x h0 (by omega) h2
  · obtain ⟨k, hk, hkl, hbelow, habove⟩ := findL_first l st.1 (rd l i) h.tops st.1.length 0 st.1.length (by omega) (by omega) (by omega) (fun j hj => by omega) (fun j hj hj2 => by omega)
    have e : playStep l st i = ((if (k : Int) = st.1.length then st.1 ++ [[]] else st.1).set k ((if (k : Int) = st.1.length then st.1 ++ [[]] else st.1).getD k [] ++ [(i : Int)]), st.2.set i (topAt st.1 (k - 1))) := by
      unfold playStep; rw [if_neg hneg]; simp only [show ((0 : Nat) : Int) = 0 from rfl] at hk; rw [hk]; rfl
    rw [e] at hinv ⊢
    have hg := getD_stepped st.1 k hkl (i : Int)
    generalize hps : (if (k : Int) = st.1.length then st.1 ++ [[]] else st.1).set k ((if (k : Int) = st.1.length then st.1 ++ [[]] else st.1).getD k [] ++ [(i : Int)]) = ps2 at hg hinv ⊢
    have hlen : ps2.length = if k = st.1.length then st.1.length + 1 else st.1.length := by
      rw [← hps, List.length_set]
      by_cases hc : k = st.1.length
      (rw [if_pos (by omega), if_pos hc]; simp); (rw [if_neg (by omega), if_neg hc])
    clear hps
    have hmem : ∀ j x, x ∈ ps2.getD j [] ↔ x ∈ st.1.getD j [] ∨ (j = k ∧ x = i) := by
      intro j x; rw [hg]; split
      · rename_i hj; subst hj; simp
      · rename_i hj; simp [hj]
    have hold : ∀ j x, x ∈ st.1.getD j [] → 0 ≤ x ∧ x < i := fun j x hx => h.range hx
    have hah : ∀ j x, x ∈ st.1.getD j [] → rd (st.2.set i (topAt st.1 (k - 1))) x = rd st.2 x := fun j x hx => by
      have := hold j x hx; rw [rd_set this.1, if_neg (by omega)]
    have hai : rd (st.2.set i (topAt st.1 ((k : Int) - 1))) i = topAt st.1 (k - 1) := by
      rw [rd_set (by omega), if_pos rfl, if_pos (by rw [h.inv.ahl]; exact hi)]
    have htop : ∀ j : Nat, j < ps2.length → topAt ps2 j = if j = k then (i : Int) else topAt st.1 j := by
      intro j hj; rw [topAt_eq hj, hg]
      by_cases hjk : j = k
      (subst hjk; rw [if_pos rfl, if_pos rfl]; unfold rd; rw [List.getD_eq_getElem?_getD, List.getElem?_append_right (by simp)]; simp); (rw [if_neg hjk, if_neg hjk, ← topAt_eq]; split at hlen <;> omega)
    show Pat l (i + 1) ps2 (st.2.set i (topAt st.1 (k - 1)))
    refine { inv := hinv, down := fun j => ?_, pos := fun j x hx => ?_, tops := fun a b hab hb => ?_, all := fun x h0 h1 h2 => ?_, cross := fun a b x y hx hy hxy hv => ?_, back0 := fun x hx => ?_, back := fun a x hx => ?_, one := fun a b x hx hy => ?_ }
    · rw [hg]
      split
      · rename_i hj
        subst hj
        refine List.pairwise_append.2 ⟨h.down j, by simp, fun x hx y hy => ?_⟩
        obtain rfl : y = i := by simpa using hy
        have h1 := h.range hx
        have h2 := h.top hx
        have h3 := habove j (Nat.le_refl _) (mem_lt hx)
        exact ⟨h1.2, by omega⟩
      · exact h.down j
    · rcases (hmem j x).1 hx with hx | ⟨_, rfl⟩
      · exact h.pos j x hx
      · omega
    · rw [htop a (by omega), htop b hb]
      have hbl : b ≠ k → b < st.1.length := fun hbk => by split at hlen <;> omega
      by_cases hbk : b = k
      · rw [if_pos hbk, if_neg (by omega)]
        exact hbelow a (by omega)
      · rw [if_neg hbk]
        by_cases hak : a = k
        · rw [if_pos hak]
          have h1 := habove k (Nat.le_refl _) (by have := hbl hbk; omega)
          have h2 := h.tops k b (by omega) (hbl hbk)
          omega
        · rw [if_neg hak]
          exact h.tops a b hab (hbl hbk)
    · by_cases hx : x = i
      · exact ⟨k, (hmem k x).2 (.inr ⟨rfl, hx⟩)⟩
      · obtain ⟨j, hj⟩ := h.all x h0 (by omega) h2
        exact ⟨j, (hmem j x).2 (.inl hj)⟩
    · rcases (hmem b y).1 hy with hy | ⟨rfl, rfl⟩
      · rcases (hmem a x).1 hx with hx | ⟨_, rfl⟩
        · exact h.cross a b x y hx hy hxy hv
        · have := hold b y hy; omega
      · rcases (hmem a x).1 hx with hx | ⟨_, rfl⟩
        · rcases Nat.lt_or_ge a b with hab | hab
          · exact hab
          · have h1 := habove a hab (mem_lt hx)
            have h2 := h.top hx
            omega
        · omega
    · rcases (hmem 0 x).1 hx with hx | ⟨hk0, rfl⟩
      · rw [hah 0 x hx]; exact h.back0 x hx
      · rw [hai, ← hk0]; rfl
    · rcases (hmem (a + 1) x).1 hx with hx | ⟨hk0, rfl⟩
      · rw [hah _ x hx]
        obtain ⟨b1, b2, b3, b4⟩ := h.back a x hx
        refine ⟨(hmem a _).2 (.inl b1), b2, b3, fun y hy hyx => ?_⟩
        rcases (hmem a y).1 hy with hy | ⟨_, rfl⟩
        · exact b4 y hy hyx
        · have := hold _ x hx; omega
      · rw [hai, ← hk0]
        have e1 : ((a + 1 : Nat) : Int) - 1 = (a : Int) := by omega
        rw [e1]
        have hal : a < st.1.length := by omega
        have hin : topAt st.1 a ∈ st.1.getD a [] := by rw [topAt_eq hal]; exact rd_last_mem _ (h.nonempty hal)
        refine ⟨(hmem a _).2 (.inl hin), (hold a _ hin).2, hbelow a (by omega), fun y hy hyx => ?_⟩
        rcases (hmem a y).1 hy with hy | ⟨h1, _⟩
        · exact (h.top hy).1
        · omega
    · rcases (hmem a x).1 hx with hx | ⟨h1, rfl⟩
      · rcases (hmem b x).1 hy with hy | ⟨_, rfl⟩
        · exact h.one a b x hx hy
        · have := hold a _ hx; omega
      · rcases (hmem b _).1 hy with hy | ⟨h2, _⟩
        · have := hold b _ hy; omega
        · omega
theorem playN_pat (l : List Int) : ∀ i, i ≤ l.length → Pat l i (playN l i).1 (playN l i).2
  | 0, _ => { inv := playN_inv l 0 (by omega), down := fun k => by simp [playN, Down], pos := fun k x hx => by simp [playN] at hx, tops := fun j k _ hk => by simp [playN] at hk,
              all := fun x h0 h1 => by omega, cross := fun j k x y hx => by simp [playN] at hx, back0 := fun x hx => by simp [playN] at hx, back := fun k x hx => by simp [playN] at hx, one := fun j k x hx => by simp [playN] at hx }
  | i + 1, h => (playN_pat l i (by omega)).step (by omega)
theorem pat (l : List Int) : Pat l l.length (pilesOf l) (playN l l.length).2 := playN_pat l l.length (Nat.le_refl _)
/-- The chain goes from pile to pile. -/
theorem chain_mem {l : List Int} {i : Nat} {ps : List (List Int)} {ah : List Int} (h : Pat l i ps ah) : ∀ (n : Nat) (x : Int), (∀ m, n = m + 1 → x ∈ ps.getD m []) →
    ∀ j : Nat, j < n → rd (chainOf ah n x) j ∈ ps.getD j [] ∧ (j + 1 = n → rd (chainOf ah n x) j = x) ∧ (j + 1 < n → rd (chainOf ah n x) j = rd ah (rd (chainOf ah n x) ((j : Int) + 1)))
  | 0, _, _, _, hj => by omega
  | n + 1, x, hx, j, hj => by
    have hx0 := hx n rfl
    have ih := chain_mem h n (rd ah x) (fun m hm => by subst hm; exact (h.back m x hx0).1)
    have hl := chainOf_length ah n (rd ah x)
    obtain ⟨y, hy⟩ : ∃ y, rd ah x = y := ⟨_, rfl⟩
    rw [chainOf, hy]
    rw [hy] at ih hl
    have low : ∀ i : Nat, i < n → rd (chainOf ah n y ++ [x]) i = rd (chainOf ah n y) i := fun i hi => by
      unfold rd
      rw [List.getD_eq_getElem?_getD, List.getD_eq_getElem?_getD, List.getElem?_append_left (by omega)]
    have top : rd (chainOf ah n y ++ [x]) (n : Int) = x := by
      unfold rd
      rw [List.getD_eq_getElem?_getD, List.getElem?_append_right (by omega)]
      simp [hl]
    by_cases hjn : j = n
    · subst hjn
      rw [top]
      exact ⟨hx0, fun _ => rfl, fun h => by omega⟩
    · rw [low j (by omega)]
      obtain ⟨a, b, c⟩ := ih j (by omega)
      refine ⟨a, fun h => by omega, fun _ => ?_⟩
      by_cases hj1 : j + 1 = n
      · rw [show (j : Int) + 1 = (n : Int) by omega, top]
        rw [hy]; exact b hj1
      · rw [show (j : Int) + 1 = ((j + 1 : Nat) : Int) by omega, low (j + 1) (by omega)]
        have := c (by omega)
        rwa [show (j : Int) + 1 = ((j + 1 : Nat) : Int) by omega] at this
theorem longest_len (l : List Int) : (longestOf l).length = (pilesOf l).length := chainOf_length _ _ _
theorem longest_at (l : List Int) (j : Nat) (hj : j < (pilesOf l).length) : rd (longestOf l) j ∈ (pilesOf l).getD j [] ∧ (j + 1 = (pilesOf l).length → rd (longestOf l) j = topAt (pilesOf l) j) ∧
    (j + 1 < (pilesOf l).length → rd (longestOf l) j = rd (playN l l.length).2 (rd (longestOf l) ((j : Int) + 1))) := by
  obtain ⟨a, b, c⟩ := chain_mem (pat l) (pilesOf l).length (topAt (pilesOf l) ((pilesOf l).length - 1)) (fun m hm => by
    rw [hm, show ((m + 1 : Nat) : Int) - 1 = (m : Int) by omega, topAt_eq (by omega)]
    exact rd_last_mem _ ((pat l).nonempty (by omega))) j hj
  exact ⟨a, fun h => (b h).trans (by rw [show ((pilesOf l).length : Int) - 1 = (j : Int) by omega]), c⟩
end Go.Proofs.Ytpekchebllobmaa.G
namespace Go.Proofs.Ytpekchebllobmaa.Pure
open Go.RowKit Go.Proofs.Ytpekchebllobmaa.G Go.Proofs.YtpekchebllobmaaW.PrintWords Go.Proofs.YtpekchebllobmaaW.PrintLast
set_option linter.unusedVariables false
def Ev {α : Type} (f : Nat → Option α) (r : α) : Prop := ∃ k0, ∀ k, k0 ≤ k → f k = some r
theorem Ev.all {α : Type} {f : Nat → Option α} {r : α} (h : ∀ k, f k = some r) : Ev f r := ⟨0, fun k _ => h k⟩
theorem Ev.pure {α : Type} (r : α) : Ev (fun _ => some r) r := .all fun _ => rfl
theorem Ev.of {α : Type} {f : Nat → Option α} {r : α} (m : ∀ k, LeO (f k) (f (k + 1))) {k : Nat} (h : f k = some r) : Ev f r :=
  ⟨k, fun j hj => by
    obtain ⟨d, rfl⟩ : ∃ d, j = k + d := ⟨j - k, by omega⟩
    clear hj
    induction d with
    | zero => exact h
    | succ d ih => exact m _ _ ih⟩
theorem Ev.step {α : Type} {f g : Nat → Option α} {r : α} (hg : Ev g r) (h : ∀ k, f (k + 1) = g k) : Ev f r := by
  obtain ⟨k0, hk⟩ := hg; exact ⟨k0 + 1, fun k hk' => by obtain ⟨m, rfl⟩ : ∃ m, k = m + 1 := ⟨k - 1, by omega⟩; rw [h]; exact hk m (by omega)⟩
theorem Ev.eq {α : Type} {f g : Nat → Option α} {r : α} (hg : Ev g r) (h : ∀ k, f k = g k) : Ev f r := by
  obtain ⟨k0, hk⟩ := hg; exact ⟨k0, fun k hk' => by rw [h]; exact hk k hk'⟩
theorem Ev.bind {α β : Type} {f : Nat → Option α} {g : Nat → α → Option β} {a : α} {r : β} (hf : Ev f a) (hg : Ev (fun k => g k a) r) : Ev (fun k => (f k).bind (g k)) r := by
  obtain ⟨k0, h0⟩ := hf; obtain ⟨k1, h1⟩ := hg; exact ⟨max k0 k1, fun k hk => by show (f k).bind (g k) = some r; rw [h0 k (by omega)]; exact h1 k (by omega)⟩
theorem Ev.via {α β : Type} {f : Nat → Option α} {g F : Nat → Option β} {a : α} {r : β} (hf : Ev f a) (hg : Ev g r) (h : ∀ k, f k = some a → F (k + 1) = g k) : Ev F r := by
  obtain ⟨k0, h0⟩ := hf; obtain ⟨k1, h1⟩ := hg; exact ⟨max k0 k1 + 1, fun k hk => by obtain ⟨m, rfl⟩ : ∃ m, k = m + 1 := ⟨k - 1, by omega⟩; rw [h m (h0 m (by omega))]; exact h1 m (by omega)⟩
theorem Ev.ex {α : Type} {f : Nat → Option α} {r : α} (h : Ev f r) : ∃ k, f k = some r := by
  obtain ⟨k0, hk⟩ := h; exact ⟨k0, hk k0 (Nat.le_refl _)⟩
theorem Ev.uniq {α : Type} {f : Nat → Option α} {r s : α} (h : Ev f r) (h' : Ev f s) : r = s := by
  obtain ⟨k0, h0⟩ := h; obtain ⟨k1, h1⟩ := h'; have := (h0 (max k0 k1) (by omega)).symm.trans (h1 (max k0 k1) (by omega)); injection this
theorem w1 {i : Int} (h0 : -1000000000000000000 ≤ i) (h : i ≤ 1000000000000000000) : wrap64 (i + 1) = i + 1 := by unfold wrap64; omega
theorem wm {i : Int} (h0 : -1000000000000000000 ≤ i) (h : i ≤ 1000000000000000000) : wrap64 (i - 1) = i - 1 := by unfold wrap64; omega
theorem ww {i : Int} (h0 : -9000000000000000000 ≤ i) (h : i ≤ 9000000000000000000) : wrap64 i = i := by unfold wrap64; omega
theorem same_ev : Ev (fun k => lw_same.f k) true := Ev.of (fun k => lw_same.mono k) (k := 40) (by decide +kernel)
theorem rdT (l : List S50) (i : Nat) (h : i < l.length) : rd_T50 l (i : Int) = l[i] := by
  unfold rd_T50; rw [List.getD_eq_getElem?_getD, Int.toNat_natCast, List.getElem?_eq_getElem h]; rfl
theorem drp50 (xs : List S50) (n : Nat) (hn : n < xs.length) : xs.drop n = rd_T50 xs n :: xs.drop (n + 1) := by
  rw [rdT xs n hn, List.drop_eq_getElem_cons hn]
theorem eq3 (x y : S50) : ((x.f0.toList == y.f0.toList && (x.f1.toList == y.f1.toList && (x.f2 == y.f2))) = true) ↔ x = y := labEq_iff x y
theorem ne3 (x y : S50) : ((!(x.f0.toList == y.f0.toList) || (!(x.f1.toList == y.f1.toList) || (!(x.f2 == y.f2)))) = true) ↔ x ≠ y := by
  have h := eq3 x y; revert h; cases x.f0.toList == y.f0.toList <;> cases x.f1.toList == y.f1.toList <;> cases x.f2 == y.f2 <;> simp <;> (intro h; first | exact h | (rw [← h]) | skip)
/-- The first place, as_ a number. -/
def toZ : Option Nat → Int
  | none => -1
  | some n => (n : Int)
theorem find_l0 (l : List S50) (hl : l.length ≤ 1000000) (y : S50) (d : Nat) : ∀ i : Nat, i + d = l.length → Ev (fun k => r12_Find.l0 k l l.length i y.f0 y.f1 y.f2) (toZ ((fnd (l.drop i) y).map (· + i))) := by
  induction d with
  | zero =>
    intro i hi; rw [List.drop_eq_nil_of_le (by omega)]; exact (Ev.pure _).step (fun k => by rw [r12_Find.l0, if_neg (by omega)]; rfl)
  | succ d ih =>
    intro i hi; rw [drp50 l i (by omega), fnd]
    have c1 : (i : Int) < (l.length : Int) := by omega
    by_cases c : labEq (rd_T50 l i) y = true
    · rw [if_pos c]
      refine (Ev.pure _).step (fun k => ?_); rw [r12_Find.l0, if_pos c1, if_pos (by omega), if_pos c1]; exact (if_pos c).trans (by simp [toZ])
    · rw [if_neg c]
      have h := ih (i + 1) (by omega)
      have e : ((fnd (l.drop (i + 1)) y).map (· + 1)).map (· + i) = (fnd (l.drop (i + 1)) y).map (· + (i + 1)) := by
        cases fnd (l.drop (i + 1)) y with
        | none => rfl
        | some n => simp only [Option.map_some]; congr 1; omega
      rw [e]
      refine h.step (fun k => ?_)
      rw [r12_Find.l0, if_pos c1, if_pos (by omega), if_pos c1]
      refine (if_neg c).trans ?_
      rw [w1 (by omega) (by omega)]
      rfl
theorem find_ev (l : List S50) (hl : l.length ≤ 1000000) (y : S50) : Ev (fun k => r12_Find.f k l y.f0 y.f1 y.f2) (toZ (fnd l y)) := by
  have := find_l0 l hl y l.length 0 (by omega)
  have e : (fnd (l.drop 0) y).map (· + 0) = fnd l y := by rw [List.drop_zero]; cases fnd l y <;> rfl
  rw [e] at this; exact this
theorem fnd_get : ∀ (l : List S50) (y : S50) (n : Nat), fnd l y = some n → ∃ h : n < l.length, l[n] = y
  | [], y, n, h => by cases h
  | x :: xs, y, n, h => by
    rw [fnd] at h
    split at h
    · rename_i c
      obtain rfl := Option.some.inj h
      exact ⟨by simp, (labEq_iff _ _).1 c⟩
    · cases hf : fnd xs y with
      | none => rw [hf] at h; cases h
      | some m =>
        rw [hf] at h
        obtain rfl := Option.some.inj h
        obtain ⟨h1, h2⟩ := fnd_get xs y m hf
        exact ⟨by simp only [List.length_cons]; omega, by simpa using h2⟩
theorem fnd_none : ∀ (l : List S50) (y : S50), fnd l y = none ↔ y ∉ l
  | [], y => by simp [fnd]
  | x :: xs, y => by
    rw [fnd]
    by_cases c : labEq x y = true
    · rw [if_pos c]
      have := (labEq_iff _ _).1 c
      simp [this]
    · rw [if_neg c]
      have hne : y ≠ x := fun e => c ((labEq_iff _ _).2 e.symm)
      have := fnd_none xs y
      simp only [Option.map_eq_none_iff, List.mem_cons, not_or]
      rw [this]
      exact ⟨fun h => ⟨hne, h⟩, fun h => h.2⟩
theorem fnd_nodup : ∀ (l : List S50), l.Nodup → ∀ (n : Nat) (h : n < l.length), fnd l l[n] = some n
  | [], _, n, h => by simp at h
  | x :: xs, hd, n, h => by
    rw [List.nodup_cons] at hd
    cases n with
    | zero =>
      have e : (x :: xs)[0] = x := rfl
      rw [e, fnd, if_pos ((labEq_iff _ _).2 rfl)]
    | succ n =>
      have hn : n < xs.length := by simp only [List.length_cons] at h; omega
      have hm : xs[n] ∈ xs := List.getElem_mem hn
      have e : (x :: xs)[n + 1] = xs[n] := rfl
      rw [e, fnd, if_neg (fun c => hd.1 (by rw [(labEq_iff _ _).1 c]; exact hm)), fnd_nodup xs hd.2 n hn]
      rfl
/-- No label twice. -/
theorem twiceN_nodup (l : List S50) : ∀ n, n ≤ l.length → (twiceN l n = false ↔ (l.take n).Nodup) := by
  intro n
  induction n with
  | zero => intro _; simp [twiceN]
  | succ n ih =>
    intro hn; have h1 := ih (by omega); rw [twiceN, Bool.or_eq_false_iff, h1, List.take_add_one, List.getElem?_eq_getElem (by omega), rdT l n (by omega)]
    have e : (fnd (l.take n) l[n]).isSome = false ↔ l[n] ∉ l.take n := by
      rw [← fnd_none]; cases fnd (l.take n) l[n] <;> simp
    rw [e]; simp only [Option.toList_some]; rw [List.nodup_append]; constructor; (rintro ⟨a, b⟩; refine ⟨a, by simp, fun x hx y hy => ?_⟩; rw [List.mem_singleton] at hy; rintro rfl; rw [hy] at hx; exact b hx); (rintro ⟨a, _, c⟩; exact ⟨a, fun h => c _ h _ (by simp) rfl⟩)
theorem twice_nodup (l : List S50) : twiceN l l.length = false ↔ l.Nodup := by
  have := twiceN_nodup l l.length (Nat.le_refl _); rwa [List.take_length] at this
theorem twice_l0 (l : List S50) (hl : l.length ≤ 1000000) (d : Nat) : ∀ i : Nat, i + d = l.length → twiceN l i = false → Ev (fun k => r32_Twice.l0 k l l.length i) (twiceN l l.length) := by
  induction d with
  | zero =>
    intro i hi ht; rw [show l.length = i by omega, ht]; exact (Ev.pure _).step (fun k => by rw [r32_Twice.l0, if_neg (by omega)])
  | succ d ih =>
    intro i hi ht
    have c1 : (i : Int) < (l.length : Int) := by omega
    have hf := find_ev l hl (rd_T50 l i); have hnd := (twiceN_nodup l i (by omega)).1 ht
    by_cases c : l[i]'(by omega) ∈ l.take i
    · have hne : toZ (fnd l (rd_T50 l i)) ≠ (i : Int) := by
        rw [rdT l i (by omega)]
        cases hq : fnd l l[i] with
        | none => simp only [toZ]; omega
        | some m =>
          simp only [toZ]; intro e
          have e : m = i := by omega
          subst e; obtain ⟨j, hj, hje⟩ := List.getElem_of_mem c
          have hjm : j < m := by rw [List.length_take] at hj; omega
          -- the first place is no later than j
          have key : ∀ (xs : List S50) (y : S50) (n j : Nat) (h : j < xs.length), fnd xs y = some n → xs[j] = y → n ≤ j := by
            intro xs
            induction xs with
            | nil => intro y n j h; simp at h
            | cons x xs ihx =>
              intro y n j h hf2 hj2; rw [fnd] at hf2; split at hf2; (obtain rfl := Option.some.inj hf2; omega)
              · rename_i cc
                cases hg : fnd xs y with
                | none => rw [hg] at hf2; cases hf2
                | some q =>
                  rw [hg] at hf2; obtain rfl := Option.some.inj hf2
                  cases j with
                  | zero => exact absurd ((labEq_iff _ _).2 hj2) cc
                  | succ j =>
                    have := ihx y q j (by simpa using h) hg (by simpa using hj2); simp only []; omega
          have := key l l[m] m j (by omega) hq (by rw [← hje, List.getElem_take]); omega
      have ht2 : twiceN l l.length = true := by
        rw [← Bool.not_eq_false, twice_nodup]; intro hn; have := fnd_nodup l hn i (by omega); rw [rdT l i (by omega), this] at hne; exact hne rfl
      rw [ht2]
      exact hf.via (Ev.pure true) (fun k hk => by rw [r32_Twice.l0, if_pos c1, if_pos (by omega), if_pos c1, hk, Option.bind_some, if_neg hne])
    · have hs : twiceN l (i + 1) = false := by
        rw [twiceN, ht, Bool.false_or, rdT l i (by omega)]
        rw [(fnd_none _ _).2 c]
        rfl
      have heq : toZ (fnd l (rd_T50 l i)) = (i : Int) := by
        have hn2 := (twiceN_nodup l (i + 1) (by omega)).1 hs
        have key : ∀ (xs : List S50) (y : S50) (n : Nat), fnd (xs.take n) y = some (n - 1) → 0 < n → fnd xs y = some (n - 1) := by
          intro xs
          induction xs with
          | nil => intro y n h hp; simp [fnd] at h
          | cons x xs ihx =>
            intro y n h hp; obtain ⟨n, rfl⟩ : ∃ m, n = m + 1 := ⟨n - 1, by omega⟩; rw [List.take_succ_cons, fnd] at h; rw [fnd]; split at h
            · rename_i cc; rw [if_pos cc]; exact h
            · rename_i cc
              rw [if_neg cc]
              cases hg : fnd (xs.take n) y with
              | none => rw [hg] at h; cases h
              | some q =>
                rw [hg] at h; have hq := Option.some.inj h; simp only [] at hq; have := ihx y n (by rw [hg]; congr 1; omega) (by omega); rw [this]; simp only [Option.map_some]; congr 1; omega
        have h1 := fnd_nodup (l.take (i + 1)) hn2 i (by rw [List.length_take]; omega); rw [List.getElem_take] at h1; have := key l l[i] (i + 1) (by simpa using h1) (by omega); rw [rdT l i (by omega), this]; rfl
      exact hf.via (ih (i + 1) (by omega) hs) (fun k hk => by rw [r32_Twice.l0, if_pos c1, if_pos (by omega), if_pos c1, hk, Option.bind_some, if_pos heq, w1 (by omega) (by omega)]; rfl)
theorem twice_ev (l : List S50) (hl : l.length ≤ 1000000) : Ev (fun k => r32_Twice.f k l) (twiceN l l.length) := twice_l0 l hl l.length 0 (by omega) rfl
theorem heavy_l0 (l : List S50) (hl : l.length * 40 ≤ 140737488351232) (hs : ∀ y ∈ l, Sm50 y) (d : Nat) : ∀ i : Nat, i + d = l.length → ∃ b, Ev (fun k => lw_heavy.l0 k l l.length i) b ∧ (b = false → l.length ≤ 100 ∧ ∀ j (h : j < l.length), i ≤ j → l[j].f0.size ≤ 500 ∧ l[j].f1.size ≤ 500) := by
  induction d with
  | zero =>
    intro i hi; refine ⟨decide ((l.length : Int) > 100), (Ev.pure _).step (fun k => by rw [lw_heavy.l0, if_neg (by omega)]), fun h => ?_⟩; have := of_decide_eq_false h; exact ⟨by omega, fun j h1 h2 => by omega⟩
  | succ d ih =>
    intro i hi
    have c1 : (i : Int) < (l.length : Int) := by omega
    have hm := hs _ (List.getElem_mem (show i < l.length by omega)); have m0 := hm.h0; have m1 := hm.h1
    have hw : wrap64 ((((rd_T50 l i).f0).size : Int) + (((rd_T50 l i).f1).size : Int)) = (l[i].f0.size : Int) + (l[i].f1.size : Int) := by
      rw [rdT l i (by omega)]; exact ww (by omega) (by omega)
    by_cases c : (l[i].f0.size : Int) + (l[i].f1.size : Int) > 500
    · exact ⟨true, (Ev.pure _).step (fun k => by rw [lw_heavy.l0, if_pos c1, if_pos (by omega), if_pos c1, hw, if_pos c]), by simp⟩
    · obtain ⟨b, hb, hbi⟩ := ih (i + 1) (by omega)
      refine ⟨b, hb.step (fun k => by rw [lw_heavy.l0, if_pos c1, if_pos (by omega), if_pos c1, hw, if_neg c, w1 (by omega) (by omega)]; rfl), fun h => ⟨(hbi h).1, fun j hj h2 => ?_⟩⟩
      rcases Nat.eq_or_lt_of_le h2 with rfl | h3
      · omega
      · exact (hbi h).2 j hj (by omega)
theorem heavy_ev (l : List S50) (hl : l.length * 40 ≤ 140737488351232) (hs : ∀ y ∈ l, Sm50 y) : ∃ b, Ev (fun k => lw_heavy.f k l) b ∧ (b = false → l.length ≤ 100 ∧ l.all fitB = true) := by
  obtain ⟨b, hb, hbi⟩ := heavy_l0 l hl hs l.length 0 (by omega); refine ⟨b, hb, fun h => ⟨(hbi h).1, List.all_eq_true.2 (fun x hx => ?_)⟩⟩; obtain ⟨j, hj, rfl⟩ := List.getElem_of_mem hx; have := (hbi h).2 j hj (by omega); rw [fitB_iff]; unfold Fit; omega
theorem mn_lt (x a b : Int) : x < mn a b ↔ x < a ∧ x < b := by unfold mn; split <;> omega
theorem rd_drop50 (a : List S50) (f p : Nat) (h : p < a.length) (hf : f ≤ p) : rd_T50 (a.drop f) ((p - f : Nat) : Int) = rd_T50 a (p : Int) := by
  rw [rdT a p h, rdT (a.drop f) (p - f) (by rw [List.length_drop]; omega), List.getElem_drop]
  congr 1
  omega
/-- How much the ends of two lists share. -/
structure Ends (a b : List S50) (f g : Nat) : Prop where
  la : f + g ≤ a.length
  lb : f + g ≤ b.length
  front : ∀ i : Nat, i < f → rd_T50 a i = rd_T50 b i
  back : ∀ i : Nat, i < g → rd_T50 a ((a.length - 1 - i : Nat) : Int) = rd_T50 b ((b.length - 1 - i : Nat) : Int)
theorem trim_l1 (a b : List S50) (hla : a.length ≤ 1000000) (hlb : b.length ≤ 1000000) (f : Nat) (hf : ∀ i : Nat, i < f → rd_T50 a i = rd_T50 b i) (d : Nat) : ∀ g : Nat, a.length - f - g = d → f + g ≤ a.length → f + g ≤ b.length →
    (∀ i : Nat, i < g → rd_T50 a ((a.length - 1 - i : Nat) : Int) = rd_T50 b ((b.length - 1 - i : Nat) : Int)) →
    ∃ r : Nat, Ev (fun k => kids_Trim.l1 k (a.drop f) (b.drop f) f g) ((f : Int), (r : Int)) ∧ Ev (fun k => r32_Trim.l1 k a b f g) ((f : Int), (r : Int)) ∧ Ends a b f r := by
  induction d with
  | zero =>
    intro g hd h1 h2 hb; refine ⟨g, (Ev.pure _).step (fun k => ?_), (Ev.pure _).step (fun k => ?_), ⟨h1, h2, hf, hb⟩⟩; (rw [kids_Trim.l1, if_neg (by rw [mn_lt, List.length_drop, List.length_drop]; omega)]); (rw [r32_Trim.l1, ww (i := (f : Int) + g) (by omega) (by omega), if_neg (by omega)])
  | succ d ih =>
    intro g hd h1 h2 hb; have wfg : wrap64 ((f : Int) + (g : Int)) = (f : Int) + g := ww (by omega) (by omega)
    by_cases c : f + g < b.length
    · obtain ⟨p, hp⟩ : ∃ p, p + 1 + g = a.length := ⟨a.length - 1 - g, by omega⟩
      obtain ⟨q, hq⟩ : ∃ q, q + 1 + g = b.length := ⟨b.length - 1 - g, by omega⟩
      have wa : wrap64 (wrap64 ((a.length : Int) - 1) - (g : Int)) = (p : Int) := by rw [ww (i := (a.length : Int) - 1) (by omega) (by omega), ww (by omega) (by omega)]; omega
      have wb : wrap64 (wrap64 ((b.length : Int) - 1) - (g : Int)) = (q : Int) := by rw [ww (i := (b.length : Int) - 1) (by omega) (by omega), ww (by omega) (by omega)]; omega
      have wa' : wrap64 (wrap64 (((a.drop f).length : Int) - 1) - (g : Int)) = ((p - f : Nat) : Int) := by rw [List.length_drop, ww (i := ((a.length - f : Nat) : Int) - 1) (by omega) (by omega), ww (by omega) (by omega)]; omega
      have wb' : wrap64 (wrap64 (((b.drop f).length : Int) - 1) - (g : Int)) = ((q - f : Nat) : Int) := by rw [List.length_drop, ww (i := ((b.length - f : Nat) : Int) - 1) (by omega) (by omega), ww (by omega) (by omega)]; omega
      have ra := rd_drop50 a f p (by omega) (by omega)
      have rb := rd_drop50 b f q (by omega) (by omega)
      have m1 : (g : Int) < mn ((a.drop f).length : Int) ((b.drop f).length : Int) := by rw [mn_lt, List.length_drop, List.length_drop]; omega
      have m2 : ((p - f : Nat) : Int) < ((a.drop f).length : Int) := by rw [List.length_drop]; omega
      have m3 : ((q - f : Nat) : Int) < ((b.drop f).length : Int) := by rw [List.length_drop]; omega
      by_cases e : rd_T50 a p = rd_T50 b q
      · obtain ⟨r, r1, r2, r3⟩ := ih (g + 1) (by omega) (by omega) (by omega) (fun i hi => by
          rcases Nat.lt_or_ge i g with h | h
          · exact hb i h
          · obtain rfl : i = g := by omega
            rw [show a.length - 1 - i = p by omega, show b.length - 1 - i = q by omega]
            exact e)
        refine ⟨r, r1.step (fun k => ?_), r2.step (fun k => ?_), r3⟩
        · rw [kids_Trim.l1, if_pos m1, wa', wb', if_pos (by omega), if_pos m2, if_pos (by omega), if_pos m3, ra, rb]
          refine (if_neg (fun h => (ne3 _ _).1 h e)).trans ?_
          rw [w1 (by omega) (by omega)]
          rfl
        · rw [r32_Trim.l1, wfg, if_pos (by omega), if_pos (by omega), wa, wb, if_pos (by omega), if_pos (by omega), if_pos (by omega), if_pos (by omega)]
          refine (if_pos ((eq3 _ _).2 e)).trans ?_
          rw [w1 (by omega) (by omega)]
          rfl
      · refine ⟨g, (Ev.pure _).step (fun k => ?_), (Ev.pure _).step (fun k => ?_), ⟨h1, h2, hf, hb⟩⟩
        · rw [kids_Trim.l1, if_pos m1, wa', wb', if_pos (by omega), if_pos m2, if_pos (by omega), if_pos m3, ra, rb]
          exact if_pos ((ne3 _ _).2 e)
        · rw [r32_Trim.l1, wfg, if_pos (by omega), if_pos (by omega), wa, wb, if_pos (by omega), if_pos (by omega), if_pos (by omega), if_pos (by omega)]
          exact if_neg (fun h => e ((eq3 _ _).1 h))
    · refine ⟨g, (Ev.pure _).step (fun k => ?_), (Ev.pure _).step (fun k => ?_), ⟨h1, h2, hf, hb⟩⟩
      · rw [kids_Trim.l1, if_neg (by rw [mn_lt, List.length_drop, List.length_drop]; omega)]
      · rw [r32_Trim.l1, wfg, if_pos (by omega), if_neg (by omega)]
theorem trim_l0 (a b : List S50) (hla : a.length ≤ 1000000) (hlb : b.length ≤ 1000000) (d : Nat) : ∀ f : Nat, a.length - f = d → f ≤ a.length → f ≤ b.length → (∀ i : Nat, i < f → rd_T50 a i = rd_T50 b i) →
    ∃ f' g : Nat, Ev (fun k => kids_Trim.l0 k a b f) ((f' : Int), (g : Int)) ∧ Ev (fun k => r32_Trim.l0 k a b f) ((f' : Int), (g : Int)) ∧ Ends a b f' g := by
  have stop : ∀ f : Nat, f ≤ a.length → f ≤ b.length → (∀ i : Nat, i < f → rd_T50 a i = rd_T50 b i) → ∃ g : Nat, Ev (fun k => kids_Trim.j1 k a b f) ((f : Int), (g : Int)) ∧ Ev (fun k => r32_Trim.j1 k a b f) ((f : Int), (g : Int)) ∧ Ends a b f g := by
    intro f h1 h2 hf; obtain ⟨r, r1, r2, r3⟩ := trim_l1 a b hla hlb f hf _ 0 rfl h1 h2 (fun i hi => by omega); refine ⟨r, r1.step (fun k => ?_), r2.step (fun k => by rw [r32_Trim.j1]; rfl), r3⟩; rw [kids_Trim.j1, if_pos (by omega), if_pos (by omega), if_pos (by omega), Int.toNat_natCast]; rfl
  induction d with
  | zero =>
    intro f hd h1 h2 hf; obtain ⟨g, g1, g2, g3⟩ := stop f h1 h2 hf; refine ⟨f, g, g1.step (fun k => ?_), g2.step (fun k => ?_), g3⟩; (rw [kids_Trim.l0, if_neg (by rw [mn_lt]; omega)]); (rw [r32_Trim.l0, if_neg (by omega)])
  | succ d ih =>
    intro f hd h1 h2 hf
    by_cases c : f < b.length
    · have m1 : (f : Int) < mn (a.length : Int) (b.length : Int) := by rw [mn_lt]; omega
      by_cases e : rd_T50 a f = rd_T50 b f
      · obtain ⟨f', g, g1, g2, g3⟩ := ih (f + 1) (by omega) (by omega) (by omega) (fun i hi => by
          rcases Nat.lt_or_ge i f with h | h
          · exact hf i h
          · obtain rfl : i = f := by omega
            exact e)
        refine ⟨f', g, g1.step (fun k => ?_), g2.step (fun k => ?_), g3⟩
        · rw [kids_Trim.l0, if_pos m1, if_pos (by omega), if_pos (by omega), if_pos (by omega)]
          refine (if_pos ((eq3 _ _).2 e)).trans ?_
          rw [w1 (by omega) (by omega)]
          rfl
        · rw [r32_Trim.l0, if_pos (by omega), if_pos (by omega), if_pos (by omega)]
          refine (if_pos ((eq3 _ _).2 e)).trans ?_
          rw [w1 (by omega) (by omega)]
          rfl
      · obtain ⟨g, g1, g2, g3⟩ := stop f h1 h2 hf
        refine ⟨f, g, g1.step (fun k => ?_), g2.step (fun k => ?_), g3⟩
        · rw [kids_Trim.l0, if_pos m1, if_pos (by omega), if_pos (by omega), if_pos (by omega)]
          exact if_neg (fun h => e ((eq3 _ _).1 h))
        · rw [r32_Trim.l0, if_pos (by omega), if_pos (by omega), if_pos (by omega)]
          exact if_neg (fun h => e ((eq3 _ _).1 h))
    · obtain ⟨g, g1, g2, g3⟩ := stop f h1 h2 hf
      refine ⟨f, g, g1.step (fun k => ?_), g2.step (fun k => ?_), g3⟩
      · rw [kids_Trim.l0, if_neg (by rw [mn_lt]; omega)]
      · rw [r32_Trim.l0, if_pos (by omega), if_neg (by omega)]
theorem trim_ev (a b : List S50) (hla : a.length ≤ 1000000) (hlb : b.length ≤ 1000000) : ∃ f g : Nat, Ev (fun k => kids_Trim.f k a b) ((f : Int), (g : Int)) ∧ Ev (fun k => r32_Trim.f k a b) ((f : Int), (g : Int)) ∧ Ends a b f g := by
  obtain ⟨f, g, h1, h2, h3⟩ := trim_l0 a b hla hlb a.length 0 (by omega) (by omega) (by omega) (fun i hi => by omega); exact ⟨f, g, h1, h2, h3⟩
def StepOk (l at_ : List Int) (j : Int) : Prop :=
  0 ≤ rd at_ j ∧ rd at_ j < l.length ∧ 0 ≤ rd l (rd at_ j) ∧ (0 < j → rd at_ (j - 1) < rd at_ j ∧ rd l (rd at_ (j - 1)) < rd l (rd at_ j))
/-- An increasing choice. -/
def Choice (l at_ : List Int) : Prop := ∀ j : Int, 0 ≤ j → j < at_.length → StepOk l at_ j
theorem choice_le {l at_ : List Int} (h : Choice l at_) : at_.length ≤ (pilesOf l).length := by
  have hp := playN_pat l l.length (Nat.le_refl _)
  have key : ∀ j : Nat, j < at_.length → ∃ k, j ≤ k ∧ rd at_ j ∈ (pilesOf l).getD k [] := by
    intro j
    induction j with
    | zero =>
      intro hj; obtain ⟨a, b, c, _⟩ := h 0 (by omega) (by omega); obtain ⟨k, hk⟩ := hp.all _ a b c; exact ⟨k, by omega, hk⟩
    | succ j ih =>
      intro hj; obtain ⟨k, hk, hm⟩ := ih (by omega); obtain ⟨a, b, c, d⟩ := h ((j + 1 : Nat) : Int) (by omega) (by omega); obtain ⟨k2, hk2⟩ := hp.all _ a b c
      have e : (((j + 1 : Nat) : Int) - 1) = (j : Int) := by omega
      rw [e] at d; have := hp.cross k k2 _ _ hm hk2 (d (by omega)).1 (d (by omega)).2; exact ⟨k2, by omega, hk2⟩
  rcases Nat.eq_zero_or_pos at_.length with h0 | h0
  (omega); (obtain ⟨k, hk, hm⟩ := key (at_.length - 1) (by omega); have := mem_lt hm; omega)
theorem longest_choice (l : List Int) : Choice l (longestOf l) := by
  intro j h0 hj; obtain ⟨n, rfl⟩ := Int.eq_ofNat_of_zero_le h0; rw [longest_len] at hj; obtain ⟨a1, a2, a3⟩ := longest_at l n (by omega); have hr := (pat l).range a1; refine ⟨hr.1, by omega, (pat l).pos _ _ a1, fun hp => ?_⟩; obtain ⟨n, rfl⟩ : ∃ m, n = m + 1 := ⟨n - 1, by omega⟩; obtain ⟨b1, b2, b3⟩ := longest_at l n (by omega); have e := b3 (by omega); rw [show (n : Int) + 1 = ((n + 1 : Nat) : Int) by omega] at e; obtain ⟨c1, c2, c3, c4⟩ := (pat l).back n _ a1; rw [show ((n + 1 : Nat) : Int) - 1 = (n : Int) by omega, e]; exact ⟨c2, c3⟩
/-- A label of b that stands right already: behind a place, or one that stays. -/
def Pi (b : List S50) (S : Nat → Bool) (i : Nat) (x : S50) : Bool :=
  match fnd b x with
  | some j => decide (i ≤ j) || S j
  | none => false
theorem split_uniq {α : Type} {c : α} : ∀ {X X' Y Y' : List α}, c ∉ X → c ∉ X' → X ++ c :: Y = X' ++ c :: Y' → X = X' ∧ Y = Y'
  | [], [], Y, Y', _, _, h => by injection h with _ h; exact ⟨rfl, h⟩
  | [], x :: X', Y, Y', _, h2, h => by injection h with h _; exact absurd (by rw [h]; simp) h2
  | x :: X, [], Y, Y', h1, _, h => by injection h with h _; exact absurd (by rw [h]; simp) h1
  | x :: X, x' :: X', Y, Y', h1, h2, h => by
    injection h with h h3
    obtain ⟨e1, e2⟩ := split_uniq (fun m => h1 (by simp [m])) (fun m => h2 (by simp [m])) h3
    exact ⟨by rw [h, e1], e2⟩
theorem sorted_uniq (key : S50 → Nat) : ∀ (X Y : List S50), X.Pairwise (fun x y => key x < key y) → Y.Pairwise (fun x y => key x < key y) → (∀ x, x ∈ X ↔ x ∈ Y) → X = Y
  | [], [], _, _, _ => rfl
  | [], y :: Y, _, _, h => by have := (h y).2 (by simp); cases this
  | x :: X, [], _, _, h => by have := (h x).1 (by simp); cases this
  | x :: X, y :: Y, hx, hy, h => by
    rw [List.pairwise_cons] at hx hy
    have e : x = y := by
      have h1 := (h x).1 (by simp)
      have h2 := (h y).2 (by simp)
      rcases List.mem_cons.1 h1 with h1 | h1
      · exact h1
      · rcases List.mem_cons.1 h2 with h2 | h2
        · exact h2.symm
        · have a := hy.1 x h1
          have b := hx.1 y h2
          omega
    subst e
    rw [sorted_uniq key X Y hx.2 hy.2 (fun z => ?_)]
    constructor
    · intro hz
      rcases List.mem_cons.1 ((h z).1 (by simp [hz])) with rfl | h1
      · have := hx.1 z hz; omega
      · exact h1
    · intro hz
      rcases List.mem_cons.1 ((h z).2 (by simp [hz])) with rfl | h1
      · have := hy.1 z hz; omega
      · exact h1
theorem Pi_get {b : List S50} (hb : b.Nodup) (S : Nat → Bool) (i j : Nat) (hj : j < b.length) : Pi b S i b[j] = (decide (i ≤ j) || S j) := by
  unfold Pi; rw [fnd_nodup b hb j hj]
theorem Pi_mem {b : List S50} {S : Nat → Bool} {i : Nat} {x : S50} (h : Pi b S i x = true) : ∃ j, ∃ hj : j < b.length, b[j] = x ∧ (i ≤ j ∨ S j = true) := by
  unfold Pi at h
  cases hf : fnd b x with
  | none => rw [hf] at h; cases h
  | some j =>
    rw [hf] at h; obtain ⟨h1, h2⟩ := fnd_get b x j hf; simp only [Bool.or_eq_true, decide_eq_true_eq] at h; exact ⟨j, h1, h2, h⟩
theorem Pi_step {b : List S50} {S : Nat → Bool} {i : Nat} (hi : i < b.length) {x : S50} (hx : x ≠ b[i]) : Pi b S i x = Pi b S (i + 1) x := by
  unfold Pi
  cases hf : fnd b x with
  | none => rfl
  | some j =>
    obtain ⟨h1, h2⟩ := fnd_get b x j hf
    have hne : j ≠ i := fun e => hx (by subst e; exact h2.symm)
    simp only []
    congr 1
    rw [decide_eq_decide]; omega
theorem Pi_stay {b : List S50} {S : Nat → Bool} {i : Nat} (hS : S i = true) (x : S50) : Pi b S i x = Pi b S (i + 1) x := by
  unfold Pi
  cases hf : fnd b x with
  | none => rfl
  | some j =>
    simp only []
    by_cases c : j = i
    · subst c; rw [hS]; simp
    · congr 1
      rw [decide_eq_decide]
      omega
/-- What holds when the labels from a place on are done. -/
structure Inv (b : List S50) (S : Nat → Bool) (i : Nat) (l : List S50) : Prop where
  mem : ∀ x ∈ l, x ∈ b
  flt : l.filter (Pi b S i) = b.filter (Pi b S i)
theorem Inv.stay {b : List S50} {S : Nat → Bool} {i : Nat} {l : List S50} (h : Inv b S (i + 1) l) (hS : S i = true) : Inv b S i l := by
  have e : Pi b S i = Pi b S (i + 1) := funext (Pi_stay hS); exact ⟨h.mem, by rw [e]; exact h.flt⟩
theorem Inv.done {b : List S50} {S : Nat → Bool} {l : List S50} (h : Inv b S 0 l) : l = b := by
  have hall : ∀ x ∈ b, Pi b S 0 x = true := fun x hx => by
    unfold Pi
    cases hf : fnd b x with
    | none => exact absurd hx ((fnd_none b x).1 hf)
    | some j => simp
  have h1 := h.flt; rw [List.filter_eq_self.2 hall, List.filter_eq_self.2 (fun x hx => hall x (h.mem x hx))] at h1; exact h1
/-- A list without one label. -/
def without (l : List S50) (y : S50) : List S50 := l.filter (fun x => !labEq x y)
theorem mem_without {l : List S50} {y x : S50} : x ∈ without l y ↔ x ∈ l ∧ x ≠ y := by
  unfold without; rw [List.mem_filter]; simp only [Bool.not_eq_true']; constructor; (rintro ⟨a, b⟩; exact ⟨a, fun e => by rw [(labEq_iff x y).2 e] at b; cases b⟩); (rintro ⟨a, b⟩; exact ⟨a, by rw [← Bool.not_eq_true]; exact fun e => b ((labEq_iff x y).1 e)⟩)
theorem Inv.rest {b : List S50} (hb : b.Nodup) {S : Nat → Bool} {i : Nat} (hi : i < b.length) {l : List S50} (h : Inv b S (i + 1) l) (hS : S i = false) :
    (without l b[i]).filter (Pi b S i) = (b.take i).filter (Pi b S i) ++ b.drop (i + 1) ∧ b.filter (Pi b S i) = (b.take i).filter (Pi b S i) ++ b[i] :: b.drop (i + 1) := by
  have hdr : (b.drop (i + 1)).filter (Pi b S (i + 1)) = b.drop (i + 1) := List.filter_eq_self.2 (fun x hx => by
    obtain ⟨j, hj, rfl⟩ := List.getElem_of_mem hx; rw [List.getElem_drop, Pi_get hb]
    simp)
  have hdr2 : (b.drop (i + 1)).filter (Pi b S i) = b.drop (i + 1) := List.filter_eq_self.2 (fun x hx => by
    obtain ⟨j, hj, rfl⟩ := List.getElem_of_mem hx; rw [List.getElem_drop, Pi_get hb]
    simp; omega)
  have hbi : Pi b S i b[i] = true := by rw [Pi_get hb]; simp
  have hbi2 : Pi b S (i + 1) b[i] = false := by rw [Pi_get hb, hS]; simp
  have hsplit : b = b.take i ++ b[i] :: b.drop (i + 1) := by rw [← List.drop_eq_getElem_cons hi, List.take_append_drop]
  have htk : ∀ x ∈ b.take i, x ≠ b[i] := fun x hx e => by
    have hb2 := hb; rw [hsplit, List.nodup_append] at hb2; exact hb2.2.2 x hx b[i] List.mem_cons_self e
  have htf : (b.take i).filter (Pi b S (i + 1)) = (b.take i).filter (Pi b S i) := List.filter_congr (fun x hx => (Pi_step hi (htk x hx)).symm); constructor
  · have e1 : (without l b[i]).filter (Pi b S i) = l.filter (Pi b S (i + 1)) := by
      unfold without
      rw [List.filter_filter]
      refine List.filter_congr (fun x hx => ?_)
      by_cases c : x = b[i]
      · rw [c, hbi2, (labEq_iff _ _).2 rfl]; simp
      · rw [Pi_step hi c]
        have : labEq x b[i] = false := by rw [← Bool.not_eq_true]; exact fun e => c ((labEq_iff _ _).1 e)
        rw [this]; simp
    rw [e1, h.flt]
    have e2 : b.filter (Pi b S (i + 1)) = (b.take i ++ b[i] :: b.drop (i + 1)).filter (Pi b S (i + 1)) := congrArg (List.filter (Pi b S (i + 1))) hsplit
    rw [e2, List.filter_append, List.filter_cons, hbi2]
    simp only [Bool.false_eq_true, if_false]
    rw [htf, hdr]
  · have e2 : b.filter (Pi b S i) = (b.take i ++ b[i] :: b.drop (i + 1)).filter (Pi b S i) := congrArg (List.filter (Pi b S i)) hsplit
    rw [e2, List.filter_append, List.filter_cons, hbi]; simp only [if_true]; rw [hdr2]
theorem fnd_split : ∀ (l : List S50) (y : S50) (t : Nat), fnd l y = some t → y ∉ l.take t ∧ l.drop t = y :: l.drop (t + 1)
  | [], y, t, h => by cases h
  | x :: xs, y, t, h => by
    rw [fnd] at h
    split at h
    · rename_i c
      obtain rfl := Option.some.inj h
      have := (labEq_iff _ _).1 c
      subst this
      exact ⟨by simp, by simp⟩
    · rename_i c
      cases hf : fnd xs y with
      | none => rw [hf] at h; cases h
      | some m =>
        rw [hf] at h
        obtain rfl := Option.some.inj h
        obtain ⟨h1, h2⟩ := fnd_split xs y m hf
        refine ⟨?_, ?_⟩
        · rw [List.take_succ_cons, List.mem_cons, not_or]
          exact ⟨fun e => c ((labEq_iff _ _).2 e.symm), h1⟩
        · simpa using h2
theorem Inv.last {b : List S50} (hb : b.Nodup) {S : Nat → Bool} {i : Nat} (hi : i < b.length) {l : List S50} (h : Inv b S (i + 1) l) (hS : S i = false) (hl : i + 1 = b.length) : Inv b S i (without l b[i] ++ [b[i]]) := by
  obtain ⟨h1, h2⟩ := h.rest hb hi hS; refine ⟨fun x hx => ?_, ?_⟩
  · rcases List.mem_append.1 hx with hx | hx
    · exact h.mem x (mem_without.1 hx).1
    · rw [List.mem_singleton] at hx; rw [hx]; exact List.getElem_mem hi
  · have hbi : Pi b S i b[i] = true := by rw [Pi_get hb]; simp
    rw [List.filter_append, h1, h2, List.drop_eq_nil_of_le (by omega), List.append_nil, List.filter_cons, hbi]
    rfl
theorem Inv.put {b : List S50} (hb : b.Nodup) {S : Nat → Bool} {i : Nat} (hi : i < b.length) {l : List S50} (h : Inv b S (i + 1) l) (hS : S i = false) (hl : i + 1 < b.length) :
    ∃ t, fnd (without l b[i]) b[i + 1] = some t ∧ t ≤ (without l b[i]).length ∧ Inv b S i ((without l b[i]).take t ++ [b[i]] ++ (without l b[i]).drop t) := by
  obtain ⟨h1, h2⟩ := h.rest hb hi hS
  have hbi : Pi b S i b[i] = true := by rw [Pi_get hb]; simp
  have hbc : Pi b S i b[i + 1] = true := by rw [Pi_get hb]; simp
  have hdc : b.drop (i + 1) = b[i + 1] :: b.drop (i + 2) := List.drop_eq_getElem_cons hl
  have hcm : b[i + 1] ∈ without l b[i] := by
    have : b[i + 1] ∈ (without l b[i]).filter (Pi b S i) := by rw [h1, hdc]; exact List.mem_append_right _ List.mem_cons_self
    exact (List.mem_filter.1 this).1
  cases hf : fnd (without l b[i]) b[i + 1] with
  | none => exact absurd hcm ((fnd_none _ _).1 hf)
  | some t =>
    obtain ⟨s1, s2⟩ := fnd_split _ _ _ hf; obtain ⟨tl, _⟩ := fnd_get _ _ _ hf; refine ⟨t, rfl, by omega, fun x hx => ?_, ?_⟩
    · rw [List.append_assoc] at hx
      rcases List.mem_append.1 hx with hx | hx
      · exact h.mem x (mem_without.1 (List.mem_of_mem_take hx)).1
      · rcases List.mem_append.1 hx with hx | hx
        · rw [List.mem_singleton] at hx; rw [hx]; exact List.getElem_mem hi
        · exact h.mem x (mem_without.1 (List.mem_of_mem_drop hx)).1
    · have e1 : (without l b[i]).filter (Pi b S i) = ((without l b[i]).take t).filter (Pi b S i) ++ b[i + 1] :: ((without l b[i]).drop (t + 1)).filter (Pi b S i) := by
        conv => lhs; rw [← List.take_append_drop t (without l b[i]), List.filter_append, s2, List.filter_cons, hbc]
        rfl
      rw [h1, hdc] at e1
      have hcn : b[i + 1] ∉ (b.take i).filter (Pi b S i) := fun hm => by
        have hb2 := hb; rw [← List.take_append_drop i b, List.nodup_append] at hb2; exact hb2.2.2 _ (List.mem_filter.1 hm).1 b[i + 1] (by rw [List.drop_eq_getElem_cons hi, hdc]; exact List.mem_cons_of_mem _ List.mem_cons_self) rfl
      obtain ⟨u1, u2⟩ := split_uniq hcn (fun hm => s1 (List.mem_filter.1 hm).1) e1
      rw [List.filter_append, List.filter_append, List.filter_cons, hbi, s2, List.filter_cons, hbc, ← u1, ← u2, h2, hdc]
      simp
/-- At the outset. -/
theorem Inv.start {a b : List S50} (ha : a.Nodup) (hb : b.Nodup) (S : Nat → Bool) (hS : ∀ j (hj : j < b.length), S j = true → b[j] ∈ a) (hm : ∀ j1 j2 (h1 : j1 < b.length) (h2 : j2 < b.length), j1 < j2 → S j1 = true → S j2 = true → (fnd a b[j1]).getD 0 < (fnd a b[j2]).getD 0) :
    Inv b S b.length (a.filter (fun x => (fnd b x).isSome)) := by
  refine ⟨fun x hx => ?_, ?_⟩
  · have := (List.mem_filter.1 hx).2
    cases hf : fnd b x with
    | none => rw [hf] at this; cases this
    | some j => obtain ⟨h1, h2⟩ := fnd_get b x j hf; rw [← h2]; exact List.getElem_mem h1
  · have e : (a.filter (fun x => (fnd b x).isSome)).filter (Pi b S b.length) = a.filter (Pi b S b.length) := by
      rw [List.filter_filter]
      refine List.filter_congr (fun x hx => ?_)
      unfold Pi
      cases fnd b x <;> simp
    rw [e]
    have hQ : ∀ x, Pi b S b.length x = true → ∃ j, ∃ hj : j < b.length, b[j] = x ∧ S j = true := fun x hx => by
      obtain ⟨j, hj, h1, h2⟩ := Pi_mem hx; exact ⟨j, hj, h1, h2.resolve_left (by omega)⟩
    refine sorted_uniq (fun x => (fnd a x).getD 0) _ _ ?_ ?_ (fun x => ?_)
    · rw [List.pairwise_filter, List.pairwise_iff_getElem]
      intro i j h1 h2 h3 _ _
      rw [fnd_nodup a ha i h1, fnd_nodup a ha j h2]
      exact h3
    · rw [List.pairwise_filter, List.pairwise_iff_getElem]
      intro i j h1 h2 h3 h4 h5
      rw [Pi_get hb] at h4 h5
      simp only [Bool.or_eq_true, decide_eq_true_eq] at h4 h5
      exact hm i j h1 h2 h3 (h4.resolve_left (by omega)) (h5.resolve_left (by omega))
    · rw [List.mem_filter, List.mem_filter]
      constructor
      · rintro ⟨_, h2⟩
        obtain ⟨j, hj, h3, h4⟩ := hQ x h2
        exact ⟨by rw [← h3]; exact List.getElem_mem hj, h2⟩
      · rintro ⟨_, h2⟩
        obtain ⟨j, hj, h3, h4⟩ := hQ x h2
        exact ⟨by rw [← h3]; exact hS j hj h4, h2⟩
/-- Where each label of b stood in a. -/
def kp (a b : List S50) (j : Nat) : Int := toZ (fnd a (rd_T50 b j))
theorem fnd_of {a : List S50} (ha : a.Nodup) {y : S50} {u : Nat} (h : u < a.length) (e : a[u] = y) : fnd a y = some u := by rw [← e]; exact fnd_nodup a ha u h
theorem nodup_at {b : List S50} (hb : b.Nodup) {i j : Nat} (hi : i < b.length) (hj : j < b.length) (h : b[i] = b[j]) : i = j := by
  have h1 := fnd_nodup b hb i hi; rw [h, fnd_nodup b hb j hj] at h1; exact (Option.some.inj h1).symm
theorem kept_at {a b : List S50} (ha : a.Nodup) (hb : b.Nodup) {f g : Nat} (E : Ends a b f g) (j : Nat) (hj : j < b.length) : keptAt a b f g j = kp a b j := by
  have la := E.la; have lb := E.lb
  have hfr : ∀ i (h : i < f), a[i]'(by omega) = b[i]'(by omega) := fun i h => by
    have := E.front i h; rwa [rdT a i (by omega), rdT b i (by omega)] at this
  have hbk : ∀ i (h : i < g), a[a.length - 1 - i]'(by omega) = b[b.length - 1 - i]'(by omega) := fun i h => by
    have := E.back i h; rwa [rdT a _ (by omega), rdT b _ (by omega)] at this
  unfold keptAt kp; rw [rdT b j hj]
  by_cases c1 : j < f
  · rw [if_pos c1, fnd_of ha (u := j) (by omega) (hfr j c1)]
    rfl
  · rw [if_neg c1]
    by_cases c2 : b.length - g ≤ j
    · rw [if_pos c2]
      have h1 := hbk (b.length - 1 - j) (by omega)
      have h2 : b[b.length - 1 - (b.length - 1 - j)]'(by omega) = b[j] := by congr 1; omega
      rw [h2] at h1
      rw [fnd_of ha (u := a.length - 1 - (b.length - 1 - j)) (by omega) h1]
      simp only [toZ]
      omega
    · rw [if_neg c2]
      cases hf : fnd ((a.take (a.length - g)).drop f) b[j] with
      | some t =>
        obtain ⟨h1, h2⟩ := fnd_get _ _ _ hf; rw [List.length_drop, List.length_take] at h1; rw [List.getElem_drop, List.getElem_take] at h2; rw [fnd_of ha (u := f + t) (by omega) h2]; rfl
      | none =>
        have hn := (fnd_none _ _).1 hf
        have hna : b[j] ∉ a := fun hm => by
          obtain ⟨u, hu, e⟩ := List.getElem_of_mem hm
          by_cases d1 : u < f
          · have h1 := hfr u d1
            rw [e] at h1; have := nodup_at hb hj (by omega) h1; omega
          · by_cases d2 : a.length - g ≤ u
            · have h1 := hbk (a.length - 1 - u) (by omega)
              have h2 : a[a.length - 1 - (a.length - 1 - u)]'(by omega) = a[u] := by congr 1; omega
              rw [h2, e] at h1
              have := nodup_at hb hj (by omega) h1
              omega
            · refine hn ?_
              rw [← e]
              have h1 : u - f < ((a.take (a.length - g)).drop f).length := by rw [List.length_drop, List.length_take]; omega
              have h2 : ((a.take (a.length - g)).drop f)[u - f] = a[u] := by
                rw [List.getElem_drop, List.getElem_take]
                congr 1
                omega
              rw [← h2]
              exact List.getElem_mem h1
        rw [(fnd_none _ _).2 hna]; rfl
/-- The list of where they stood. -/
def kpL (a b : List S50) : List Int := (List.range b.length).map (kp a b)
theorem keptL_eq {a b : List S50} (ha : a.Nodup) (hb : b.Nodup) {f g : Nat} (E : Ends a b f g) : keptL a b f g = kpL a b := by
  unfold keptL kpL; refine List.map_congr_left (fun j hj => ?_); exact kept_at ha hb E j (List.mem_range.1 hj)
theorem kpL_len (a b : List S50) : (kpL a b).length = b.length := by unfold kpL; rw [List.length_map, List.length_range]
theorem rd_kpL (a b : List S50) (j : Nat) (hj : j < b.length) : rd (kpL a b) (j : Int) = kp a b j := by
  unfold rd kpL; rw [List.getD_eq_getElem?_getD, Int.toNat_natCast, List.getElem?_map, List.getElem?_range hj]; rfl
theorem kp_some {a b : List S50} {j u : Nat} (hj : j < b.length) (h : kp a b j = (u : Int)) : ∃ hu : u < a.length, a[u] = b[j] := by
  unfold kp at h; rw [rdT b j hj] at h
  cases hf : fnd a b[j] with
  | none => rw [hf] at h; simp only [toZ] at h; omega
  | some t =>
    rw [hf] at h; simp only [toZ] at h
    obtain rfl : t = u := by omega
    exact fnd_get _ _ _ hf
theorem kept_ev (a b : List S50) (hla : a.length ≤ 1000000) (hlb : b.length ≤ 1000000) (fa : a.all fitB = true) (fb : b.all fitB = true) (ha : a.Nodup) (hb : b.Nodup) {f g : Nat} (hT : Ev (fun k => kids_Trim.f k a b) ((f : Int), (g : Int))) (E : Ends a b f g) : Ev (fun k => kids_kept.f k a b) (kpL a b) := by
  unfold kids_kept.f; refine Ev.bind hT ?_; have la := E.la; have lb := E.lb; rw [if_pos ⟨hla, hlb, fa, fb, by omega, by omega, by omega, by omega⟩]; simp only [Int.toNat_natCast]; rw [keptL_eq ha hb E]; exact Ev.pure _
theorem rdOf_set (xs : List Bool) (i j : Nat) (v : Bool) (h : i < xs.length) : rdOf false (xs.set i v) (j : Int) = if j = i then v else rdOf false xs (j : Int) := by
  unfold rdOf; simp only [List.getD_eq_getElem?_getD, Int.toNat_natCast]
  by_cases c : j = i
  (subst c; rw [if_pos rfl, List.getElem?_set_self h]; rfl); (rw [if_neg c, List.getElem?_set_ne (fun e => c e.symm)])
theorem drpI (L : List Int) (t : Nat) (h : t < L.length) : L.drop t = rd L t :: L.drop (t + 1) := by
  rw [List.drop_eq_getElem_cons h]; unfold rd; rw [List.getD_eq_getElem?_getD, Int.toNat_natCast, List.getElem?_eq_getElem h]; rfl
theorem stay_l1 (f n : Nat) (hf : f ≤ 1000000) (L : List Int) (hL : L.length ≤ 1000000) (hn : n ≤ 1000000) (hr : ∀ t : Nat, t < L.length → 0 ≤ rd L t ∧ (f : Int) + rd L t < n) (d : Nat) : ∀ (t : Nat) (xs : List Bool), t + d = L.length → xs.length = n →
    ∃ out, Ev (fun k => kids_stay.l1 k f xs L L.length t) out ∧ out.length = n ∧ ∀ j : Nat, rdOf false out (j : Int) = (rdOf false xs (j : Int) || (L.drop t).any (fun x => (f : Int) + x == (j : Int))) := by
  induction d with
  | zero =>
    intro t xs ht hx; refine ⟨xs, (Ev.pure _).step (fun k => by rw [kids_stay.l1, if_neg (by omega)]), hx, fun j => ?_⟩; rw [List.drop_eq_nil_of_le (by omega)]; simp
  | succ d ih =>
    intro t xs ht hx; have h1 := hr t (by omega); obtain ⟨u, hu⟩ := Int.eq_ofNat_of_zero_le (show 0 ≤ (f : Int) + rd L t by omega); obtain ⟨out, o1, o2, o3⟩ := ih (t + 1) (xs.set u true) (by omega) (by rw [List.length_set]; exact hx); refine ⟨out, o1.step (fun k => ?_), o2, fun j => ?_⟩; (rw [kids_stay.l1, if_pos (by omega), if_pos (by omega), if_pos (by omega), ww (i := (f : Int) + rd L t) (by omega) (by omega), hu, if_pos (by omega), if_pos (by omega), Int.toNat_natCast, w1 (by omega) (by omega)]; rfl)
    · rw [o3 j, rdOf_set xs u j true (by omega), drpI L t (by omega), List.any_cons, hu]
      by_cases c : j = u
      · subst c; simp
      · rw [if_neg c]
        have : ((u : Int) == (j : Int)) = false := by simp; omega
        rw [this]
        simp
/-- The middle of where they stood. -/
def midL (a b : List S50) (f g : Nat) : List Int := ((kpL a b).take (b.length - g)).drop f
/-- Which labels stay. -/
def ST (a b : List S50) (f g j : Nat) : Bool := (decide (j < f) || decide (b.length - g ≤ j)) || (longestOf (midL a b f g)).any (fun x => (f : Int) + x == (j : Int))
theorem mid_len (a b : List S50) (f g : Nat) : (midL a b f g).length = b.length - g - f := by
  unfold midL; rw [List.length_drop, List.length_take, kpL_len]; omega
theorem stay_ev (a b : List S50) (hlb : b.length ≤ 1000000) {f g : Nat} (hT : Ev (fun k => kids_Trim.f k a b) ((f : Int), (g : Int))) (E : Ends a b f g) : ∃ out, Ev (fun k => kids_stay.f k a b (kpL a b)) out ∧ out.length = b.length ∧ ∀ j : Nat, j < b.length → rdOf false out (j : Int) = ST a b f g j := by
  have lb := E.lb; have hml := mid_len a b f g; have hch := longest_choice (midL a b f g); have hll := choice_le hch
  have hplen : (longestOf (midL a b f g)).length ≤ 1000000 := by
    rw [longest_len]; have hi := playN_inv (midL a b f g) (midL a b f g).length (Nat.le_refl _); have h2 : (pilesOf (midL a b f g)).length ≤ (midL a b f g).length := hi.psl; omega
  have hr : ∀ t : Nat, t < (longestOf (midL a b f g)).length → 0 ≤ rd (longestOf (midL a b f g)) t ∧ (f : Int) + rd (longestOf (midL a b f g)) t < b.length := fun t ht => by
    obtain ⟨c1, c2, _⟩ := hch t (by omega) (by omega); exact ⟨c1, by omega⟩
  have hw : wrap64 ((b.length : Int) - (g : Int)) = ((b.length - g : Nat) : Int) := by rw [ww (by omega) (by omega)]; omega
  have loop : ∀ (d i : Nat) (xs : List Bool), i + d = b.length → xs.length = b.length → (∀ j : Nat, j < i → rdOf false xs (j : Int) = (decide (j < f) || decide (b.length - g ≤ j))) →
      ∃ out, Ev (fun k => kids_stay.l0 k b (kpL a b) f g xs b.length i) out ∧ out.length = b.length ∧ ∀ j : Nat, j < b.length → rdOf false out (j : Int) = ST a b f g j := by
    intro d
    induction d with
    | zero =>
      intro i xs hi hx hj; obtain ⟨out, o1, o2, o3⟩ := stay_l1 f b.length (by omega) (longestOf (midL a b f g)) hplen hlb hr _ 0 xs (Nat.zero_add _) hx; refine ⟨out, ?_, o2, fun j h => ?_⟩; (have hLi : Ev (fun _ => lis_Longest.f (midL a b f g)) (longestOf (midL a b f g)) := Ev.all (fun k => by rw [lis_Longest.f, if_pos (by omega)]); refine (Ev.bind hLi (g := fun k t => kids_stay.l1 k f xs t t.length 0) o1).step (fun k => ?_); rw [kids_stay.l0, if_neg (by omega), hw, if_pos (by omega), if_pos (by omega), if_pos (by rw [kpL_len]; omega), Int.toNat_natCast, Int.toNat_natCast]; rfl); (rw [o3 j, hj j (by omega), List.drop_zero]; rfl)
    | succ d ih =>
      intro i xs hi hx hj
      have step : ∀ v : Bool, v = (decide (i < f) || decide (b.length - g ≤ i)) → (∀ j : Nat, j < i + 1 → rdOf false (xs.set i v) (j : Int) = (decide (j < f) || decide (b.length - g ≤ j))) := fun v hv j h => by
        rw [rdOf_set xs i j v (by omega)]
        by_cases c : j = i
        (subst c; rw [if_pos rfl, hv]); (rw [if_neg c, hj j (by omega)])
      by_cases c : i < f
      · obtain ⟨out, o1, o2⟩ := ih (i + 1) (xs.set i true) (by omega) (by rw [List.length_set]; exact hx) (step true (by simp [c]))
        refine ⟨out, o1.step (fun k => ?_), o2⟩; rw [kids_stay.l0, if_pos (by omega), if_pos (by omega), if_pos (by omega), if_pos (by omega), Int.toNat_natCast, w1 (by omega) (by omega)]; rfl
      · obtain ⟨out, o1, o2⟩ := ih (i + 1) (xs.set i (decide ((i : Int) ≥ ((b.length - g : Nat) : Int)))) (by omega) (by rw [List.length_set]; exact hx) (step _ (by
          rw [decide_eq_false c, Bool.false_or, decide_eq_decide]; omega))
        refine ⟨out, o1.step (fun k => ?_), o2⟩
        rw [kids_stay.l0, if_pos (by omega), if_neg (by omega), if_pos (by omega), if_pos (by omega), Int.toNat_natCast, hw, w1 (by omega) (by omega)]
        rfl
  obtain ⟨out, o1, o2, o3⟩ := loop b.length 0 (List.replicate b.length false) (by omega) (by rw [List.length_replicate]) (fun j h => by omega); refine ⟨out, ?_, o2, o3⟩; unfold kids_stay.f; refine Ev.bind hT ?_; refine o1.eq (fun k => ?_); rw [if_pos (by omega), if_pos (by omega), Option.bind_some, Int.toNat_natCast, List.length_replicate]; rfl
/-- The steps for the labels ahead of a place, the last one first. -/
def stp (a b : List S50) (S : Nat → Bool) : Nat → List S46
  | 0 => []
  | i + 1 => (if S i = true then [] else [⟨(i : Int), kp a b i, if i + 1 = b.length then -1 else ((i + 1 : Nat) : Int)⟩]) ++ stp a b S i
theorem stp_len (a b : List S50) (S : Nat → Bool) : ∀ i, (stp a b S i).length ≤ i
  | 0 => by simp [stp]
  | i + 1 => by
    have := stp_len a b S i
    rw [stp]
    split
    · simp only [List.nil_append]; omega
    · simp only [List.length_append, List.length_singleton]; omega
theorem of_l2 (a b : List S50) (hlb : b.length ≤ 1000000) (S : Nat → Bool) (st : List Bool) (hst : st.length = b.length) (hS : ∀ j : Nat, j < b.length → rdOf false st (j : Int) = S j) (D : List Int) : ∀ (i : Nat) (acc : List S46), i ≤ b.length → acc.length + i ≤ b.length →
    Ev (fun k => kids_Of.l2 k st (if i = b.length then -1 else (i : Int)) ((i : Int) - 1) (kpL a b) D acc) (kpL a b, D, acc ++ stp a b S i, 0)
  | 0, acc, _, _ => by
    rw [stp, List.append_nil]
    exact (Ev.pure _).step (fun k => by rw [kids_Of.l2, if_neg (by omega)])
  | i + 1, acc, hi, ha => by
    have hk := kpL_len a b
    have hi1 : (((i + 1 : Nat) : Int) - 1) = (i : Int) := by omega
    have hbef : (if i = b.length then (-1 : Int) else (i : Int)) = (i : Int) := if_neg (by omega)
    rw [stp, hi1]
    by_cases c : S i = true
    · have h := of_l2 a b hlb S st hst hS D i acc (by omega) (by omega)
      rw [hbef] at h
      rw [if_pos c, List.nil_append]
      refine h.step (fun k => ?_)
      rw [kids_Of.l2, if_pos (by omega), if_pos (by omega), if_pos (by omega), hS i (by omega), if_pos c, wm (by omega) (by omega)]
    · have h := of_l2 a b hlb S st hst hS D i (acc ++ [⟨(i : Int), kp a b i, if i + 1 = b.length then -1 else ((i + 1 : Nat) : Int)⟩]) (by omega) (by rw [List.length_append, List.length_singleton]; omega)
      rw [hbef] at h
      rw [if_neg c, ← List.append_assoc]
      refine h.step (fun k => ?_)
      rw [kids_Of.l2, if_pos (by omega), if_pos (by omega), if_pos (by omega), hS i (by omega), if_neg c, if_pos (by omega), if_pos (by omega), wm (by omega) (by omega), rd_kpL a b i (by omega)]
/-- What is dropped. -/
def IsDrop (a b : List S50) (D : List Int) : Prop := D.length ≤ a.length ∧ ∀ i : Nat, i < a.length → ((i : Int) ∈ D ↔ fnd b (rd_T50 a i) = none)
theorem of_l1 (a b : List S50) (hla : a.length ≤ 1000000) (met : List Bool) (hm : met.length = a.length) (out : List Int × List Int × List S46 × Int) (hmet : ∀ u : Nat, u < a.length → (rdOf false met (u : Int) = false ↔ fnd b (rd_T50 a u) = none))
    (hk : ∀ D, IsDrop a b D → ∃ out, Ev (fun k => (kids_stay.f k a b (kpL a b)).bind fun t => kids_Of.l2 k t (-1) (wrap64 ((b.length : Int) - 1)) (kpL a b) D []) (kpL a b, D, out, 0)) (d : Nat) :
    ∀ (i : Nat) (D : List Int), i + d = a.length → D.length ≤ i → (∀ u : Nat, u < a.length → ((u : Int) ∈ D ↔ u < i ∧ rdOf false met (u : Int) = false)) → ∃ D' out, IsDrop a b D' ∧ Ev (fun k => kids_Of.l1 k a b met met.length i (kpL a b) D) (kpL a b, D', out, 0) ∧ Ev (fun k => (kids_stay.f k a b (kpL a b)).bind fun t => kids_Of.l2 k t (-1) (wrap64 ((b.length : Int) - 1)) (kpL a b) D' []) (kpL a b, D', out, 0) := by
  induction d with
  | zero =>
    intro i D hi hD hmem; have hd : IsDrop a b D := ⟨by omega, fun u hu => by rw [hmem u hu, ← hmet u hu]; exact ⟨fun h => h.2, fun h => ⟨by omega, h⟩⟩⟩; obtain ⟨o, ho⟩ := hk D hd; exact ⟨D, o, hd, ho.step (fun k => by rw [kids_Of.l1, if_neg (by omega)]), ho⟩
  | succ d ih =>
    intro i D hi hD hmem
    by_cases c : rdOf false met (i : Int) = true
    · obtain ⟨D', o, h1, h2, h3⟩ := ih (i + 1) D (by omega) (by omega) (fun u hu => by
        rw [hmem u hu]
        constructor
        · rintro ⟨p, q⟩; exact ⟨by omega, q⟩
        · rintro ⟨p, q⟩
          refine ⟨?_, q⟩
          rcases Nat.lt_or_ge u i with h | h
          · exact h
          · obtain rfl : u = i := by omega
            rw [c] at q; cases q)
      refine ⟨D', o, h1, h2.step (fun k => ?_), h3⟩
      rw [kids_Of.l1, if_pos (by omega), if_pos (by omega), if_pos (by omega), if_pos c, w1 (by omega) (by omega)]
      rfl
    · obtain ⟨D', o, h1, h2, h3⟩ := ih (i + 1) (D ++ [(i : Int)]) (by omega) (by rw [List.length_append, List.length_singleton]; omega) (fun u hu => by
        rw [List.mem_append, hmem u hu, List.mem_singleton]
        constructor
        · rintro (⟨p, q⟩ | p)
          · exact ⟨by omega, q⟩
          · obtain rfl : u = i := by omega
            exact ⟨by omega, by simpa using c⟩
        · rintro ⟨p, q⟩
          rcases Nat.lt_or_ge u i with h | h
          · exact .inl ⟨h, q⟩
          · exact .inr (by omega))
      refine ⟨D', o, h1, h2.step (fun k => ?_), h3⟩
      rw [kids_Of.l1, if_pos (by omega), if_pos (by omega), if_pos (by omega), if_neg c, if_pos (by omega), w1 (by omega) (by omega)]
      rfl
theorem kp_iff {a b : List S50} (ha : a.Nodup) {u : Nat} (hu : u < a.length) : (∃ j : Nat, j < b.length ∧ kp a b j = (u : Int)) ↔ fnd b (rd_T50 a u) ≠ none := by
  rw [rdT a u hu, Ne, fnd_none, Classical.not_not]; constructor; (rintro ⟨j, hj, h⟩; obtain ⟨_, h2⟩ := kp_some hj h; rw [h2]; exact List.getElem_mem hj); (intro h; obtain ⟨j, hj, e⟩ := List.getElem_of_mem h; refine ⟨j, hj, ?_⟩; unfold kp; rw [rdT b j hj, fnd_of ha hu e.symm]; rfl)
theorem kp_range (a b : List S50) (j : Nat) (hj : j < b.length) : kp a b j = -1 ∨ ∃ u : Nat, u < a.length ∧ kp a b j = (u : Int) := by
  unfold kp
  cases hf : fnd a (rd_T50 b j) with
  | none => exact .inl rfl
  | some t => obtain ⟨h, _⟩ := fnd_get _ _ _ hf; exact .inr ⟨t, h, rfl⟩
theorem of_ev (a b : List S50) (hla : a.length ≤ 1000000) (hlb : b.length ≤ 1000000) (fa : a.all fitB = true) (fb : b.all fitB = true) (ha : a.Nodup) (hb : b.Nodup) {f g : Nat} (hT : Ev (fun k => kids_Trim.f k a b) ((f : Int), (g : Int))) (E : Ends a b f g) :
    ∃ D, IsDrop a b D ∧ Ev (fun k => kids_Of.f k a b) (kpL a b, D, stp a b (ST a b f g) b.length, 0) := by
  obtain ⟨st, s1, s2, s3⟩ := stay_ev a b hlb hT E; have hwb : wrap64 ((b.length : Int) - 1) = (b.length : Int) - 1 := ww (by omega) (by omega)
  have hL2 : ∀ D, Ev (fun k => (kids_stay.f k a b (kpL a b)).bind fun t => kids_Of.l2 k t (-1) (wrap64 ((b.length : Int) - 1)) (kpL a b) D []) (kpL a b, D, stp a b (ST a b f g) b.length, 0) := fun D => by
    have h := of_l2 a b hlb (ST a b f g) st s2 s3 D b.length [] (Nat.le_refl _) (by simp); rw [if_pos rfl, List.nil_append] at h; rw [hwb]; exact Ev.bind s1 h
  have hkl := kpL_len a b
  have loop : ∀ (d i : Nat) (met : List Bool), i + d = b.length → met.length = a.length → (∀ u : Nat, u < a.length → (rdOf false met (u : Int) = true ↔ ∃ j : Nat, j < i ∧ kp a b j = (u : Int))) →
      ∃ D, IsDrop a b D ∧ Ev (fun k => kids_Of.l0 k a b met (kpL a b) b.length i (kpL a b)) (kpL a b, D, stp a b (ST a b f g) b.length, 0) := by
    intro d
    induction d with
    | zero =>
      intro i met hi hm hmet
      obtain ⟨D, o, d1, d2, d3⟩ := of_l1 a b hla met hm ([], [], [], 0) (fun u hu => by
        have h1 := hmet u hu; have h2 := kp_iff (b := b) ha hu; rw [show i = b.length by omega, h2] at h1
        cases hr : rdOf false met (u : Int) with
        | true => rw [hr] at h1; simp only [true_iff] at h1; exact ⟨fun h => (by cases h), fun h => absurd h h1⟩
        | false =>
          rw [hr] at h1; simp only [Bool.false_eq_true, false_iff, ne_eq, Decidable.not_not] at h1
          exact ⟨fun _ => h1, fun _ => rfl⟩) (fun D _ => ⟨_, hL2 D⟩) a.length 0 [] (by omega) (by simp) (fun u hu => by simp)
      obtain rfl : o = stp a b (ST a b f g) b.length := by
        have := Ev.uniq d3 (hL2 D); simp only [Prod.mk.injEq, true_and, and_true] at this; exact this
      refine ⟨D, d1, d2.step (fun k => ?_)⟩; rw [kids_Of.l0, if_neg (by omega)]; rfl
    | succ d ih =>
      intro i met hi hm hmet
      rcases kp_range a b i (by omega) with h | ⟨u, hu, h⟩
      · obtain ⟨D, d1, d2⟩ := ih (i + 1) met (by omega) hm (fun v hv => by
          rw [hmet v hv]
          constructor
          · rintro ⟨j, p, q⟩; exact ⟨j, by omega, q⟩
          · rintro ⟨j, p, q⟩
            refine ⟨j, ?_, q⟩
            rcases Nat.lt_or_ge j i with hj | hj
            · exact hj
            · obtain rfl : j = i := by omega
              rw [h] at q; omega)
        refine ⟨D, d1, d2.step (fun k => ?_)⟩
        rw [kids_Of.l0, if_pos (by omega), if_pos (by omega), if_pos (by omega), rd_kpL a b i (by omega), if_neg (by omega), w1 (by omega) (by omega)]
        rfl
      · obtain ⟨D, d1, d2⟩ := ih (i + 1) (met.set u true) (by omega) (by rw [List.length_set]; exact hm) (fun v hv => by
          rw [rdOf_set met u v true (by omega)]
          by_cases c : v = u
          · rw [if_pos c]
            simp only [true_iff]
            exact ⟨i, by omega, by rw [h, c]⟩
          · rw [if_neg c, hmet v hv]
            constructor
            · rintro ⟨j, p, q⟩; exact ⟨j, by omega, q⟩
            · rintro ⟨j, p, q⟩
              refine ⟨j, ?_, q⟩
              rcases Nat.lt_or_ge j i with hj | hj
              · exact hj
              · obtain rfl : j = i := by omega
                rw [h] at q; omega)
        refine ⟨D, d1, d2.step (fun k => ?_)⟩
        rw [kids_Of.l0, if_pos (by omega), if_pos (by omega), if_pos (by omega), rd_kpL a b i (by omega), h, if_pos (by omega), if_pos (by omega), if_pos (by omega), Int.toNat_natCast, w1 (by omega) (by omega)]
        rfl
  obtain ⟨D, d1, d2⟩ := loop b.length 0 (List.replicate a.length false) (by omega) (by rw [List.length_replicate]) (fun u hu => by
    unfold rdOf; rw [List.getD_eq_getElem?_getD, List.getElem?_replicate]; constructor; (intro h; split at h <;> cases h)
    · rintro ⟨j, h, _⟩; omega)
  refine ⟨D, d1, ?_⟩; have ta : twiceN a a.length = false := (twice_nodup a).2 ha; have tb : twiceN b b.length = false := (twice_nodup b).2 hb
  have hj0 : Ev (fun k => kids_Of.j0 k a b false) (kpL a b, D, stp a b (ST a b f g) b.length, 0) := by
    have hK := kept_ev a b hla hlb fa fb ha hb hT E; refine (Ev.bind hK (g := fun k t144 => (if 0 ≤ (a.length : Int) then (if ((a.length : Int) : Int).toNat ≤ 281474976710656 then (kids_Of.l0 k a b (List.replicate ((a.length : Int) : Int).toNat false) t144 (t144.length : Int) 0 t144) else (none)) else (none))) ?_).step (fun k => by rw [kids_Of.j0, if_neg (by decide)]); refine d2.eq (fun k => ?_); rw [if_pos (by omega), if_pos (by omega), Int.toNat_natCast, hkl]; rfl
  refine hj0.eq (fun k => ?_); rw [kids_Of.f, kids_twice.f, if_pos ⟨hla, fa⟩, Option.bind_some, ta, if_neg (by decide), kids_twice.f, if_pos ⟨hlb, fb⟩, Option.bind_some, tb]
theorem run_l1 (a b : List S50) (D : List Int) (hD : D.length ≤ 1000000) (T : List S38) (acc : List S50) (i : Nat) (hi : i < a.length) (hl : a.length ≤ 1000000) (ha : acc.length ≤ i) (r : List S50 × Bool)
    (h1 : (i : Int) ∈ D → Ev (fun k => r32_Run.l0 k a b D T acc a.length ((i + 1 : Nat) : Int)) r) (h2 : (i : Int) ∉ D → Ev (fun k => r32_Run.l0 k a b D T (acc ++ [rd_T50 a i]) a.length ((i + 1 : Nat) : Int)) r) (d : Nat) :
    ∀ (q : Nat) (x : Bool), q + d = D.length → ((x = true ∨ (i : Int) ∈ D.drop q) ↔ (i : Int) ∈ D) → Ev (fun k => r32_Run.l1 k a b D T acc i x a.length i D.length q) r := by
  induction d with
  | zero =>
    intro q x hq hx; rw [List.drop_eq_nil_of_le (by omega)] at hx; simp only [List.not_mem_nil, or_false] at hx
    by_cases c : x = true
    (exact (h1 (hx.1 c)).step (fun k => by rw [r32_Run.l1, if_neg (by omega), if_pos c, w1 (by omega) (by omega)]; rfl)); (exact (h2 (fun h => c (hx.2 h))).step (fun k => by rw [r32_Run.l1, if_neg (by omega), if_neg c, if_pos (by omega), if_pos (by omega), if_pos (by omega), w1 (by omega) (by omega)]; rfl))
  | succ d ih =>
    intro q x hq hx; rw [drpI D q (by omega), List.mem_cons] at hx
    by_cases c : x = true
    · have := ih (q + 1) true (by omega) (by
        constructor
        · intro _; exact hx.1 (.inl c)
        · intro _; exact .inl rfl)
      exact this.step (fun k => by rw [r32_Run.l1, if_pos (by omega), if_pos c, w1 (by omega) (by omega)]; rfl)
    · have := ih (q + 1) (rd D q == (i : Int)) (by omega) (by
        rw [← hx]
        constructor
        · rintro (h | h)
          · exact .inr (.inl (by simpa using (beq_iff_eq.1 h).symm))
          · exact .inr (.inr h)
        · rintro (h | h | h)
          · exact absurd h c
          · exact .inl (by rw [h]; simp)
          · exact .inr h)
      exact this.step (fun k => by rw [r32_Run.l1, if_pos (by omega), if_neg c, if_pos (by omega), if_pos (by omega), w1 (by omega) (by omega)]; rfl)
theorem run_l0 (a b : List S50) (hl : a.length ≤ 1000000) (D : List Int) (hD : IsDrop a b D) (T : List S38) (r : List S50 × Bool) (h : Ev (fun k => r32_Run.l2 k b T (a.filter (fun x => (fnd b x).isSome)) T.length 0) r) (d : Nat) :
    ∀ (i : Nat) (acc : List S50), i + d = a.length → acc.length ≤ i → acc ++ (a.drop i).filter (fun x => (fnd b x).isSome) = a.filter (fun x => (fnd b x).isSome) → Ev (fun k => r32_Run.l0 k a b D T acc a.length i) r := by
  induction d with
  | zero =>
    intro i acc hi ha he; rw [List.drop_eq_nil_of_le (by omega), List.filter_nil, List.append_nil] at he; rw [he]; exact h.step (fun k => by rw [r32_Run.l0, if_neg (by omega)])
  | succ d ih =>
    intro i acc hi ha he; have hdi := hD.2 i (by omega); rw [drp50 a i (by omega), List.filter_cons] at he
    have key := run_l1 a b D (by have := hD.1; omega) T acc i (by omega) hl ha r (fun hm => ih (i + 1) acc (by omega) (by omega) (by
        rw [hdi.1 hm] at he
        simpa using he)) (fun hm => ih (i + 1) (acc ++ [rd_T50 a i]) (by omega) (by rw [List.length_append, List.length_singleton]; omega) (by
        have h2 : (fnd b (rd_T50 a i)).isSome = true := by
          cases hq : fnd b (rd_T50 a i) with
          | none => exact absurd (hdi.2 hq) hm
          | some t => rfl
        rw [h2] at he
        simpa using he)) D.length 0 false (by omega) (by rw [List.drop_zero]; simp)
    exact key.step (fun k => by rw [r32_Run.l0, if_pos (by omega)]; rfl)
/-- A list without a label, as_ it is gone through. -/
theorem run_l3 (b : List S50) (T : List S38) (l : List S50) (hl : l.length ≤ 1000000) (p at_ : Nat) (v bf : Int) (hat : at_ < b.length) (hb : b.length ≤ 1000000) (r : List S50 × Bool)
    (h : Ev (fun k => r32_Run.l3 k b T l (without l (rd_T50 b at_)) T.length p l.length l.length at_ v bf) r) (d : Nat) : ∀ (q : Nat) (acc : List S50), q + d = l.length → acc.length ≤ q → acc ++ without (l.drop q) (rd_T50 b at_) = without l (rd_T50 b at_) → Ev (fun k => r32_Run.l3 k b T l acc T.length p l.length q at_ v bf) r := by
  induction d with
  | zero =>
    intro q acc hq ha he; rw [List.drop_eq_nil_of_le (by omega)] at he; have e2 : without [] (rd_T50 b at_) = [] := rfl; rw [e2, List.append_nil] at he; rw [he, show q = l.length by omega]; exact h
  | succ d ih =>
    intro q acc hq ha he; rw [drp50 l q (by omega)] at he; unfold without at he; rw [List.filter_cons] at he
    by_cases c : rd_T50 l q = rd_T50 b at_
    · have e2 : labEq (rd_T50 l q) (rd_T50 b at_) = true := (labEq_iff _ _).2 c
      rw [e2] at he; have := ih (q + 1) acc (by omega) (by omega) (by unfold without; simpa using he); refine this.step (fun k => ?_); rw [r32_Run.l3, if_pos (by omega), if_pos (by omega), if_pos (by omega), if_pos (by omega), if_pos (by omega)]; refine (if_neg (fun hh => (ne3 _ _).1 hh c)).trans ?_; rw [w1 (by omega) (by omega)]; rfl
    · have e2 : labEq (rd_T50 l q) (rd_T50 b at_) = false := by rw [← Bool.not_eq_true]; exact fun e => c ((labEq_iff _ _).1 e)
      rw [e2] at he
      have := ih (q + 1) (acc ++ [rd_T50 l q]) (by omega) (by rw [List.length_append, List.length_singleton]; omega) (by unfold without; simpa using he)
      refine this.step (fun k => ?_)
      rw [r32_Run.l3, if_pos (by omega), if_pos (by omega), if_pos (by omega), if_pos (by omega), if_pos (by omega)]
      refine (if_pos ((ne3 _ _).2 c)).trans ?_
      rw [if_pos (by omega), w1 (by omega) (by omega)]
      rfl
/-- A step, as_ the reference has it. -/
def s38 (y : S46) : S38 := ⟨y.f0, y.f1, y.f2⟩
theorem without_le (l : List S50) (y : S50) : (without l y).length ≤ l.length := by unfold without; exact List.length_filter_le _ _
theorem rd38 (T : List S38) (p : Nat) {y : S38} {r : List S38} (h : T.drop p = y :: r) : p < T.length ∧ rd_T38 T (p : Int) = y ∧ T.drop (p + 1) = r := by
  have hp : p < T.length := by
    rcases Nat.lt_or_ge p T.length with h1 | h1
    (exact h1); (rw [List.drop_eq_nil_of_le h1] at h; cases h)
  rw [List.drop_eq_getElem_cons hp] at h; injection h with h1 h2; refine ⟨hp, ?_, h2⟩; unfold rd_T38; rw [List.getD_eq_getElem?_getD, Int.toNat_natCast, List.getElem?_eq_getElem hp]; exact h1
theorem run_l2 (a b : List S50) (hb : b.Nodup) (hlb : b.length ≤ 100000) (S : Nat → Bool) (T : List S38) (hT : T.length ≤ 100000) : ∀ (i : Nat) (l : List S50) (p : Nat), i ≤ b.length → l.length + i ≤ 300000 → T.drop p = (stp a b S i).map s38 → Inv b S i l → Ev (fun k => r32_Run.l2 k b T l T.length p) (b, true)
  | 0, l, p, hi, hll, hd, hI => by
    rw [hI.done]
    have hp : ¬ (p : Int) < (T.length : Int) := by
      have := List.drop_eq_nil_iff.1 (show T.drop p = [] from hd)
      omega
    exact (Ev.pure _).step (fun k => by rw [r32_Run.l2, if_neg hp])
  | i + 1, l, p, hi, hll, hd, hI => by
    rw [stp] at hd
    by_cases c : S i = true
    · rw [if_pos c, List.nil_append] at hd
      exact run_l2 a b hb hlb S T hT i l p (by omega) (by omega) hd (hI.stay c)
    · rw [if_neg c, List.map_append] at hd
      obtain ⟨hp, hr, hd2⟩ := rd38 T p (show T.drop p = s38 ⟨(i : Int), kp a b i, if i + 1 = b.length then -1 else ((i + 1 : Nat) : Int)⟩ :: (stp a b S i).map s38 from hd)
      have e0 : (rd_T38 T (p : Int)).f0 = (i : Int) := by rw [hr]; rfl
      have e2 : (rd_T38 T (p : Int)).f2 = if i + 1 = b.length then -1 else ((i + 1 : Nat) : Int) := by rw [hr]; rfl
      have hbi : rd_T50 b i = b[i]'(by omega) := rdT b i (by omega)
      have hwl := without_le l (rd_T50 b i)
      have hSf : S i = false := by simpa using c
      have fin (l' : List S50) (hl' : l'.length ≤ l.length + 1) (hI' : Inv b S i l') (h3 : ∀ k, r32_Run.l3 (k + 1) b T l (without l (rd_T50 b i)) T.length p l.length l.length i ((rd_T38 T (p : Int)).f1) (if i + 1 = b.length then -1 else ((i + 1 : Nat) : Int)) = r32_Run.l2 k b T l' T.length ((p + 1 : Nat) : Int)) : Ev (fun k => r32_Run.l2 k b T l T.length p) (b, true) := by
        have h := run_l2 a b hb hlb S T hT i l' (p + 1) (by omega) (by omega) hd2 hI'; have h4 := run_l3 b T l (by omega) p i ((rd_T38 T (p : Int)).f1) (if i + 1 = b.length then -1 else ((i + 1 : Nat) : Int)) (by omega) (by omega) (b, true) (h.step h3) l.length 0 [] (by omega) (by simp) (by simp); have h5 : Ev (fun k => r32_Run.j3 k b T l T.length p false (i : Int) ((rd_T38 T (p : Int)).f1) (if i + 1 = b.length then -1 else ((i + 1 : Nat) : Int))) (b, true) := h4.step (fun k => by rw [r32_Run.j3, if_neg (by decide)]; rfl); refine h5.step (fun k => ?_); have hdec : decide ((if i + 1 = b.length then (-1 : Int) else ((i + 1 : Nat) : Int)) ≥ (b.length : Int)) = false := decide_eq_false (by split <;> omega); rw [r32_Run.l2, if_pos (by omega), if_pos (by omega), if_pos (by omega), e0, e2, if_neg (by omega), if_neg (by omega), if_neg (by split <;> omega), hdec]
      have hlim : (3518437208883 : Int) = 3518437208883 := rfl
      by_cases cl : i + 1 = b.length
      · have hI' := hI.last hb (by omega) hSf cl
        rw [← hbi] at hI'
        refine fin _ (by rw [List.length_append, List.length_singleton]; omega) hI' (fun k => ?_)
        rw [if_pos cl, r32_Run.l3, if_neg (by omega), if_neg (by omega), if_neg (by omega), if_pos (by omega), if_pos (by omega), Option.bind_some, Int.toNat_natCast, List.take_length, if_pos (by rw [List.length_nil]; omega), Option.bind_some, if_pos (by omega), if_pos (by omega), List.nil_append, if_pos (by omega), Option.bind_some, Option.bind_some, List.drop_length, List.append_nil, if_pos (by rw [List.length_append, List.length_singleton, List.length_nil]; omega), w1 (by omega) (by omega)]
        rfl
      · obtain ⟨t, t1, t2, hI'⟩ := hI.put hb (by omega) hSf (by omega)
        rw [← hbi] at hI' t1 t2
        have hfe := find_ev (without l (rd_T50 b i)) (by omega) (rd_T50 b ((i + 1 : Nat) : Int))
        rw [rdT b (i + 1) (by omega), t1] at hfe
        have hlen : (List.take t (without l (rd_T50 b i)) ++ [rd_T50 b i] ++ List.drop t (without l (rd_T50 b i))).length ≤ l.length + 1 := by
          simp only [List.length_append, List.length_take, List.length_drop, List.length_singleton]; omega
        -- the place is found
        have h := run_l2 a b hb hlb S T hT i _ (p + 1) (by omega) (by omega) hd2 hI'
        have h3 : Ev (fun k => r32_Run.l3 k b T l (without l (rd_T50 b i)) T.length p l.length l.length i ((rd_T38 T (p : Int)).f1) ((i + 1 : Nat) : Int)) (b, true) := by
          refine hfe.via h (fun k hk => ?_)
          have hk2 : r12_Find.f k (without l (rd_T50 b i)) (rd_T50 b ((i + 1 : Nat) : Int)).f0 (rd_T50 b ((i + 1 : Nat) : Int)).f1 (rd_T50 b ((i + 1 : Nat) : Int)).f2 = some (t : Int) := by rw [rdT b (i + 1) (by omega)]; exact hk
          rw [r32_Run.l3, if_neg (by omega), if_pos (by omega), if_pos (by omega), if_pos (by omega), hk2, Option.bind_some, if_neg (by omega), if_pos (by omega), if_pos (by omega), Option.bind_some, Int.toNat_natCast, if_pos (by rw [List.length_nil, List.length_take]; omega), Option.bind_some, if_pos (by omega), if_pos (by omega), List.nil_append, if_pos (by rw [List.length_take]; omega), Option.bind_some, Option.bind_some, if_pos (by simp only [List.length_append, List.length_take, List.length_drop, List.length_singleton]; omega), w1 (by omega) (by omega)]; rfl
        have h4 := run_l3 b T l (by omega) p i ((rd_T38 T (p : Int)).f1) ((i + 1 : Nat) : Int) (by omega) (by omega) (b, true) h3 l.length 0 [] (by omega) (by simp) (by simp)
        have h5 : Ev (fun k => r32_Run.j3 k b T l T.length p false (i : Int) ((rd_T38 T (p : Int)).f1) ((i + 1 : Nat) : Int)) (b, true) := h4.step (fun k => by rw [r32_Run.j3, if_neg (by decide)]; rfl)
        refine h5.step (fun k => ?_)
        rw [if_neg cl] at e2
        have hdec : decide ((((i + 1 : Nat) : Int)) ≥ (b.length : Int)) = false := decide_eq_false (by omega)
        rw [r32_Run.l2, if_pos (by omega), if_pos (by omega), if_pos (by omega), e0, e2, if_neg (by omega), if_neg (by omega), if_neg (by omega), hdec]
theorem Choice.mono {l at_ : List Int} (h : Choice l at_) (t : Nat) : ∀ d : Nat, t + d + 1 < at_.length → rd at_ (t : Int) < rd at_ ((t + d + 1 : Nat) : Int) ∧ rd l (rd at_ (t : Int)) < rd l (rd at_ ((t + d + 1 : Nat) : Int)) := by
  intro d
  induction d with
  | zero =>
    intro hd; obtain ⟨_, _, _, h4⟩ := h ((t + 0 + 1 : Nat) : Int) (by omega) (by omega); have := h4 (by omega); rw [show (((t + 0 + 1 : Nat) : Int) - 1) = (t : Int) by omega] at this; exact this
  | succ d ih =>
    intro hd; have h1 := ih (by omega); obtain ⟨_, _, _, h4⟩ := h ((t + (d + 1) + 1 : Nat) : Int) (by omega) (by omega); have := h4 (by omega); rw [show (((t + (d + 1) + 1 : Nat) : Int) - 1) = ((t + d + 1 : Nat) : Int) by omega] at this; exact ⟨by omega, by omega⟩
theorem rd_mid (a b : List S50) (f g : Nat) (x : Nat) (h : f + x < b.length - g) : rd (midL a b f g) (x : Int) = kp a b (f + x) := by
  have h1 := rd_kpL a b (f + x) (by omega); rw [← h1]; unfold rd midL; simp only [List.getD_eq_getElem?_getD, Int.toNat_natCast]; rw [List.getElem?_drop, List.getElem?_take, if_pos h]
/-- The place in a of a label of b. -/
def ka (a b : List S50) (j : Nat) : Nat := (fnd a (rd_T50 b j)).getD 0
/-- What kind of label stays. -/
theorem ST_cases {a b : List S50} (ha : a.Nodup) (hb : b.Nodup) {f g : Nat} (E : Ends a b f g) (j : Nat) (hj : j < b.length) (h : ST a b f g j = true) :
    kp a b j = (ka a b j : Int) ∧ ((j < f ∧ ka a b j = j) ∨ (b.length - g ≤ j ∧ ka a b j + b.length = a.length + j) ∨ (f ≤ j ∧ j < b.length - g ∧ f ≤ ka a b j ∧ ka a b j < a.length - g ∧ ∃ t : Nat, t < (longestOf (midL a b f g)).length ∧ rd (longestOf (midL a b f g)) (t : Int) = ((j - f : Nat) : Int))) := by
  have la := E.la; have lb := E.lb; have hk := kept_at ha hb E j hj
  have hka : ∀ u : Nat, kp a b j = (u : Int) → ka a b j = u := fun u hu => by
    unfold kp at hu; unfold ka
    cases hf : fnd a (rd_T50 b j) with
    | none => rw [hf] at hu; simp only [toZ] at hu; omega
    | some t => rw [hf] at hu; simp only [toZ] at hu; simp only [Option.getD_some]; omega
  unfold ST at h; simp only [Bool.or_eq_true, decide_eq_true_eq] at h; unfold keptAt at hk
  by_cases c1 : j < f
  · rw [if_pos c1] at hk
    have := hka j hk.symm; exact ⟨by rw [← hk, this], .inl ⟨c1, this⟩⟩
  · rw [if_neg c1] at hk
    by_cases c2 : b.length - g ≤ j
    · rw [if_pos c2] at hk
      have := hka (a.length + j - b.length) (by rw [← hk]; omega)
      exact ⟨by rw [← hk, this]; omega, .inr (.inl ⟨c2, by rw [this]; omega⟩)⟩
    · rw [if_neg c2] at hk
      have hL : (longestOf (midL a b f g)).any (fun x => (f : Int) + x == (j : Int)) = true := by
        rcases h with (h | h) | h
        (exact absurd h c1); (exact absurd h c2); (exact h)
      obtain ⟨x, hx, hxe⟩ := List.any_eq_true.1 hL
      have hxe := beq_iff_eq.1 hxe
      obtain ⟨t, ht, hte⟩ := List.getElem_of_mem hx
      have hrd : rd (longestOf (midL a b f g)) (t : Int) = x := by
        unfold rd; rw [List.getD_eq_getElem?_getD, Int.toNat_natCast, List.getElem?_eq_getElem ht]; exact hte
      have hch := longest_choice (midL a b f g)
      obtain ⟨s1, s2, s3, _⟩ := hch (t : Int) (by omega) (by omega)
      rw [hrd] at s1 s2 s3
      have hxj : x = ((j - f : Nat) : Int) := by omega
      have hml := mid_len a b f g
      rw [hxj, rd_mid a b f g (j - f) (by omega), show f + (j - f) = j by omega] at s3
      cases hf : fnd ((a.take (a.length - g)).drop f) (rd_T50 b j) with
      | none => rw [hf] at hk; simp only [] at hk; omega
      | some q =>
        rw [hf] at hk; obtain ⟨hq, _⟩ := fnd_get _ _ _ hf; rw [List.length_drop, List.length_take] at hq; have hke := hka (f + q) hk.symm; exact ⟨by rw [← hk, hke], .inr (.inr ⟨by omega, by omega, by omega, by omega, t, ht, by rw [hrd, hxj]⟩)⟩
theorem ST_mono {a b : List S50} (ha : a.Nodup) (hb : b.Nodup) {f g : Nat} (E : Ends a b f g) (j1 j2 : Nat) (h1 : j1 < b.length) (h2 : j2 < b.length) (h : j1 < j2) (s1 : ST a b f g j1 = true) (s2 : ST a b f g j2 = true) : ka a b j1 < ka a b j2 := by
  have la := E.la; have lb := E.lb; obtain ⟨e1, c1⟩ := ST_cases ha hb E j1 h1 s1; obtain ⟨e2, c2⟩ := ST_cases ha hb E j2 h2 s2
  rcases c1 with c1 | c1 | c1 <;> rcases c2 with c2 | c2 | c2
  (omega); (omega); (omega); (omega); (omega); (omega); (omega); (omega)
  · obtain ⟨p1, p2, p3, p4, t1, q1, r1⟩ := c1
    obtain ⟨u1, u2, u3, u4, t2, q2, r2⟩ := c2
    have hch := longest_choice (midL a b f g)
    have ht : t1 < t2 := by
      rcases Nat.lt_trichotomy t1 t2 with h3 | h3 | h3
      (exact h3); (subst h3; omega); (have := (hch.mono t2 (t1 - t2 - 1) (by omega)).1; rw [show t2 + (t1 - t2 - 1) + 1 = t1 by omega] at this; omega)
    have := (hch.mono t1 (t2 - t1 - 1) (by omega)).2
    rw [show t1 + (t2 - t1 - 1) + 1 = t2 by omega, r1, r2, rd_mid a b f g (j1 - f) (by omega), rd_mid a b f g (j2 - f) (by omega), show f + (j1 - f) = j1 by omega, show f + (j2 - f) = j2 by omega, e1, e2] at this
    omega
theorem run_start {a b : List S50} (ha : a.Nodup) (hb : b.Nodup) {f g : Nat} (E : Ends a b f g) : Inv b (ST a b f g) b.length (a.filter (fun x => (fnd b x).isSome)) := by
  refine Inv.start ha hb _ (fun j hj hs => ?_) (fun j1 j2 h1 h2 h s1 s2 => ?_); (obtain ⟨e, _⟩ := ST_cases ha hb E j hj hs; obtain ⟨_, h2⟩ := kp_some hj e; rw [← h2]; exact List.getElem_mem _); (have := ST_mono ha hb E j1 j2 h1 h2 h s1 s2; unfold ka at this; rwa [rdT b j1 h1, rdT b j2 h2] at this)
/-- The plan's steps lie between both ends. -/
theorem stp_at {a b : List S50} {f g : Nat} : ∀ (i : Nat) (y : S46), i ≤ b.length → y ∈ stp a b (ST a b f g) i → ∃ j : Nat, j < i ∧ y.f0 = (j : Int) ∧ f ≤ j ∧ j < b.length - g
  | 0, y, _, h => by rw [stp] at h; cases h
  | i + 1, y, hi, h => by
    rw [stp, List.mem_append] at h
    rcases h with h | h
    · split at h
      · cases h
      · rename_i c
        rw [List.mem_singleton] at h
        refine ⟨i, by omega, by rw [h], ?_⟩
        unfold ST at c
        simp only [Bool.or_eq_true, decide_eq_true_eq, not_or] at c
        omega
    · obtain ⟨j, h1, h2⟩ := stp_at i y (by omega) h
      exact ⟨j, by omega, h2⟩
theorem steps_ev (L : List S46) (hl : L.length ≤ 1000000) : Ev (fun k => lw_steps.f k L) (L.map s38) := by
  have loop : ∀ (d i : Nat) (acc : List S38), i + d = L.length → acc.length ≤ i → acc ++ (L.drop i).map s38 = L.map s38 → Ev (fun k => lw_steps.l0 k L acc L.length i) (L.map s38) := by
    intro d
    induction d with
    | zero =>
      intro i acc hi ha he; rw [List.drop_eq_nil_of_le (by omega), List.map_nil, List.append_nil] at he; rw [he]; exact (Ev.pure _).step (fun k => by rw [lw_steps.l0, if_neg (by omega)])
    | succ d ih =>
      intro i acc hi ha he
      have e : L.drop i = rd_T46 L i :: L.drop (i + 1) := by
        rw [List.drop_eq_getElem_cons (by omega)]; unfold rd_T46; rw [List.getD_eq_getElem?_getD, Int.toNat_natCast, List.getElem?_eq_getElem (by omega)]; rfl
      rw [e, List.map_cons] at he; have := ih (i + 1) (acc ++ [s38 (rd_T46 L i)]) (by omega) (by rw [List.length_append, List.length_singleton]; omega) (by rw [List.append_assoc]; exact he); exact this.step (fun k => by rw [lw_steps.l0, if_pos (by omega), if_pos (by omega), if_pos (by omega), if_pos (by omega), w1 (by omega) (by omega)]; rfl)
  exact loop L.length 0 [] (by omega) (by simp) (by simp)
theorem labels_refl (a : List S50) (hl : a.length ≤ 1000000) : Ev (fun k => pl_Labels.f k a a) true := by
  have loop : ∀ (d i : Nat), i + d = a.length → Ev (fun k => pl_Labels.l0 k a a a.length i) true := by
    intro d
    induction d with
    | zero => intro i hi; exact (Ev.pure _).step (fun k => by rw [pl_Labels.l0, if_neg (by omega)])
    | succ d ih =>
      intro i hi; refine (ih (i + 1) (by omega)).step (fun k => ?_); rw [pl_Labels.l0, if_pos (by omega), if_pos (by omega), if_pos (by omega), if_pos (by omega)]; refine (if_neg (fun h => (ne3 _ _).1 h rfl)).trans ?_; rw [w1 (by omega) (by omega)]; rfl
  exact (loop a.length 0 (by omega)).eq (fun k => by rw [pl_Labels.f, if_pos rfl]; rfl)
theorem makes_l0 (b : List S50) (f g : Nat) (hg : f + g ≤ b.length) (hl : b.length ≤ 1000000) (K D : List Int) (P : List S46) (hP : P.length ≤ 1000000) (hat : ∀ y ∈ P, ∃ j : Nat, y.f0 = (j : Int) ∧ f ≤ j ∧ j < b.length - g) (d : Nat) : ∀ i : Nat, i + d = P.length → Ev (fun k => lw_KidsMakes.l0 k b 0 b true f g P.length i K D P) true := by
  induction d with
  | zero =>
    intro i hi
    have key : Ev (fun k => (pl_Labels.f k b b).bind fun t411 => (if t411 = true then ((lw_same.f k).bind fun t412 => (some t412)) else (some false))) true := by
      refine Ev.bind (labels_refl b hl) ?_; simp only [↓reduceIte]; exact Ev.bind same_ev (Ev.pure true)
    exact key.step (fun k => by rw [lw_KidsMakes.l0, if_neg (by omega), if_pos rfl, if_pos rfl])
  | succ d ih =>
    intro i hi
    have hm : rd_T46 P (i : Int) ∈ P := by
      unfold rd_T46; rw [List.getD_eq_getElem?_getD, Int.toNat_natCast, List.getElem?_eq_getElem (by omega)]; exact List.getElem_mem _
    obtain ⟨j, j1, j2, j3⟩ := hat _ hm; have hw : wrap64 ((b.length : Int) - (g : Int)) = (b.length : Int) - g := ww (by omega) (by omega); refine (ih (i + 1) (by omega)).step (fun k => ?_); rw [lw_KidsMakes.l0, if_pos (by omega), if_pos (by omega), if_pos (by omega), j1, if_neg (by omega), hw, if_neg (by omega), w1 (by omega) (by omega)]; rfl
theorem KidsMakes : ∀ (x0 : List (S50)) (x1 : List (S50)), (x0.length * 40 ≤ 140737488351232 ∧ ∀ y ∈ x0, Sm50 y) → (x1.length * 40 ≤ 140737488351232 ∧ ∀ y ∈ x1, Sm50 y) → ∃ k, lw_KidsMakes.f k x0 x1 = some true := by
  rintro a b ⟨hla, hsa⟩ ⟨hlb, hsb⟩; refine Ev.ex (r := true) ?_; have hsame : Ev (fun k => (lw_same.f k).bind fun t => (some t)) true := Ev.bind same_ev (Ev.pure true); have hj : Ev (fun k => lw_KidsMakes.j0 k a b true) true := hsame.step (fun k => by rw [lw_KidsMakes.j0, if_pos rfl]); obtain ⟨p, hp, hpi⟩ := heavy_ev a hla hsa; obtain ⟨q, hq, hqi⟩ := heavy_ev b hlb hsb; unfold lw_KidsMakes.f; refine Ev.bind hp ?_
  cases p with
  | true => simp only [↓reduceIte]; exact hj
  | false =>
    simp only [Bool.false_eq_true, ↓reduceIte]; refine Ev.bind hq ?_
    cases q with
    | true => simp only [↓reduceIte]; exact hj
    | false =>
      simp only [Bool.false_eq_true, ↓reduceIte]; obtain ⟨la, fa⟩ := hpi rfl; obtain ⟨lb, fb⟩ := hqi rfl; refine Ev.bind (twice_ev a (by omega)) ?_
      by_cases ta : twiceN a a.length = true
      · rw [ta]; simp only [↓reduceIte]; exact hj
      · have ta : twiceN a a.length = false := by simpa using ta
        rw [ta]
        simp only [Bool.false_eq_true, ↓reduceIte]
        refine Ev.bind (twice_ev b (by omega)) ?_
        by_cases tb : twiceN b b.length = true
        · rw [tb]; exact hj
        · have tb : twiceN b b.length = false := by simpa using tb
          rw [tb]
          have ha := (twice_nodup a).1 ta
          have hb := (twice_nodup b).1 tb
          obtain ⟨f, g, hT, hT2, E⟩ := trim_ev a b (by omega) (by omega)
          obtain ⟨D, hD, hO⟩ := of_ev a b (by omega) (by omega) fa fb ha hb hT E
          have hsl := stp_len a b (ST a b f g) b.length
          have hfl : (a.filter (fun x => (fnd b x).isSome)).length ≤ a.length := List.length_filter_le _ _
          have hR : Ev (fun k => r32_Run.f k a b D ((stp a b (ST a b f g) b.length).map s38)) (b, true) := by
            have h2 := run_l2 a b hb (by omega) (ST a b f g) ((stp a b (ST a b f g) b.length).map s38) (by rw [List.length_map]; omega) b.length _ 0 (Nat.le_refl _) (by omega) (by rw [List.drop_zero]) (run_start ha hb E); exact run_l0 a b (by omega) D hD _ _ h2 a.length 0 [] (by omega) (by simp) (by simp)
          have hM := makes_l0 b f g E.lb (by omega) (kpL a b) D (stp a b (ST a b f g) b.length) (by omega) (fun y hy => by
            obtain ⟨j, _, h2, h3, h4⟩ := stp_at b.length y (Nat.le_refl _) hy
            exact ⟨j, h2, h3, h4⟩) _ 0 (Nat.zero_add _)
          have key : Ev (fun k => (kids_Of.f k a b).bind fun bt390 => ((lw_steps.f k bt390.2.2.1).bind fun t401 => ((r32_Run.f k a b bt390.2.1 t401).bind fun bt404 => ((r32_Trim.f k a b).bind fun bt408 => (lw_KidsMakes.l0 k b bt390.2.2.2 bt404.1 bt404.2 bt408.1 bt408.2 (bt390.2.2.1.length : Int) 0 bt390.1 bt390.2.1 bt390.2.2.1))))) true :=
            Ev.bind hO (Ev.bind (steps_ev (stp a b (ST a b f g) b.length) (by omega)) (Ev.bind hR (Ev.bind hT2 hM)))
          exact key.step (fun k => by rw [lw_KidsMakes.j0, if_neg (by decide)])
end Go.Proofs.Ytpekchebllobmaa.Pure
