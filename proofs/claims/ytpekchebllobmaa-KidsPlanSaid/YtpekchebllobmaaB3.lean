/- What the claim LawKidsPlan rests on, part 3 of 6: the kit's words, the printed walks, the walks by hand, the plain laws. -/
import Derived.Test.YtpekchebllobmaaB0
import Derived.Test.YtpekchebllobmaaB1
import Derived.Test.YtpekchebllobmaaB2
namespace Go.Proofs.Ytpekchebllobmaa.G
open Go.RowKit Go.Proofs.YtpekchebllobmaaW.PrintWords Go.Proofs.YtpekchebllobmaaW.PrintLast Go.Proofs.YtpekchebllobmaaW.PrintMore
attribute [local go_sem] max2_int min2_int max_two min_two max_three min_three max_four min_four
set_option linter.unusedVariables false
set_option linter.unusedSimpArgs false
attribute [local go_sem high] eqA46
def pl_Ints.l0 : Nat → List Int → List Int → Int → Int → Option (Bool)
  | 0, _, _, _, _ => none
  | k + 1, x0, x1, x12, x13 => if x13 < x12 then (if 0 ≤ x13 then (if x13 < (x0.length : Int) then (if x13 < (x1.length : Int) then (if (rd x0 x13) = (rd x1 x13) then (pl_Ints.l0 k x0 x1 x12 (wrap64 (x13 + 1))) else (some false)) else (none)) else (none)) else (none)) else (some true)
def pl_Ints.f (k : Nat) (l0 : List Int) (l1 : List Int) : Option (Bool) := if (l0.length : Int) = (l1.length : Int) then (pl_Ints.l0 k l0 l1 (l0.length : Int) 0) else (some false)
theorem pl_Ints.mono_l : ∀ k, (∀ y0 y1 y2 y3, LeO (pl_Ints.l0 k y0 y1 y2 y3) (pl_Ints.l0 (k + 1) y0 y1 y2 y3))
  | 0 => fun _ _ _ _ r h => by simp [pl_Ints.l0] at h
  | k + 1 => by
    have ih0 := pl_Ints.mono_l k
    · intro y0 y1 y2 y3
      unfold pl_Ints.l0
      with_reducible repeat' first | exact ih0 _ _ _ _ | exact LeO.refl _ | exact LeO.none _ | refine LeO.ite ?_ ?_ | refine LeO.bind ?_ (fun _ => ?_)
theorem pl_Ints.mono : ∀ a0 a1 k, LeO (pl_Ints.f k a0 a1) (pl_Ints.f (k + 1) a0 a1) := by
  intro a0 a1 k; have ih0 := pl_Ints.mono_l k; unfold pl_Ints.f
  with_reducible repeat' first | exact ih0 _ _ _ _ | exact LeO.refl _ | exact LeO.none _ | refine LeO.ite ?_ ?_ | refine LeO.bind ?_ (fun _ => ?_)
set_option maxHeartbeats 8000000 in
set_option maxRecDepth 100000 in
theorem pl_Ints.calls (k : Nat) (A0 : Option Addr) (c0 : Nat) (l0 : List Int) (A1 : Option Addr) (c1 : Nat) (l1 : List Int) (r : Bool) (w : World) (hr0 : Kd.C (Kd.int .i64) w A0 l0.length l0) (hc0 : l0.length ≤ c0) (hr1 : Kd.C (Kd.int .i64) w A1 l1.length l1) (hc1 : l1.length ≤ c1) (h : pl_Ints.f k l0 l1 = some r) :
    Calls Try.prog 15 #[.slice A0 l0.length c0, .slice A1 l1.length c1] w fun e w' => e = .returned (.bool r) ∧ Drawn0 w w' := by
  have HR0 := zk hr0; have HC0 := zk hc0; clear hr0 hc0; have HR1 := zk hr1; have HC1 := zk hc1; clear hr1 hc1; have H : (if (l0.length : Int) = (l1.length : Int) then (pl_Ints.l0 k l0 l1 (l0.length : Int) 0) else (some false)) = some r := h; clear h
  by_cases c3 : (l0.length : Int) = (l1.length : Int)
  · rw [if_pos c3] at H
    have c3b0 := beq_iff_eq.mpr c3
    have c3b1 := bne_eq_false_iff_eq.mpr c3
    have c3b2 : (l0.length == l1.length) = true := by first | simpa using c3 | (simp at c3 ⊢; omega)
    clear c3
    have H' := zk H
    clear H
    go_enter Try.func15, Try.ntmps15
    go_wp2
    repeat (go_quiet (fail); try go_wp2)
    go_loopg [13] k (fun kq v13 w' => ∃ (x13_1 : Int), v13 = .int .i64 x13_1 ∧ Aside0 (pl_Ints.l0 kq l0 l1 (l0.length : Int) x13_1 = some r) ∧ Aside0 (kq ≤ k) ∧ Drawn0 w w')
    case atStart => exact ⟨(0), (by first | rfl | (simp; done) | (simp [*]; done)), H', ⟨Nat.le_refl _⟩, by repeat (first | exact Drawn0.refl _ | apply Drawn0.step)⟩
    case round =>
      clear H'; (try clear c1); (try clear p2); (try clear c3); (try clear c3b0); (try clear c3b1); (try clear c3b2); obtain ⟨x13_1, rfl, HA, HK1, ⟨m1, rfl⟩⟩ := hrel
      cases gk with
      | zero => exact absurd HA.out (by simp [pl_Ints.l0])
      | succ k1 =>
        have H := HA.out; clear HA; simp only [pl_Ints.l0] at H
        by_cases c4 : x13_1 < (l0.length : Int)
        · rw [if_pos c4] at H
          have c4b0 : decide (x13_1 < (l0.length : Int)) = true := decide_eq_true c4
          clear c4
          by_cases c5 : 0 ≤ x13_1
          · rw [if_pos c5] at H
            have c5b0 : decide (0 ≤ x13_1) = true := decide_eq_true c5
            clear c5
            by_cases c6 : x13_1 < (l0.length : Int)
            · rw [if_pos c6] at H
              have c6b0 : decide (x13_1 < (l0.length : Int)) = true := decide_eq_true c6
              clear c6
              by_cases c7 : x13_1 < (l1.length : Int)
              · rw [if_pos c7] at H
                have c7b0 : decide (x13_1 < (l1.length : Int)) = true := decide_eq_true c7
                clear c7
                by_cases c8 : (rd l0 x13_1) = (rd l1 x13_1)
                · rw [if_pos c8] at H
                  have c8b0 : ((rd l0 x13_1) == (rd l1 x13_1)) = true := beq_iff_eq.mpr c8
                  have c8b1 : ((rd l0 x13_1) != (rd l1 x13_1)) = false := bne_eq_false_iff_eq.mpr c8
                  clear c8
                  have H' := zk H
                  clear H
                  have p153 : 0 ≤ (x13_1 : Int) := zo (by assumption)
                  have q153 : x13_1 < (l0.length : Int) := zo (by assumption)
                  obtain ⟨ad153, e153, hx153_0⟩ := Kd.at_int HR0.out x13_1 p153 q153
                  cases e153
                  replace p153 := eq_true p153
                  replace q153 := eq_true q153
                  have p154 : 0 ≤ (x13_1 : Int) := zo (by assumption)
                  have q154 : x13_1 < (l1.length : Int) := zo (by assumption)
                  obtain ⟨ad154, e154, hx154_0⟩ := Kd.at_int HR1.out x13_1 p154 q154
                  cases e154
                  replace p154 := eq_true p154
                  replace q154 := eq_true q154
                  go_wp2
                  repeat (go_quiet (fail); try go_wp2)
                  go_roundg k1
                  case measure => have := HK1.out; omega
                  case rel => exact ⟨(wrap64 (x13_1 + 1)), (by first | rfl | (simp; done) | (simp [*]; done)), H', ⟨by have := HK1.out; omega⟩, by repeat (first | exact Drawn0.refl _ | apply Drawn0.step)⟩
                · rw [if_neg c8] at H
                  have c8b0 : ((rd l0 x13_1) == (rd l1 x13_1)) = false := beq_eq_false_iff_ne.mpr c8
                  have c8b1 : ((rd l0 x13_1) != (rd l1 x13_1)) = true := bne_iff_ne.mpr c8
                  obtain rfl := Option.some.inj H
                  have p153 : 0 ≤ (x13_1 : Int) := zo (by assumption)
                  have q153 : x13_1 < (l0.length : Int) := zo (by assumption)
                  obtain ⟨ad153, e153, hx153_0⟩ := Kd.at_int HR0.out x13_1 p153 q153
                  cases e153
                  replace p153 := eq_true p153
                  replace q153 := eq_true q153
                  have p154 : 0 ≤ (x13_1 : Int) := zo (by assumption)
                  have q154 : x13_1 < (l1.length : Int) := zo (by assumption)
                  obtain ⟨ad154, e154, hx154_0⟩ := Kd.at_int HR1.out x13_1 p154 q154
                  cases e154
                  replace p154 := eq_true p154
                  replace q154 := eq_true q154
                  go_wp2
                  repeat (go_quiet (fail); try go_wp2)
                  go_ret
                  exact ⟨by first | rfl | (simp; done) | (simp [*]; done), by repeat (first | exact Drawn0.refl _ | apply Drawn0.step)⟩
              · rw [if_neg c7] at H
                exact absurd H (by simp)
            · rw [if_neg c6] at H
              exact absurd H (by simp)
          · rw [if_neg c5] at H
            exact absurd H (by simp)
        · rw [if_neg c4] at H
          have c4b0 : decide (x13_1 < (l0.length : Int)) = false := decide_eq_false c4
          clear c4
          obtain rfl := Option.some.inj H
          go_wp2
          repeat (go_quiet (fail); try go_wp2)
          go_ret
          exact ⟨by first | rfl | (simp; done) | (simp [*]; done), by repeat (first | exact Drawn0.refl _ | apply Drawn0.step)⟩
  · rw [if_neg c3] at H
    have c3b0 := beq_eq_false_iff_ne.mpr c3
    have c3b1 := bne_iff_ne.mpr c3
    have c3b2 : (l0.length == l1.length) = false := by first | simpa using c3 | (simp at c3 ⊢; omega)
    obtain rfl := Option.some.inj H
    go_enter Try.func15, Try.ntmps15
    go_wp2
    repeat (go_quiet (fail); try go_wp2)
    go_ret
    exact ⟨by first | rfl | (simp; done) | (simp [*]; done), by repeat (first | exact Drawn0.refl _ | apply Drawn0.step)⟩
def kids_Moves.l0 : Nat → Int → List (S46) → Int → Int → Option (Int)
  | 0, _, _, _, _ => none
  | k + 1, x3, x7, x8, x9 => if x9 < x8 then (if 0 ≤ x9 then (if x9 < (x7.length : Int) then (if ((rd_T46 x7 x9).f1) ≥ 0 then (kids_Moves.l0 k (wrap64 (x3 + 1)) x7 x8 (wrap64 (x9 + 1))) else (kids_Moves.l0 k x3 x7 x8 (wrap64 (x9 + 1)))) else (none)) else (none)) else (some x3)
def kids_Moves.f (k : Nat) (l0_0 : List Int) (l0_1 : List Int) (l0_2 : List (S46)) : Option (Int) := kids_Moves.l0 k 0 l0_2 (l0_2.length : Int) 0
theorem kids_Moves.mono_l : ∀ k, (∀ y0 y1 y2 y3, LeO (kids_Moves.l0 k y0 y1 y2 y3) (kids_Moves.l0 (k + 1) y0 y1 y2 y3))
  | 0 => fun _ _ _ _ r h => by simp [kids_Moves.l0] at h
  | k + 1 => by
    have ih0 := kids_Moves.mono_l k
    · intro y0 y1 y2 y3
      unfold kids_Moves.l0
      with_reducible repeat' first | exact ih0 _ _ _ _ | exact LeO.refl _ | exact LeO.none _ | refine LeO.ite ?_ ?_ | refine LeO.bind ?_ (fun _ => ?_)
theorem kids_Moves.mono : ∀ a0 a1 a2 k, LeO (kids_Moves.f k a0 a1 a2) (kids_Moves.f (k + 1) a0 a1 a2) := by
  intro a0 a1 a2 k; have ih0 := kids_Moves.mono_l k; unfold kids_Moves.f
  with_reducible repeat' first | exact ih0 _ _ _ _ | exact LeO.refl _ | exact LeO.none _ | refine LeO.ite ?_ ?_ | refine LeO.bind ?_ (fun _ => ?_)
set_option maxHeartbeats 8000000 in
set_option maxRecDepth 100000 in
theorem kids_Moves.calls (k : Nat) (A0_0 : Option Addr) (c0_0 : Nat) (l0_0 : List Int) (A0_1 : Option Addr) (c0_1 : Nat) (l0_1 : List Int) (A0_2 : Option Addr) (c0_2 : Nat) (l0_2 : List (S46)) (r : Int) (w : World) (hr0_0 : Kd.C (Kd.int .i64) w A0_0 l0_0.length l0_0) (hc0_0 : l0_0.length ≤ c0_0) (hr0_1 : Kd.C (Kd.int .i64) w A0_1 l0_1.length l0_1) (hc0_1 : l0_1.length ≤ c0_1) (hr0_2 : Kd.C k46 w A0_2 l0_2.length l0_2) (hc0_2 : l0_2.length ≤ c0_2) (h : kids_Moves.f k l0_0 l0_1 l0_2 = some r) :
    Calls Try.prog 18 #[.agg #[.slice A0_0 l0_0.length c0_0, .slice A0_1 l0_1.length c0_1, .slice A0_2 l0_2.length c0_2]] w fun e w' => e = .returned (.int .i64 r) ∧ Below w.heap.size w w' := by
  have hu30 := Try.underlying30; have hu46 := Try.underlying46; have HR0_0 := zk hr0_0; have HC0_0 := zk hc0_0; clear hr0_0 hc0_0; have HR0_1 := zk hr0_1; have HC0_1 := zk hc0_1; clear hr0_1 hc0_1; have HR0_2 := zk hr0_2; have HC0_2 := zk hc0_2; clear hr0_2 hc0_2; have HB := zk (Below.refl w.heap.size w); have H : (kids_Moves.l0 k 0 l0_2 (l0_2.length : Int) 0) = some r := h; clear h; have H' := zk H; clear H
  go_enter Try.func18, Try.ntmps18
  go_wp2_with (first | ((with_reducible refine gd (N := 1) rfl ?_); refine zb ?hg (N := 1) ?hd (cs := #[.slice A0_0 l0_0.length c0_0, .slice A0_1 l0_1.length c0_1, .slice A0_2 l0_2.length c0_2]) (t := 30) ?hr ?_; (case hd => rfl); (case hg => rfl); (case hr => go_simp; first | done | rfl); intro gb155 hg w2 hbox hb; have n0_ := zk (zs (by with_reducible repeat first | exact HB.out | apply zA | apply zN | apply zD) hb); have n1_ := zk (hbox); have n2_ := zk ((by rw [hg]; exact (zq (by with_reducible repeat first | exact HB.out | apply zA | apply zN | apply zD)) : w.heap.size ≤ gb155)); have n3_ := n2_; clear HB; have HB := n0_; have BK155 := n1_; have GW155 := n2_; have GE155 := n3_; clear n0_ n1_ n2_ n3_; clear hb hbox hg; obtain ⟨hcz3_0, hcz3_1, hcz3_2, hfz3_0, hfz3_1, hfz3_2⟩ := zc3 BK155.out))
  go_loopg [3, 9] k (fun kq v3 v9 w' => ∃ (x3_1 : Int) (x9_1 : Int), v3 = .int .i64 x3_1 ∧ v9 = .int .i64 x9_1 ∧ Aside0 (kids_Moves.l0 kq x3_1 l0_2 (l0_2.length : Int) x9_1 = some r) ∧ Aside0 (kq ≤ k) ∧ Aside0 (w'.heap[gb155]? = some (.cells #[(.slice A0_0 l0_0.length c0_0), (.slice A0_1 l0_1.length c0_1), (.slice A0_2 l0_2.length c0_2)] 30 (0, 0))) ∧ Aside0 (Below w.heap.size w w'))
  case atStart => exact ⟨(0), (0), (by first | rfl | (simp; done) | (simp [*]; done)), (by first | rfl | (simp; done) | (simp [*]; done)), H', ⟨Nat.le_refl _⟩, ⟨by (with_reducible repeat (first | refine zM ?_ _ | refine zE ?_ | refine zF ?_ _)); exact BK155.out⟩, ⟨by with_reducible repeat first | exact HB.out | apply zA | apply zN | apply zD | refine zS ?_ GE155.out⟩⟩
  case round =>
    clear H'; (try clear c1); (try clear p2)
    (try clear BK155)
    obtain ⟨x3_1, x9_1, rfl, rfl, HA, HK1, BK155, HB⟩ := hrel
    cases gk with
    | zero => exact absurd HA.out (by simp [kids_Moves.l0])
    | succ k1 =>
      have H := HA.out; clear HA; simp only [kids_Moves.l0] at H
      by_cases c4 : x9_1 < (l0_2.length : Int)
      · rw [if_pos c4] at H
        have c4b0 : decide (x9_1 < (l0_2.length : Int)) = true := decide_eq_true c4
        clear c4
        by_cases c5 : 0 ≤ x9_1
        · rw [if_pos c5] at H
          have c5b0 : decide (0 ≤ x9_1) = true := decide_eq_true c5
          clear c5
          by_cases c6 : x9_1 < (l0_2.length : Int)
          · rw [if_pos c6] at H
            have c6b0 : decide (x9_1 < (l0_2.length : Int)) = true := decide_eq_true c6
            clear c6
            by_cases c7 : ((rd_T46 l0_2 x9_1).f1) ≥ 0
            · rw [if_pos c7] at H
              have c7b0 : decide (0 ≤ ((rd_T46 l0_2 x9_1).f1)) = true := decide_eq_true c7
              clear c7
              have H' := zk H
              clear H
              have p156 : 0 ≤ (x9_1 : Int) := zo (by assumption)
              have q156 : x9_1 < (l0_2.length : Int) := zo (by assumption)
              obtain ⟨ad156, e156, hx156_0, hx156_1, hx156_2⟩ := at_T46 HR0_2.out x9_1 p156 q156
              cases e156
              replace hx156_0 := zB HB hx156_0
              replace hx156_1 := zB HB hx156_1
              replace hx156_2 := zB HB hx156_2
              replace p156 := eq_true p156
              replace q156 := eq_true q156
              go_wp2_with (first | ((with_reducible refine gd (N := 5) rfl ?_); refine zb ?hg (N := 5) ?hd (cs := #[.int .i64 0, .int .i64 0, .int .i64 0]) (t := 46) ?hr ?_; (case hd => rfl); (case hg => rfl); (case hr => go_simp; first | done | rfl); intro gb157 hg w8 hbox hb; have n0_ := zk (blk_below (g := gb155) (o := .cells #[.slice A0_0 l0_0.length c0_0, .slice A0_1 l0_1.length c0_1, .slice (some ad156) l0_2.length c0_2] 30 (0, 0)) (by (with_reducible repeat (first | refine zM ?_ _ | refine zE ?_ | refine zF ?_ _)); exact BK155.out) hb); have n1_ := zk (zs (by with_reducible repeat first | exact HB.out | apply zA | apply zN | apply zD | refine zS ?_ GE155.out) hb); have n2_ := zk (hbox); have n3_ := zk ((by rw [hg]; exact (zq (by with_reducible repeat first | exact HB.out | apply zA | apply zN | apply zD | refine zS ?_ GE155.out)) : w.heap.size ≤ gb157)); have n4_ := n3_; have n5_ := zk ((by rw [hg]; exact Nat.ne_of_lt (blk_lt (g := gb155) (o := .cells #[.slice A0_0 l0_0.length c0_0, .slice A0_1 l0_1.length c0_1, .slice (some ad156) l0_2.length c0_2] 30 (0, 0)) (by (with_reducible repeat (first | refine zM ?_ _ | refine zE ?_ | refine zF ?_ _)); exact BK155.out)) : gb155 ≠ gb157)); have n6_ := zk ((by rw [hg]; exact Nat.ne_of_gt (blk_lt (g := gb155) (o := .cells #[.slice A0_0 l0_0.length c0_0, .slice A0_1 l0_1.length c0_1, .slice (some ad156) l0_2.length c0_2] 30 (0, 0)) (by (with_reducible repeat (first | refine zM ?_ _ | refine zE ?_ | refine zF ?_ _)); exact BK155.out)) : gb157 ≠ gb155)); clear BK155; clear HB; have BK155 := n0_; have HB := n1_; have BK157 := n2_; have GW157 := n3_; have GE157 := n4_; have NB155_157 := n5_; have NB157_155 := n6_; clear n0_ n1_ n2_ n3_ n4_ n5_ n6_; clear hb hbox hg; have hnb9 := NB157_155.out; have hnc9 := NB155_157.out; obtain ⟨hcz10_0, hcz10_1, hcz10_2, hfz10_0, hfz10_1, hfz10_2⟩ := zc3 BK157.out))
              go_roundg k1
              case measure => have := HK1.out; omega
              case rel => exact ⟨(wrap64 (x3_1 + 1)), (wrap64 (x9_1 + 1)), (by first | rfl | (simp; done) | (simp [*]; done)), (by first | rfl | (simp; done) | (simp [*]; done)), H', ⟨by have := HK1.out; omega⟩, ⟨by (with_reducible repeat (first | refine zM ?_ _ | refine zE ?_ | refine zF ?_ _)); refine zG ?_ NB155_157.out _; (with_reducible repeat (first | refine zM ?_ _ | refine zE ?_ | refine zF ?_ _)); refine zG ?_ NB155_157.out _; (with_reducible repeat (first | refine zM ?_ _ | refine zE ?_ | refine zF ?_ _)); refine zG ?_ NB155_157.out _; (with_reducible repeat (first | refine zM ?_ _ | refine zE ?_ | refine zF ?_ _)); exact BK155.out⟩, ⟨by with_reducible repeat first | exact HB.out | apply zA | apply zN | apply zD | refine zS ?_ GE155.out | refine zS ?_ GE157.out⟩⟩
            · rw [if_neg c7] at H
              have c7b0 : decide (0 ≤ ((rd_T46 l0_2 x9_1).f1)) = false := decide_eq_false c7
              clear c7
              have H' := zk H
              clear H
              have p156 : 0 ≤ (x9_1 : Int) := zo (by assumption)
              have q156 : x9_1 < (l0_2.length : Int) := zo (by assumption)
              obtain ⟨ad156, e156, hx156_0, hx156_1, hx156_2⟩ := at_T46 HR0_2.out x9_1 p156 q156
              cases e156
              replace hx156_0 := zB HB hx156_0
              replace hx156_1 := zB HB hx156_1
              replace hx156_2 := zB HB hx156_2
              replace p156 := eq_true p156
              replace q156 := eq_true q156
              go_wp2_with (first | ((with_reducible refine gd (N := 5) rfl ?_); refine zb ?hg (N := 5) ?hd (cs := #[.int .i64 0, .int .i64 0, .int .i64 0]) (t := 46) ?hr ?_; (case hd => rfl); (case hg => rfl); (case hr => go_simp; first | done | rfl); intro gb157 hg w11 hbox hb; have n0_ := zk (blk_below (g := gb155) (o := .cells #[.slice A0_0 l0_0.length c0_0, .slice A0_1 l0_1.length c0_1, .slice (some ad156) l0_2.length c0_2] 30 (0, 0)) (by (with_reducible repeat (first | refine zM ?_ _ | refine zE ?_ | refine zF ?_ _)); exact BK155.out) hb); have n1_ := zk (zs (by with_reducible repeat first | exact HB.out | apply zA | apply zN | apply zD | refine zS ?_ GE155.out) hb); have n2_ := zk (hbox); have n3_ := zk ((by rw [hg]; exact (zq (by with_reducible repeat first | exact HB.out | apply zA | apply zN | apply zD | refine zS ?_ GE155.out)) : w.heap.size ≤ gb157)); have n4_ := n3_; have n5_ := zk ((by rw [hg]; exact Nat.ne_of_lt (blk_lt (g := gb155) (o := .cells #[.slice A0_0 l0_0.length c0_0, .slice A0_1 l0_1.length c0_1, .slice (some ad156) l0_2.length c0_2] 30 (0, 0)) (by (with_reducible repeat (first | refine zM ?_ _ | refine zE ?_ | refine zF ?_ _)); exact BK155.out)) : gb155 ≠ gb157)); have n6_ := zk ((by rw [hg]; exact Nat.ne_of_gt (blk_lt (g := gb155) (o := .cells #[.slice A0_0 l0_0.length c0_0, .slice A0_1 l0_1.length c0_1, .slice (some ad156) l0_2.length c0_2] 30 (0, 0)) (by (with_reducible repeat (first | refine zM ?_ _ | refine zE ?_ | refine zF ?_ _)); exact BK155.out)) : gb157 ≠ gb155)); clear BK155; clear HB; have BK155 := n0_; have HB := n1_; have BK157 := n2_; have GW157 := n3_; have GE157 := n4_; have NB155_157 := n5_; have NB157_155 := n6_; clear n0_ n1_ n2_ n3_ n4_ n5_ n6_; clear hb hbox hg; have hnb12 := NB157_155.out; have hnc12 := NB155_157.out; obtain ⟨hcz13_0, hcz13_1, hcz13_2, hfz13_0, hfz13_1, hfz13_2⟩ := zc3 BK157.out))
              go_roundg k1
              case measure => have := HK1.out; omega
              case rel => exact ⟨(x3_1), (wrap64 (x9_1 + 1)), (by first | rfl | (simp; done) | (simp [*]; done)), (by first | rfl | (simp; done) | (simp [*]; done)), H', ⟨by have := HK1.out; omega⟩, ⟨by (with_reducible repeat (first | refine zM ?_ _ | refine zE ?_ | refine zF ?_ _)); refine zG ?_ NB155_157.out _; (with_reducible repeat (first | refine zM ?_ _ | refine zE ?_ | refine zF ?_ _)); refine zG ?_ NB155_157.out _; (with_reducible repeat (first | refine zM ?_ _ | refine zE ?_ | refine zF ?_ _)); refine zG ?_ NB155_157.out _; (with_reducible repeat (first | refine zM ?_ _ | refine zE ?_ | refine zF ?_ _)); exact BK155.out⟩, ⟨by with_reducible repeat first | exact HB.out | apply zA | apply zN | apply zD | refine zS ?_ GE155.out | refine zS ?_ GE157.out⟩⟩
          · rw [if_neg c6] at H
            exact absurd H (by simp)
        · rw [if_neg c5] at H
          exact absurd H (by simp)
      · rw [if_neg c4] at H
        have c4b0 : decide (x9_1 < (l0_2.length : Int)) = false := decide_eq_false c4; clear c4; obtain rfl := Option.some.inj H; go_wp2; go_ret; exact ⟨by first | rfl | (simp [wN, wS] <;> rfl) | (simp [*, wN, wS] <;> rfl), by with_reducible repeat first | exact HB.out | apply zA | apply zN | apply zD | refine zS ?_ GE155.out⟩
def lw_x.f (a0 : ByteArray) : Option (ByteArray × ByteArray × Int) := some ((⟨#[108, 105]⟩ : ByteArray), a0, 0)
set_option maxHeartbeats 8000000 in
set_option maxRecDepth 100000 in
theorem lw_x.calls (a0 : ByteArray) (r1 : ByteArray) (r2 : ByteArray) (r3 : Int) (w : World) (h : lw_x.f a0 = some (r1, r2, r3)) :
    Calls Try.prog 22 #[.string a0] w fun e w' => e = .returned (.agg #[.string r1, .string r2, .int .i64 r3]) ∧ Below w.heap.size w w' := by
  have hu50 := Try.underlying50; have HB := zk (Below.refl w.heap.size w); have H : (some ((⟨#[108, 105]⟩ : ByteArray), a0, 0)) = some (r1, r2, r3) := h; clear h; simp only [Option.some.injEq, Prod.mk.injEq] at H; obtain ⟨rfl, rfl, rfl⟩ := H
  go_enter Try.func22, Try.ntmps22
  go_wp2_with (first | ((with_reducible refine gd (N := 2) rfl ?_); refine zb ?hg (N := 2) ?hd (cs := #[.string ⟨#[]⟩, .string ⟨#[]⟩, .int .i64 0]) (t := 50) ?hr ?_; (case hd => rfl); (case hg => rfl); (case hr => go_simp; first | done | rfl); intro gb158 hg w2 hbox hb; have n0_ := zk (zs (by with_reducible repeat first | exact HB.out | apply zA | apply zN | apply zD) hb); have n1_ := zk (hbox); have n2_ := zk ((by rw [hg]; exact (zq (by with_reducible repeat first | exact HB.out | apply zA | apply zN | apply zD)) : w.heap.size ≤ gb158)); have n3_ := n2_; clear HB; have HB := n0_; have BK158 := n1_; have GW158 := n2_; have GE158 := n3_; clear n0_ n1_ n2_ n3_; clear hb hbox hg; obtain ⟨hcz3_0, hcz3_1, hcz3_2, hfz3_0, hfz3_1, hfz3_2⟩ := zc3 BK158.out))
  refine bodyPost_ret (results_cell_row rfl _ _ gb158 50 #[.string (⟨#[108, 105]⟩ : ByteArray), .string a0, .int .i64 0] (0, 0) _ rfl (by (with_reducible repeat (first | refine zM ?_ _ | refine zE ?_ | refine zF ?_ _)); refine zP (cs := #[.string (⟨#[108, 105]⟩ : ByteArray), .string a0, .int .i64 0]) ?_ 2 _ rfl; (with_reducible repeat (first | refine zM ?_ _ | refine zE ?_ | refine zF ?_ _)); refine zP (cs := #[.string (⟨#[108, 105]⟩ : ByteArray), .string ⟨#[]⟩, .int .i64 0]) ?_ 1 _ rfl; (with_reducible repeat (first | refine zM ?_ _ | refine zE ?_ | refine zF ?_ _)); refine zP (cs := #[.string ⟨#[]⟩, .string ⟨#[]⟩, .int .i64 0]) ?_ 0 _ rfl; (with_reducible repeat (first | refine zM ?_ _ | refine zE ?_ | refine zF ?_ _)); exact BK158.out) Try.underlying50 rfl (by kernel_rfl)) rfl ?_; exact ⟨by first | rfl | (simp [wN, wS] <;> rfl) | (simp [*, wN, wS] <;> rfl), by with_reducible repeat first | exact HB.out | apply zA | apply zN | apply zD | refine zS ?_ GE158.out⟩
def lw_same.f0 (k : Nat)  : Option (Bool) := (lw_x.f (⟨#[97]⟩ : ByteArray)).bind fun bt159 => ((lw_x.f (⟨#[98]⟩ : ByteArray)).bind fun bt162 => ((lw_x.f (⟨#[99]⟩ : ByteArray)).bind fun bt165 => ((lw_x.f (⟨#[99]⟩ : ByteArray)).bind fun bt171 => ((lw_x.f (⟨#[97]⟩ : ByteArray)).bind fun bt174 => ((lw_x.f (⟨#[100]⟩ : ByteArray)).bind fun bt177 => ((kids_Of.f k (([(⟨bt159.1, bt159.2.1, bt159.2.2⟩ : S50), (⟨bt162.1, bt162.2.1, bt162.2.2⟩ : S50), (⟨bt165.1, bt165.2.1, bt165.2.2⟩ : S50)] : List (S50))) (([(⟨bt171.1, bt171.2.1, bt171.2.2⟩ : S50), (⟨bt174.1, bt174.2.1, bt174.2.2⟩ : S50), (⟨bt177.1, bt177.2.1, bt177.2.2⟩ : S50)] : List (S50)))).bind fun bt183 => (if bt183.2.2.2 = 0 then ((pl_Ints.f k bt183.1 (([2, 0, (-1)] : List Int))).bind fun t197 => (if t197 = true then ((pl_Ints.f k bt183.2.1 (([1] : List Int))).bind fun t201 => (if t201 = true then (if (bt183.2.2.1.length : Int) = 2 then (if 0 < (bt183.2.2.1.length : Int) then (if (((rd_T46 bt183.2.2.1 0).f0) == 2 && (((rd_T46 bt183.2.2.1 0).f1) == (-1) && (((rd_T46 bt183.2.2.1 0).f2) == (-1)))) = true then (if 1 < (bt183.2.2.1.length : Int) then (if (((rd_T46 bt183.2.2.1 1).f0) == 0 && (((rd_T46 bt183.2.2.1 1).f1) == 2 && (((rd_T46 bt183.2.2.1 1).f2) == 1))) = true then ((kids_Moves.f k bt183.1 bt183.2.1 bt183.2.2.1).bind fun t204 => (some (t204 == 1))) else (some false)) else (none)) else (some false)) else (none)) else (some false)) else (some false))) else (some false))) else (some false))))))))
theorem lw_same.mono0 : ∀ k, LeO (lw_same.f0 k ) (lw_same.f0 (k + 1) ) := by
 intro  k
 unfold lw_same.f0
 with_reducible repeat' first | exact kids_Moves.mono _ _ _ _ | exact kids_Of.mono _ _ _ | exact pl_Ints.mono _ _ _ | exact LeO.refl _ | exact LeO.none _ | refine LeO.ite ?_ ?_ | refine LeO.bind ?_ (fun _ => ?_)
def lw_same.f (k : Nat) : Option Bool := (lw_same.f0 k).bind fun b => if b = true then some true else none
theorem lw_same.mono : ∀ k, LeO (lw_same.f k ) (lw_same.f (k + 1) ) := by
  intro  k; unfold lw_same.f; exact LeO.bind (lw_same.mono0  k) (fun _ => LeO.refl _)
set_option maxHeartbeats 8000000 in
set_option maxRecDepth 100000 in
theorem lw_same.calls (k : Nat)  (r : Bool) (w : World) (h : lw_same.f k  = some r) :
  Calls Try.prog 8 #[] w fun e w' => e = .returned (.bool r) ∧ Below w.heap.size w w' := by
 obtain ⟨b_, hb_, hr_⟩ := Option.bind_eq_some_iff.1 h
 split at hr_
 case isFalse => cases hr_
 rename_i hbt_
 subst hbt_
 obtain rfl := Option.some.inj hr_
 obtain ⟨r, hr2_⟩ : ∃ r : Bool, r = true := ⟨_, rfl⟩
 rw [← hr2_] at hb_ ⊢
 have HR_ := zk hr2_
 clear hr_ hr2_ h
 have h := hb_
 clear hb_
 have hu30 := Try.underlying30
 have hu46 := Try.underlying46
 have HB := zk (Below.refl w.heap.size w)
 have H : ((lw_x.f (⟨#[97]⟩ : ByteArray)).bind fun bt159 => ((lw_x.f (⟨#[98]⟩ : ByteArray)).bind fun bt162 => ((lw_x.f (⟨#[99]⟩ : ByteArray)).bind fun bt165 => ((lw_x.f (⟨#[99]⟩ : ByteArray)).bind fun bt171 => ((lw_x.f (⟨#[97]⟩ : ByteArray)).bind fun bt174 => ((lw_x.f (⟨#[100]⟩ : ByteArray)).bind fun bt177 => ((kids_Of.f k (([(⟨bt159.1, bt159.2.1, bt159.2.2⟩ : S50), (⟨bt162.1, bt162.2.1, bt162.2.2⟩ : S50), (⟨bt165.1, bt165.2.1, bt165.2.2⟩ : S50)] : List (S50))) (([(⟨bt171.1, bt171.2.1, bt171.2.2⟩ : S50), (⟨bt174.1, bt174.2.1, bt174.2.2⟩ : S50), (⟨bt177.1, bt177.2.1, bt177.2.2⟩ : S50)] : List (S50)))).bind fun bt183 => (if bt183.2.2.2 = 0 then ((pl_Ints.f k bt183.1 (([2, 0, (-1)] : List Int))).bind fun t197 => (if t197 = true then ((pl_Ints.f k bt183.2.1 (([1] : List Int))).bind fun t201 => (if t201 = true then (if (bt183.2.2.1.length : Int) = 2 then (if 0 < (bt183.2.2.1.length : Int) then (if (((rd_T46 bt183.2.2.1 0).f0) == 2 && (((rd_T46 bt183.2.2.1 0).f1) == (-1) && (((rd_T46 bt183.2.2.1 0).f2) == (-1)))) = true then (if 1 < (bt183.2.2.1.length : Int) then (if (((rd_T46 bt183.2.2.1 1).f0) == 0 && (((rd_T46 bt183.2.2.1 1).f1) == 2 && (((rd_T46 bt183.2.2.1 1).f2) == 1))) = true then ((kids_Moves.f k bt183.1 bt183.2.1 bt183.2.2.1).bind fun t204 => (some (t204 == 1))) else (some false)) else (none)) else (some false)) else (none)) else (some false)) else (some false))) else (some false))) else (some false))))))))) = some r := h
 clear h
 replace H := Option.bind_eq_some_iff.mp H
 obtain ⟨⟨t159, t160, t161⟩, A10, H⟩ := H
 replace H : ((lw_x.f (⟨#[98]⟩ : ByteArray)).bind fun bt162 => ((lw_x.f (⟨#[99]⟩ : ByteArray)).bind fun bt165 => ((lw_x.f (⟨#[99]⟩ : ByteArray)).bind fun bt171 => ((lw_x.f (⟨#[97]⟩ : ByteArray)).bind fun bt174 => ((lw_x.f (⟨#[100]⟩ : ByteArray)).bind fun bt177 => ((kids_Of.f k (([(⟨t159, t160, t161⟩ : S50), (⟨bt162.1, bt162.2.1, bt162.2.2⟩ : S50), (⟨bt165.1, bt165.2.1, bt165.2.2⟩ : S50)] : List (S50))) (([(⟨bt171.1, bt171.2.1, bt171.2.2⟩ : S50), (⟨bt174.1, bt174.2.1, bt174.2.2⟩ : S50), (⟨bt177.1, bt177.2.1, bt177.2.2⟩ : S50)] : List (S50)))).bind fun bt183 => (if bt183.2.2.2 = 0 then ((pl_Ints.f k bt183.1 (([2, 0, (-1)] : List Int))).bind fun t197 => (if t197 = true then ((pl_Ints.f k bt183.2.1 (([1] : List Int))).bind fun t201 => (if t201 = true then (if (bt183.2.2.1.length : Int) = 2 then (if 0 < (bt183.2.2.1.length : Int) then (if (((rd_T46 bt183.2.2.1 0).f0) == 2 && (((rd_T46 bt183.2.2.1 0).f1) == (-1) && (((rd_T46 bt183.2.2.1 0).f2) == (-1)))) = true then (if 1 < (bt183.2.2.1.length : Int) then (if (((rd_T46 bt183.2.2.1 1).f0) == 0 && (((rd_T46 bt183.2.2.1 1).f1) == 2 && (((rd_T46 bt183.2.2.1 1).f2) == 1))) = true then ((kids_Moves.f k bt183.1 bt183.2.1 bt183.2.2.1).bind fun t204 => (some (t204 == 1))) else (some false)) else (none)) else (some false)) else (none)) else (some false)) else (some false))) else (some false))) else (some false)))))))) = some r := H
 have A1 := zk A10
 clear A10
 replace H := Option.bind_eq_some_iff.mp H
 obtain ⟨⟨t162, t163, t164⟩, A20, H⟩ := H
 replace H : ((lw_x.f (⟨#[99]⟩ : ByteArray)).bind fun bt165 => ((lw_x.f (⟨#[99]⟩ : ByteArray)).bind fun bt171 => ((lw_x.f (⟨#[97]⟩ : ByteArray)).bind fun bt174 => ((lw_x.f (⟨#[100]⟩ : ByteArray)).bind fun bt177 => ((kids_Of.f k (([(⟨t159, t160, t161⟩ : S50), (⟨t162, t163, t164⟩ : S50), (⟨bt165.1, bt165.2.1, bt165.2.2⟩ : S50)] : List (S50))) (([(⟨bt171.1, bt171.2.1, bt171.2.2⟩ : S50), (⟨bt174.1, bt174.2.1, bt174.2.2⟩ : S50), (⟨bt177.1, bt177.2.1, bt177.2.2⟩ : S50)] : List (S50)))).bind fun bt183 => (if bt183.2.2.2 = 0 then ((pl_Ints.f k bt183.1 (([2, 0, (-1)] : List Int))).bind fun t197 => (if t197 = true then ((pl_Ints.f k bt183.2.1 (([1] : List Int))).bind fun t201 => (if t201 = true then (if (bt183.2.2.1.length : Int) = 2 then (if 0 < (bt183.2.2.1.length : Int) then (if (((rd_T46 bt183.2.2.1 0).f0) == 2 && (((rd_T46 bt183.2.2.1 0).f1) == (-1) && (((rd_T46 bt183.2.2.1 0).f2) == (-1)))) = true then (if 1 < (bt183.2.2.1.length : Int) then (if (((rd_T46 bt183.2.2.1 1).f0) == 0 && (((rd_T46 bt183.2.2.1 1).f1) == 2 && (((rd_T46 bt183.2.2.1 1).f2) == 1))) = true then ((kids_Moves.f k bt183.1 bt183.2.1 bt183.2.2.1).bind fun t204 => (some (t204 == 1))) else (some false)) else (none)) else (some false)) else (none)) else (some false)) else (some false))) else (some false))) else (some false))))))) = some r := H
 have A2 := zk A20
 clear A20
 replace H := Option.bind_eq_some_iff.mp H
 obtain ⟨⟨t165, t166, t167⟩, A30, H⟩ := H
 replace H : ((lw_x.f (⟨#[99]⟩ : ByteArray)).bind fun bt171 => ((lw_x.f (⟨#[97]⟩ : ByteArray)).bind fun bt174 => ((lw_x.f (⟨#[100]⟩ : ByteArray)).bind fun bt177 => ((kids_Of.f k (([(⟨t159, t160, t161⟩ : S50), (⟨t162, t163, t164⟩ : S50), (⟨t165, t166, t167⟩ : S50)] : List (S50))) (([(⟨bt171.1, bt171.2.1, bt171.2.2⟩ : S50), (⟨bt174.1, bt174.2.1, bt174.2.2⟩ : S50), (⟨bt177.1, bt177.2.1, bt177.2.2⟩ : S50)] : List (S50)))).bind fun bt183 => (if bt183.2.2.2 = 0 then ((pl_Ints.f k bt183.1 (([2, 0, (-1)] : List Int))).bind fun t197 => (if t197 = true then ((pl_Ints.f k bt183.2.1 (([1] : List Int))).bind fun t201 => (if t201 = true then (if (bt183.2.2.1.length : Int) = 2 then (if 0 < (bt183.2.2.1.length : Int) then (if (((rd_T46 bt183.2.2.1 0).f0) == 2 && (((rd_T46 bt183.2.2.1 0).f1) == (-1) && (((rd_T46 bt183.2.2.1 0).f2) == (-1)))) = true then (if 1 < (bt183.2.2.1.length : Int) then (if (((rd_T46 bt183.2.2.1 1).f0) == 0 && (((rd_T46 bt183.2.2.1 1).f1) == 2 && (((rd_T46 bt183.2.2.1 1).f2) == 1))) = true then ((kids_Moves.f k bt183.1 bt183.2.1 bt183.2.2.1).bind fun t204 => (some (t204 == 1))) else (some false)) else (none)) else (some false)) else (none)) else (some false)) else (some false))) else (some false))) else (some false)))))) = some r := H
 have A3 := zk A30
 clear A30
 obtain ⟨y168, hy168⟩ : ∃ y_ : List (S50), y_ = (([(⟨t159, t160, t161⟩ : S50), (⟨t162, t163, t164⟩ : S50), (⟨t165, t166, t167⟩ : S50)] : List (S50))) := ⟨_, rfl⟩
 replace H : ((lw_x.f (⟨#[99]⟩ : ByteArray)).bind fun bt171 => ((lw_x.f (⟨#[97]⟩ : ByteArray)).bind fun bt174 => ((lw_x.f (⟨#[100]⟩ : ByteArray)).bind fun bt177 => ((kids_Of.f k y168 (([(⟨bt171.1, bt171.2.1, bt171.2.2⟩ : S50), (⟨bt174.1, bt174.2.1, bt174.2.2⟩ : S50), (⟨bt177.1, bt177.2.1, bt177.2.2⟩ : S50)] : List (S50)))).bind fun bt183 => (if bt183.2.2.2 = 0 then ((pl_Ints.f k bt183.1 (([2, 0, (-1)] : List Int))).bind fun t197 => (if t197 = true then ((pl_Ints.f k bt183.2.1 (([1] : List Int))).bind fun t201 => (if t201 = true then (if (bt183.2.2.1.length : Int) = 2 then (if 0 < (bt183.2.2.1.length : Int) then (if (((rd_T46 bt183.2.2.1 0).f0) == 2 && (((rd_T46 bt183.2.2.1 0).f1) == (-1) && (((rd_T46 bt183.2.2.1 0).f2) == (-1)))) = true then (if 1 < (bt183.2.2.1.length : Int) then (if (((rd_T46 bt183.2.2.1 1).f0) == 0 && (((rd_T46 bt183.2.2.1 1).f1) == 2 && (((rd_T46 bt183.2.2.1 1).f2) == 1))) = true then ((kids_Moves.f k bt183.1 bt183.2.1 bt183.2.2.1).bind fun t204 => (some (t204 == 1))) else (some false)) else (none)) else (some false)) else (none)) else (some false)) else (some false))) else (some false))) else (some false)))))) = some r := by first | (rw [hy168]; with_reducible exact H) | (have H2_ := (Option.bind_some _ _).symm.trans H; rw [hy168]; with_reducible exact H2_) | (have H2_ := (Option.bind_some _ _).symm.trans H; with_reducible exact H2_) | with_reducible exact H | (rw [hy168]; exact H) | exact H
 have Ny168 := zk hy168
 clear hy168
 replace H := Option.bind_eq_some_iff.mp H
 obtain ⟨⟨t171, t172, t173⟩, A40, H⟩ := H
 replace H : ((lw_x.f (⟨#[97]⟩ : ByteArray)).bind fun bt174 => ((lw_x.f (⟨#[100]⟩ : ByteArray)).bind fun bt177 => ((kids_Of.f k y168 (([(⟨t171, t172, t173⟩ : S50), (⟨bt174.1, bt174.2.1, bt174.2.2⟩ : S50), (⟨bt177.1, bt177.2.1, bt177.2.2⟩ : S50)] : List (S50)))).bind fun bt183 => (if bt183.2.2.2 = 0 then ((pl_Ints.f k bt183.1 (([2, 0, (-1)] : List Int))).bind fun t197 => (if t197 = true then ((pl_Ints.f k bt183.2.1 (([1] : List Int))).bind fun t201 => (if t201 = true then (if (bt183.2.2.1.length : Int) = 2 then (if 0 < (bt183.2.2.1.length : Int) then (if (((rd_T46 bt183.2.2.1 0).f0) == 2 && (((rd_T46 bt183.2.2.1 0).f1) == (-1) && (((rd_T46 bt183.2.2.1 0).f2) == (-1)))) = true then (if 1 < (bt183.2.2.1.length : Int) then (if (((rd_T46 bt183.2.2.1 1).f0) == 0 && (((rd_T46 bt183.2.2.1 1).f1) == 2 && (((rd_T46 bt183.2.2.1 1).f2) == 1))) = true then ((kids_Moves.f k bt183.1 bt183.2.1 bt183.2.2.1).bind fun t204 => (some (t204 == 1))) else (some false)) else (none)) else (some false)) else (none)) else (some false)) else (some false))) else (some false))) else (some false))))) = some r := H
 have A4 := zk A40
 clear A40
 replace H := Option.bind_eq_some_iff.mp H
 obtain ⟨⟨t174, t175, t176⟩, A50, H⟩ := H
 replace H : ((lw_x.f (⟨#[100]⟩ : ByteArray)).bind fun bt177 => ((kids_Of.f k y168 (([(⟨t171, t172, t173⟩ : S50), (⟨t174, t175, t176⟩ : S50), (⟨bt177.1, bt177.2.1, bt177.2.2⟩ : S50)] : List (S50)))).bind fun bt183 => (if bt183.2.2.2 = 0 then ((pl_Ints.f k bt183.1 (([2, 0, (-1)] : List Int))).bind fun t197 => (if t197 = true then ((pl_Ints.f k bt183.2.1 (([1] : List Int))).bind fun t201 => (if t201 = true then (if (bt183.2.2.1.length : Int) = 2 then (if 0 < (bt183.2.2.1.length : Int) then (if (((rd_T46 bt183.2.2.1 0).f0) == 2 && (((rd_T46 bt183.2.2.1 0).f1) == (-1) && (((rd_T46 bt183.2.2.1 0).f2) == (-1)))) = true then (if 1 < (bt183.2.2.1.length : Int) then (if (((rd_T46 bt183.2.2.1 1).f0) == 0 && (((rd_T46 bt183.2.2.1 1).f1) == 2 && (((rd_T46 bt183.2.2.1 1).f2) == 1))) = true then ((kids_Moves.f k bt183.1 bt183.2.1 bt183.2.2.1).bind fun t204 => (some (t204 == 1))) else (some false)) else (none)) else (some false)) else (none)) else (some false)) else (some false))) else (some false))) else (some false)))) = some r := H
 have A5 := zk A50
 clear A50
 replace H := Option.bind_eq_some_iff.mp H
 obtain ⟨⟨t177, t178, t179⟩, A60, H⟩ := H
 replace H : ((kids_Of.f k y168 (([(⟨t171, t172, t173⟩ : S50), (⟨t174, t175, t176⟩ : S50), (⟨t177, t178, t179⟩ : S50)] : List (S50)))).bind fun bt183 => (if bt183.2.2.2 = 0 then ((pl_Ints.f k bt183.1 (([2, 0, (-1)] : List Int))).bind fun t197 => (if t197 = true then ((pl_Ints.f k bt183.2.1 (([1] : List Int))).bind fun t201 => (if t201 = true then (if (bt183.2.2.1.length : Int) = 2 then (if 0 < (bt183.2.2.1.length : Int) then (if (((rd_T46 bt183.2.2.1 0).f0) == 2 && (((rd_T46 bt183.2.2.1 0).f1) == (-1) && (((rd_T46 bt183.2.2.1 0).f2) == (-1)))) = true then (if 1 < (bt183.2.2.1.length : Int) then (if (((rd_T46 bt183.2.2.1 1).f0) == 0 && (((rd_T46 bt183.2.2.1 1).f1) == 2 && (((rd_T46 bt183.2.2.1 1).f2) == 1))) = true then ((kids_Moves.f k bt183.1 bt183.2.1 bt183.2.2.1).bind fun t204 => (some (t204 == 1))) else (some false)) else (none)) else (some false)) else (none)) else (some false)) else (some false))) else (some false))) else (some false))) = some r := H
 have A6 := zk A60
 clear A60
 obtain ⟨y180, hy180⟩ : ∃ y_ : List (S50), y_ = (([(⟨t171, t172, t173⟩ : S50), (⟨t174, t175, t176⟩ : S50), (⟨t177, t178, t179⟩ : S50)] : List (S50))) := ⟨_, rfl⟩
 replace H : ((kids_Of.f k y168 y180).bind fun bt183 => (if bt183.2.2.2 = 0 then ((pl_Ints.f k bt183.1 (([2, 0, (-1)] : List Int))).bind fun t197 => (if t197 = true then ((pl_Ints.f k bt183.2.1 (([1] : List Int))).bind fun t201 => (if t201 = true then (if (bt183.2.2.1.length : Int) = 2 then (if 0 < (bt183.2.2.1.length : Int) then (if (((rd_T46 bt183.2.2.1 0).f0) == 2 && (((rd_T46 bt183.2.2.1 0).f1) == (-1) && (((rd_T46 bt183.2.2.1 0).f2) == (-1)))) = true then (if 1 < (bt183.2.2.1.length : Int) then (if (((rd_T46 bt183.2.2.1 1).f0) == 0 && (((rd_T46 bt183.2.2.1 1).f1) == 2 && (((rd_T46 bt183.2.2.1 1).f2) == 1))) = true then ((kids_Moves.f k bt183.1 bt183.2.1 bt183.2.2.1).bind fun t204 => (some (t204 == 1))) else (some false)) else (none)) else (some false)) else (none)) else (some false)) else (some false))) else (some false))) else (some false))) = some r := by first | (rw [hy180]; with_reducible exact H) | (have H2_ := (Option.bind_some _ _).symm.trans H; rw [hy180]; with_reducible exact H2_) | (have H2_ := (Option.bind_some _ _).symm.trans H; with_reducible exact H2_) | with_reducible exact H | (rw [hy180]; exact H) | exact H
 have Ny180 := zk hy180
 clear hy180
 replace H := Option.bind_eq_some_iff.mp H
 obtain ⟨⟨t183, t186, t189, t192⟩, A70, H⟩ := H
 replace H : (if t192 = 0 then ((pl_Ints.f k t183 (([2, 0, (-1)] : List Int))).bind fun t197 => (if t197 = true then ((pl_Ints.f k t186 (([1] : List Int))).bind fun t201 => (if t201 = true then (if (t189.length : Int) = 2 then (if 0 < (t189.length : Int) then (if (((rd_T46 t189 0).f0) == 2 && (((rd_T46 t189 0).f1) == (-1) && (((rd_T46 t189 0).f2) == (-1)))) = true then (if 1 < (t189.length : Int) then (if (((rd_T46 t189 1).f0) == 0 && (((rd_T46 t189 1).f1) == 2 && (((rd_T46 t189 1).f2) == 1))) = true then ((kids_Moves.f k t183 t186 t189).bind fun t204 => (some (t204 == 1))) else (some false)) else (none)) else (some false)) else (none)) else (some false)) else (some false))) else (some false))) else (some false)) = some r := H
 have A7 := zk A70
 clear A70
 by_cases c8 : t192 = 0
 ·
  rw [if_pos c8] at H; have c8b0 : (t192 == 0) = true := beq_iff_eq.mpr c8; have c8b1 : (t192 != 0) = false := bne_eq_false_iff_eq.mpr c8; clear c8; obtain ⟨y194, hy194⟩ : ∃ y_ : List Int, y_ = (([2, 0, (-1)] : List Int)) := ⟨_, rfl⟩
  replace H : ((pl_Ints.f k t183 y194).bind fun t197 => (if t197 = true then ((pl_Ints.f k t186 (([1] : List Int))).bind fun t201 => (if t201 = true then (if (t189.length : Int) = 2 then (if 0 < (t189.length : Int) then (if (((rd_T46 t189 0).f0) == 2 && (((rd_T46 t189 0).f1) == (-1) && (((rd_T46 t189 0).f2) == (-1)))) = true then (if 1 < (t189.length : Int) then (if (((rd_T46 t189 1).f0) == 0 && (((rd_T46 t189 1).f1) == 2 && (((rd_T46 t189 1).f2) == 1))) = true then ((kids_Moves.f k t183 t186 t189).bind fun t204 => (some (t204 == 1))) else (some false)) else (none)) else (some false)) else (none)) else (some false)) else (some false))) else (some false))) = some r := by first | (rw [hy194]; with_reducible exact H) | (have H2_ := (Option.bind_some _ _).symm.trans H; rw [hy194]; with_reducible exact H2_) | (have H2_ := (Option.bind_some _ _).symm.trans H; with_reducible exact H2_) | with_reducible exact H | (rw [hy194]; exact H) | exact H
  have Ny194 := zk hy194; clear hy194; replace H := Option.bind_eq_some_iff.mp H; obtain ⟨t197, A90, H⟩ := H; replace H : (if t197 = true then ((pl_Ints.f k t186 (([1] : List Int))).bind fun t201 => (if t201 = true then (if (t189.length : Int) = 2 then (if 0 < (t189.length : Int) then (if (((rd_T46 t189 0).f0) == 2 && (((rd_T46 t189 0).f1) == (-1) && (((rd_T46 t189 0).f2) == (-1)))) = true then (if 1 < (t189.length : Int) then (if (((rd_T46 t189 1).f0) == 0 && (((rd_T46 t189 1).f1) == 2 && (((rd_T46 t189 1).f2) == 1))) = true then ((kids_Moves.f k t183 t186 t189).bind fun t204 => (some (t204 == 1))) else (some false)) else (none)) else (some false)) else (none)) else (some false)) else (some false))) else (some false)) = some r := H; have A9 := zk A90; clear A90
  by_cases c10 : t197 = true
  ·
   subst c10
   have H1 : ((pl_Ints.f k t186 (([1] : List Int))).bind fun t201 => (if t201 = true then (if (t189.length : Int) = 2 then (if 0 < (t189.length : Int) then (if (((rd_T46 t189 0).f0) == 2 && (((rd_T46 t189 0).f1) == (-1) && (((rd_T46 t189 0).f2) == (-1)))) = true then (if 1 < (t189.length : Int) then (if (((rd_T46 t189 1).f0) == 0 && (((rd_T46 t189 1).f1) == 2 && (((rd_T46 t189 1).f2) == 1))) = true then ((kids_Moves.f k t183 t186 t189).bind fun t204 => (some (t204 == 1))) else (some false)) else (none)) else (some false)) else (none)) else (some false)) else (some false))) = some r := by rw [if_pos rfl] at H; exact H
   clear H; have H := H1; clear H1; obtain ⟨y198, hy198⟩ : ∃ y_ : List Int, y_ = (([1] : List Int)) := ⟨_, rfl⟩
   replace H : ((pl_Ints.f k t186 y198).bind fun t201 => (if t201 = true then (if (t189.length : Int) = 2 then (if 0 < (t189.length : Int) then (if (((rd_T46 t189 0).f0) == 2 && (((rd_T46 t189 0).f1) == (-1) && (((rd_T46 t189 0).f2) == (-1)))) = true then (if 1 < (t189.length : Int) then (if (((rd_T46 t189 1).f0) == 0 && (((rd_T46 t189 1).f1) == 2 && (((rd_T46 t189 1).f2) == 1))) = true then ((kids_Moves.f k t183 t186 t189).bind fun t204 => (some (t204 == 1))) else (some false)) else (none)) else (some false)) else (none)) else (some false)) else (some false))) = some r := by first | (rw [hy198]; with_reducible exact H) | (have H2_ := (Option.bind_some _ _).symm.trans H; rw [hy198]; with_reducible exact H2_) | (have H2_ := (Option.bind_some _ _).symm.trans H; with_reducible exact H2_) | with_reducible exact H | (rw [hy198]; exact H) | exact H
   have Ny198 := zk hy198; clear hy198; replace H := Option.bind_eq_some_iff.mp H; obtain ⟨t201, A110, H⟩ := H; replace H : (if t201 = true then (if (t189.length : Int) = 2 then (if 0 < (t189.length : Int) then (if (((rd_T46 t189 0).f0) == 2 && (((rd_T46 t189 0).f1) == (-1) && (((rd_T46 t189 0).f2) == (-1)))) = true then (if 1 < (t189.length : Int) then (if (((rd_T46 t189 1).f0) == 0 && (((rd_T46 t189 1).f1) == 2 && (((rd_T46 t189 1).f2) == 1))) = true then ((kids_Moves.f k t183 t186 t189).bind fun t204 => (some (t204 == 1))) else (some false)) else (none)) else (some false)) else (none)) else (some false)) else (some false)) = some r := H; have A11 := zk A110; clear A110
   by_cases c12 : t201 = true
   ·
    subst c12
    have H1 : (if (t189.length : Int) = 2 then (if 0 < (t189.length : Int) then (if (((rd_T46 t189 0).f0) == 2 && (((rd_T46 t189 0).f1) == (-1) && (((rd_T46 t189 0).f2) == (-1)))) = true then (if 1 < (t189.length : Int) then (if (((rd_T46 t189 1).f0) == 0 && (((rd_T46 t189 1).f1) == 2 && (((rd_T46 t189 1).f2) == 1))) = true then ((kids_Moves.f k t183 t186 t189).bind fun t204 => (some (t204 == 1))) else (some false)) else (none)) else (some false)) else (none)) else (some false)) = some r := by rw [if_pos rfl] at H; exact H
    clear H; have H := H1; clear H1
    by_cases c13 : (t189.length : Int) = 2
    ·
     rw [if_pos c13] at H; have c13b0 := beq_iff_eq.mpr c13; have c13b1 := bne_eq_false_iff_eq.mpr c13; clear c13
     by_cases c14 : 0 < (t189.length : Int)
     ·
      rw [if_pos c14] at H; have c14b0 := decide_eq_true c14; have c14b1 : decide (0 < t189.length) = true := decide_eq_true (by omega); clear c14
      by_cases c15 : (((rd_T46 t189 0).f0) == 2 && (((rd_T46 t189 0).f1) == (-1) && (((rd_T46 t189 0).f2) == (-1)))) = true
      ·
       rw [if_pos c15] at H; have c15b0 : (((rd_T46 t189 0).f0) == 2 && (((rd_T46 t189 0).f1) == (-1) && (((rd_T46 t189 0).f2) == (-1)))) = true := c15
       (try (have c15b1 : decide (((rd_T46 t189 0).f0) = 2 && (((rd_T46 t189 0).f1) == (-1) && (((rd_T46 t189 0).f2) == (-1)))) = true := by simpa using c15))
       (try (have c15b2 : (((rd_T46 t189 0).f0) == 2 && (((rd_T46 t189 0).f1) == (-1) && (((rd_T46 t189 0).f2) == (-1)))) = true := by simpa using c15))
       clear c15
       by_cases c16 : 1 < (t189.length : Int)
       ·
        rw [if_pos c16] at H; have c16b0 := decide_eq_true c16; have c16b1 : decide (1 < t189.length) = true := decide_eq_true (by omega); clear c16
        by_cases c17 : (((rd_T46 t189 1).f0) == 0 && (((rd_T46 t189 1).f1) == 2 && (((rd_T46 t189 1).f2) == 1))) = true
        ·
         rw [if_pos c17] at H; have c17b0 : (((rd_T46 t189 1).f0) == 0 && (((rd_T46 t189 1).f1) == 2 && (((rd_T46 t189 1).f2) == 1))) = true := c17
         (try (have c17b1 : decide (((rd_T46 t189 1).f0) = 0 && (((rd_T46 t189 1).f1) == 2 && (((rd_T46 t189 1).f2) == 1))) = true := by simpa using c17))
         (try (have c17b2 : (((rd_T46 t189 1).f0) == 0 && (((rd_T46 t189 1).f1) == 2 && (((rd_T46 t189 1).f2) == 1))) = true := by simpa using c17))
         clear c17; replace H := Option.bind_eq_some_iff.mp H; obtain ⟨t204, A180, H⟩ := H; replace H : (some (t204 == 1)) = some r := H; have A18 := zk A180; clear A180; obtain rfl := Option.some.inj H
         go_enter Try.func8, Try.ntmps8
         go_wp2_with (first | ((with_reducible refine gk (f := 22) rfl ?_); refine gl (some 4) rfl rfl Try.func22 (by kernel_rfl) rfl #[.string (⟨#[97]⟩ : ByteArray)] rfl (by (try simp only [List.map_toArray, List.map_cons, List.map_nil]); first | done | rfl | (simp only [List.length_drop, List.length_take]; rfl)) ?_; (with_reducible refine (lw_x.calls (⟨#[97]⟩ : ByteArray) t159 t160 t161 _ A1.out).mono ?_); rintro e w19 ⟨rfl, hb⟩; refine ⟨_, rfl, ?_⟩; have n0_ := zk (zs (by with_reducible repeat first | exact HB.out | apply zA | apply zN | apply zD) hb); clear HB; have HB := n0_; clear n0_; (try clear hb); (try clear hb2); (try clear hk); (try clear hi)) | ((with_reducible refine gk (f := 22) rfl ?_); refine gl (some 5) rfl rfl Try.func22 (by kernel_rfl) rfl #[.string (⟨#[98]⟩ : ByteArray)] rfl (by (try simp only [List.map_toArray, List.map_cons, List.map_nil]); first | done | rfl | (simp only [List.length_drop, List.length_take]; rfl)) ?_; (with_reducible refine (lw_x.calls (⟨#[98]⟩ : ByteArray) t162 t163 t164 _ A2.out).mono ?_); rintro e w20 ⟨rfl, hb⟩; refine ⟨_, rfl, ?_⟩; have n0_ := zk (zs (by with_reducible repeat first | exact HB.out | apply zA | apply zN | apply zD) hb); clear HB; have HB := n0_; clear n0_; (try clear hb); (try clear hb2); (try clear hk); (try clear hi)) | ((with_reducible refine gk (f := 22) rfl ?_); refine gl (some 6) rfl rfl Try.func22 (by kernel_rfl) rfl #[.string (⟨#[99]⟩ : ByteArray)] rfl (by (try simp only [List.map_toArray, List.map_cons, List.map_nil]); first | done | rfl | (simp only [List.length_drop, List.length_take]; rfl)) ?_; (with_reducible refine (lw_x.calls (⟨#[99]⟩ : ByteArray) t165 t166 t167 _ A3.out).mono ?_); rintro e w21 ⟨rfl, hb⟩; refine ⟨_, rfl, ?_⟩; have n0_ := zk (zs (by with_reducible repeat first | exact HB.out | apply zA | apply zN | apply zD) hb); clear HB; have HB := n0_; clear n0_; (try clear hb); (try clear hb2); (try clear hk); (try clear hi)) | ((with_reducible refine gd (N := 7) rfl ?_); (try (refine gg (by rfl) ?_; dsimp only)); refine Kd.R_lit k50 _ 50 ?hg (N := 7) ?hd (xs := ([(⟨t159, t160, t161⟩ : S50), (⟨t162, t163, t164⟩ : S50), (⟨t165, t166, t167⟩ : S50)] : List (S50))) (inner := [.string t159, .string t160, .int .i64 t161, .string t162, .string t163, .int .i64 t164, .string t165, .string t166, .int .i64 t167]) (ok := fun _ => True) (okp := fun _ => True) ?hr ?hp (fun _ hk => hk) trivial (Below.refl _ _) (Nat.le_refl _) (by simp) ?_; (case hd => rfl); (case hg => rfl); (case hr => go_simp; first | done | rfl); (case hp => exact (Reps.c3 (show Kd.M k50 _ _ _ (⟨t159, t160, t161⟩ : S50) [.string t159, .string t160, .int .i64 t161] from (k50_mkM _ _ _ (⟨t159, t160, t161⟩ : S50) )) (Reps.c3 (show Kd.M k50 _ _ _ (⟨t162, t163, t164⟩ : S50) [.string t162, .string t163, .int .i64 t164] from (k50_mkM _ _ _ (⟨t162, t163, t164⟩ : S50) )) (Reps.c3 (show Kd.M k50 _ _ _ (⟨t165, t166, t167⟩ : S50) [.string t165, .string t166, .int .i64 t167] from (k50_mkM _ _ _ (⟨t165, t166, t167⟩ : S50) )) (Reps.none _ _))))); intro v169 w22 ho23 hb hg_ hnew_; clear hg_ hnew_; (first | rw [← Ny168.out] at ho23 | (simp only [Int.reduceToNat] at ho23; rw [← Ny168.out] at ho23)); have n0_ := zk (Kd.R_lower ho23 (zq (by with_reducible repeat first | exact HB.out | apply zA | apply zN | apply zD))); have n1_ := zk (zs (by with_reducible repeat first | exact HB.out | apply zA | apply zN | apply zD) hb); clear HB; have HO170 := n0_; have HB := n1_; clear n0_ n1_; clear hb ho23) | ((with_reducible refine gk (f := 22) rfl ?_); refine gl (some 8) rfl rfl Try.func22 (by kernel_rfl) rfl #[.string (⟨#[99]⟩ : ByteArray)] rfl (by (try simp only [List.map_toArray, List.map_cons, List.map_nil]); first | done | rfl | (simp only [List.length_drop, List.length_take]; rfl)) ?_; (with_reducible refine (lw_x.calls (⟨#[99]⟩ : ByteArray) t171 t172 t173 _ A4.out).mono ?_); rintro e w24 ⟨rfl, hb⟩; refine ⟨_, rfl, ?_⟩; have n0_ := zk (Kd.R_below (by (with_reducible repeat (first | apply Kd.R_alloc | apply Kd.R_drewN | apply Kd.R_drew)); exact HO170.out) hb); have n1_ := zk (zs (by with_reducible repeat first | exact HB.out | apply zA | apply zN | apply zD) hb); clear HO170; clear HB; have HO170 := n0_; have HB := n1_; clear n0_ n1_; (try clear hb); (try clear hb2); (try clear hk); (try clear hi)) | ((with_reducible refine gk (f := 22) rfl ?_); refine gl (some 9) rfl rfl Try.func22 (by kernel_rfl) rfl #[.string (⟨#[97]⟩ : ByteArray)] rfl (by (try simp only [List.map_toArray, List.map_cons, List.map_nil]); first | done | rfl | (simp only [List.length_drop, List.length_take]; rfl)) ?_; (with_reducible refine (lw_x.calls (⟨#[97]⟩ : ByteArray) t174 t175 t176 _ A5.out).mono ?_); rintro e w25 ⟨rfl, hb⟩; refine ⟨_, rfl, ?_⟩; have n0_ := zk (Kd.R_below (by (with_reducible repeat (first | apply Kd.R_alloc | apply Kd.R_drewN | apply Kd.R_drew)); exact HO170.out) hb); have n1_ := zk (zs (by with_reducible repeat first | exact HB.out | apply zA | apply zN | apply zD) hb); clear HO170; clear HB; have HO170 := n0_; have HB := n1_; clear n0_ n1_; (try clear hb); (try clear hb2); (try clear hk); (try clear hi)) | ((with_reducible refine gk (f := 22) rfl ?_); refine gl (some 10) rfl rfl Try.func22 (by kernel_rfl) rfl #[.string (⟨#[100]⟩ : ByteArray)] rfl (by (try simp only [List.map_toArray, List.map_cons, List.map_nil]); first | done | rfl | (simp only [List.length_drop, List.length_take]; rfl)) ?_; (with_reducible refine (lw_x.calls (⟨#[100]⟩ : ByteArray) t177 t178 t179 _ A6.out).mono ?_); rintro e w26 ⟨rfl, hb⟩; refine ⟨_, rfl, ?_⟩; have n0_ := zk (Kd.R_below (by (with_reducible repeat (first | apply Kd.R_alloc | apply Kd.R_drewN | apply Kd.R_drew)); exact HO170.out) hb); have n1_ := zk (zs (by with_reducible repeat first | exact HB.out | apply zA | apply zN | apply zD) hb); clear HO170; clear HB; have HO170 := n0_; have HB := n1_; clear n0_ n1_; (try clear hb); (try clear hb2); (try clear hk); (try clear hi)) | ((with_reducible refine gd (N := 11) rfl ?_); (try (refine gg (by rfl) ?_; dsimp only)); refine Kd.R_lit k50 _ 50 ?hg (N := 11) ?hd (xs := ([(⟨t171, t172, t173⟩ : S50), (⟨t174, t175, t176⟩ : S50), (⟨t177, t178, t179⟩ : S50)] : List (S50))) (inner := [.string t171, .string t172, .int .i64 t173, .string t174, .string t175, .int .i64 t176, .string t177, .string t178, .int .i64 t179]) (ok := fun _ => True) (okp := fun _ => True) ?hr ?hp (fun _ hk => hk) trivial (Below.refl _ _) (Nat.le_refl _) (by simp) ?_; (case hd => rfl); (case hg => rfl); (case hr => go_simp; first | done | rfl); (case hp => exact (Reps.c3 (show Kd.M k50 _ _ _ (⟨t171, t172, t173⟩ : S50) [.string t171, .string t172, .int .i64 t173] from (k50_mkM _ _ _ (⟨t171, t172, t173⟩ : S50) )) (Reps.c3 (show Kd.M k50 _ _ _ (⟨t174, t175, t176⟩ : S50) [.string t174, .string t175, .int .i64 t176] from (k50_mkM _ _ _ (⟨t174, t175, t176⟩ : S50) )) (Reps.c3 (show Kd.M k50 _ _ _ (⟨t177, t178, t179⟩ : S50) [.string t177, .string t178, .int .i64 t179] from (k50_mkM _ _ _ (⟨t177, t178, t179⟩ : S50) )) (Reps.none _ _))))); intro v181 w27 ho28 hb hg_ hnew_; clear hg_ hnew_; (first | rw [← Ny180.out] at ho28 | (simp only [Int.reduceToNat] at ho28; rw [← Ny180.out] at ho28)); have n0_ := zk (Kd.R_elder' (by (with_reducible repeat (first | apply Kd.R_alloc | apply Kd.R_drewN | apply Kd.R_drew)); exact HO170.out) (Kd.R_base ho28) hb); have n1_ := zk (Kd.R_lower (Kd.R_new' ho28 (Kd.R_lt (by (with_reducible repeat (first | apply Kd.R_alloc | apply Kd.R_drewN | apply Kd.R_drew)); exact HO170.out))) (zq (by with_reducible repeat first | exact HB.out | apply zA | apply zN | apply zD))); have n2_ := zk (zs (by with_reducible repeat first | exact HB.out | apply zA | apply zN | apply zD) hb); clear HO170; clear HB; have HO170 := n0_; have HO182 := n1_; have HB := n2_; clear n0_ n1_ n2_; clear hb ho28; obtain ⟨Ao29, co29, eo29⟩ := Kd.R_slice HO170.out; subst eo29; obtain ⟨Ao30, co30, eo30⟩ := Kd.R_slice HO182.out; subst eo30) | ((with_reducible refine gk (f := 11) rfl ?_); refine gl (some 12) rfl rfl Try.func11 (by kernel_rfl) rfl #[.slice Ao29 y168.length co29, .slice Ao30 y180.length co30] rfl (by (try simp only [List.map_toArray, List.map_cons, List.map_nil]); first | done | rfl | (simp only [List.length_drop, List.length_take]; rfl)) ?_; (with_reducible refine (kids_Of.calls k _ _ y168 _ _ y180 t183 t186 t189 t192 _ ?side1 ?side2 ?side3 ?side4 A7.out).mono ?_); (case side1 => repeat (first | exact (Kd.R_reads' HO170.out).2.2 | (with_reducible refine Kd.C_alloc ?_ _) | (with_reducible refine Kd.C_drewN ?_ _) | (with_reducible refine Kd.C_drew ?_))); (case side2 => exact (Kd.R_reads' HO170.out).2.1); (case side3 => repeat (first | exact (Kd.R_reads' HO182.out).2.2 | (with_reducible refine Kd.C_alloc ?_ _) | (with_reducible refine Kd.C_drewN ?_ _) | (with_reducible refine Kd.C_drew ?_))); (case side4 => exact (Kd.R_reads' HO182.out).2.1); rintro e w31 ⟨v184, v187, v190, rfl, ho0, ho1, ho2, hb⟩; refine ⟨_, rfl, ?_⟩; have n0_ := zk (Kd.R_below (by (with_reducible repeat (first | apply Kd.R_alloc | apply Kd.R_drewN | apply Kd.R_drew)); exact HO170.out) hb); have n1_ := zk (Kd.R_below (by (with_reducible repeat (first | apply Kd.R_alloc | apply Kd.R_drewN | apply Kd.R_drew)); exact HO182.out) hb); have n2_ := zk (Kd.R_lower ho0 (zq (by with_reducible repeat first | exact HB.out | apply zA | apply zN | apply zD))); have n3_ := zk (Kd.R_lower ho1 (zq (by with_reducible repeat first | exact HB.out | apply zA | apply zN | apply zD))); have n4_ := zk (Kd.R_lower ho2 (zq (by with_reducible repeat first | exact HB.out | apply zA | apply zN | apply zD))); have n5_ := zk (zs (by with_reducible repeat first | exact HB.out | apply zA | apply zN | apply zD) hb); clear HO170; clear HO182; clear HB; have HO170 := n0_; have HO182 := n1_; have HO185 := n2_; have HO188 := n3_; have HO191 := n4_; have HB := n5_; clear n0_ n1_ n2_ n3_ n4_ n5_; (try clear hb); (try clear hb2); (try clear hk); (try clear hi); (try clear ho0); (try clear ho1); (try clear ho2)) | ((with_reducible refine gd (N := 1) rfl ?_); (try (refine gg (by rfl) ?_; dsimp only)); refine zb ?hg (N := 1) ?hd (cs := #[.slice none 0 0, .slice none 0 0, .slice none 0 0]) (t := 30) ?hr ?_; (case hd => rfl); (case hg => rfl); (case hr => go_simp; first | done | rfl); intro gb193 hg w32 hbox hb; have n0_ := zk (Kd.R_below (by (with_reducible repeat (first | apply Kd.R_alloc | apply Kd.R_drewN | apply Kd.R_drew)); exact HO170.out) hb); have n1_ := zk (Kd.R_below (by (with_reducible repeat (first | apply Kd.R_alloc | apply Kd.R_drewN | apply Kd.R_drew)); exact HO182.out) hb); have n2_ := zk (Kd.R_below (by (with_reducible repeat (first | apply Kd.R_alloc | apply Kd.R_drewN | apply Kd.R_drew)); exact HO185.out) hb); have n3_ := zk (Kd.R_below (by (with_reducible repeat (first | apply Kd.R_alloc | apply Kd.R_drewN | apply Kd.R_drew)); exact HO188.out) hb); have n4_ := zk (Kd.R_below (by (with_reducible repeat (first | apply Kd.R_alloc | apply Kd.R_drewN | apply Kd.R_drew)); exact HO191.out) hb); have n5_ := zk (zs (by with_reducible repeat first | exact HB.out | apply zA | apply zN | apply zD) hb); have n6_ := zk (hbox); have n7_ := zk ((by rw [hg]; exact (zq (by with_reducible repeat first | exact HB.out | apply zA | apply zN | apply zD)) : w.heap.size ≤ gb193)); have n8_ := n7_; clear HO170; clear HO182; clear HO185; clear HO188; clear HO191; clear HB; have HO170 := n0_; have HO182 := n1_; have HO185 := n2_; have HO188 := n3_; have HO191 := n4_; have HB := n5_; have BK193 := n6_; have GW193 := n7_; have GE193 := n8_; clear n0_ n1_ n2_ n3_ n4_ n5_ n6_ n7_ n8_; clear hb hbox hg; obtain ⟨Ao33, co33, eo33⟩ := Kd.R_slice HO185.out; subst eo33; obtain ⟨hcz34_0, hcz34_1, hcz34_2, hfz34_0, hfz34_1, hfz34_2⟩ := zc3 BK193.out; obtain ⟨Ao35, co35, eo35⟩ := Kd.R_slice HO188.out; subst eo35; obtain ⟨Ao36, co36, eo36⟩ := Kd.R_slice HO191.out; subst eo36) | ((with_reducible refine gd (N := 20) rfl ?_); (try (refine gg (by rfl) ?_; dsimp only)); refine Kd.R_lit (Kd.int .i64) _ 3 ?hg (N := 20) ?hd (xs := ([2, 0, (-1)] : List Int)) (inner := [.int .i64 2, .int .i64 0, .int .i64 (-1)]) (ok := fun _ => True) (okp := fun _ => True) ?hr ?hp (fun _ hk => hk) trivial (Below.refl _ _) (Nat.le_refl _) (by simp) ?_; (case hd => rfl); (case hg => rfl); (case hr => go_simp; first | done | rfl); (case hp => exact (Reps.one (show Kd.M (Kd.int .i64) _ _ _ 2 [.int .i64 2] from rfl) (Reps.one (show Kd.M (Kd.int .i64) _ _ _ 0 [.int .i64 0] from rfl) (Reps.one (show Kd.M (Kd.int .i64) _ _ _ (-1) [.int .i64 (-1)] from rfl) (Reps.none _ _))))); intro v195 w37 ho38 hb hg_ hnew_; clear hg_ hnew_; (first | rw [← Ny194.out] at ho38 | (simp only [Int.reduceToNat] at ho38; rw [← Ny194.out] at ho38)); have n0_ := zk (Kd.R_below (by (with_reducible repeat (first | apply Kd.R_alloc | apply Kd.R_drewN | apply Kd.R_drew)); exact (Kd.R_mono (Kd.R_far (p := ⟨gb193, 2, none⟩) (Kd.R_far (p := ⟨gb193, 1, none⟩) (Kd.R_far (p := ⟨gb193, 0, none⟩) (Kd.R_types HO170.out BK193.out (by decide)) (fun _ hk => hk.2) (.slice Ao33 t183.length co33)) (fun _ hk => hk.2) (.slice Ao35 t186.length co35)) (fun _ hk => hk.2) (.slice Ao36 t189.length co36)) (fun _ h_ => h_.1))) hb); have n1_ := zk (Kd.R_below (by (with_reducible repeat (first | apply Kd.R_alloc | apply Kd.R_drewN | apply Kd.R_drew)); exact (Kd.R_mono (Kd.R_far (p := ⟨gb193, 2, none⟩) (Kd.R_far (p := ⟨gb193, 1, none⟩) (Kd.R_far (p := ⟨gb193, 0, none⟩) (Kd.R_types HO182.out BK193.out (by decide)) (fun _ hk => hk.2) (.slice Ao33 t183.length co33)) (fun _ hk => hk.2) (.slice Ao35 t186.length co35)) (fun _ hk => hk.2) (.slice Ao36 t189.length co36)) (fun _ h_ => h_.1))) hb); have n2_ := zk (Kd.R_elder' (by (with_reducible repeat (first | apply Kd.R_alloc | apply Kd.R_drewN | apply Kd.R_drew)); exact (Kd.R_mono (Kd.R_far (p := ⟨gb193, 2, none⟩) (Kd.R_far (p := ⟨gb193, 1, none⟩) (Kd.R_far (p := ⟨gb193, 0, none⟩) (Kd.R_types HO185.out BK193.out (by decide)) (fun _ hk => hk.2) (.slice Ao33 t183.length co33)) (fun _ hk => hk.2) (.slice Ao35 t186.length co35)) (fun _ hk => hk.2) (.slice Ao36 t189.length co36)) (fun _ h_ => h_.1))) (Kd.R_base ho38) hb); have n3_ := zk (Kd.R_elder' (by (with_reducible repeat (first | apply Kd.R_alloc | apply Kd.R_drewN | apply Kd.R_drew)); exact (Kd.R_mono (Kd.R_far (p := ⟨gb193, 2, none⟩) (Kd.R_far (p := ⟨gb193, 1, none⟩) (Kd.R_far (p := ⟨gb193, 0, none⟩) (Kd.R_types HO188.out BK193.out (by decide)) (fun _ hk => hk.2) (.slice Ao33 t183.length co33)) (fun _ hk => hk.2) (.slice Ao35 t186.length co35)) (fun _ hk => hk.2) (.slice Ao36 t189.length co36)) (fun _ h_ => h_.1))) (Kd.R_base ho38) hb); have n4_ := zk (Kd.R_below (by (with_reducible repeat (first | apply Kd.R_alloc | apply Kd.R_drewN | apply Kd.R_drew)); exact (Kd.R_mono (Kd.R_far (p := ⟨gb193, 2, none⟩) (Kd.R_far (p := ⟨gb193, 1, none⟩) (Kd.R_far (p := ⟨gb193, 0, none⟩) (Kd.R_types HO191.out BK193.out (by decide)) (fun _ hk => hk.2) (.slice Ao33 t183.length co33)) (fun _ hk => hk.2) (.slice Ao35 t186.length co35)) (fun _ hk => hk.2) (.slice Ao36 t189.length co36)) (fun _ h_ => h_.1))) hb); have n5_ := zk (Kd.R_lower (Kd.R_new' (Kd.R_new' ho38 (Kd.R_lt (by (with_reducible repeat (first | apply Kd.R_alloc | apply Kd.R_drewN | apply Kd.R_drew)); exact (Kd.R_mono (Kd.R_far (p := ⟨gb193, 2, none⟩) (Kd.R_far (p := ⟨gb193, 1, none⟩) (Kd.R_far (p := ⟨gb193, 0, none⟩) (Kd.R_types HO185.out BK193.out (by decide)) (fun _ hk => hk.2) (.slice Ao33 t183.length co33)) (fun _ hk => hk.2) (.slice Ao35 t186.length co35)) (fun _ hk => hk.2) (.slice Ao36 t189.length co36)) (fun _ h_ => h_.1))))) (Kd.R_lt (by (with_reducible repeat (first | apply Kd.R_alloc | apply Kd.R_drewN | apply Kd.R_drew)); exact (Kd.R_mono (Kd.R_far (p := ⟨gb193, 2, none⟩) (Kd.R_far (p := ⟨gb193, 1, none⟩) (Kd.R_far (p := ⟨gb193, 0, none⟩) (Kd.R_types HO188.out BK193.out (by decide)) (fun _ hk => hk.2) (.slice Ao33 t183.length co33)) (fun _ hk => hk.2) (.slice Ao35 t186.length co35)) (fun _ hk => hk.2) (.slice Ao36 t189.length co36)) (fun _ h_ => h_.1))))) (zq (by with_reducible repeat first | exact HB.out | apply zA | apply zN | apply zD | refine zS ?_ GE193.out))); have n6_ := zk (blk_below (g := gb193) (o := .cells #[.slice Ao33 t183.length co33, .slice Ao35 t186.length co35, .slice Ao36 t189.length co36] 30 (0, 0)) (by (with_reducible repeat first | apply zM | apply zE | apply zF); refine zP (cs := #[.slice Ao33 t183.length co33, .slice Ao35 t186.length co35, .slice none 0 0]) ?_ 2 _ rfl; (with_reducible repeat first | apply zM | apply zE | apply zF); refine zP (cs := #[.slice Ao33 t183.length co33, .slice none 0 0, .slice none 0 0]) ?_ 1 _ rfl; (with_reducible repeat first | apply zM | apply zE | apply zF); refine zP (cs := #[.slice none 0 0, .slice none 0 0, .slice none 0 0]) ?_ 0 _ rfl; (with_reducible repeat first | apply zM | apply zE | apply zF); exact BK193.out) hb); have n7_ := zk (zs (by with_reducible repeat first | exact HB.out | apply zA | apply zN | apply zD | refine zS ?_ GE193.out) hb); clear HO170; clear HO182; clear HO185; clear HO188; clear HO191; clear BK193; clear HB; have HO170 := n0_; have HO182 := n1_; have HO185 := n2_; have HO188 := n3_; have HO191 := n4_; have HO196 := n5_; have BK193 := n6_; have HB := n7_; clear n0_ n1_ n2_ n3_ n4_ n5_ n6_ n7_; clear hb ho38; obtain ⟨Ao39, co39, eo39⟩ := Kd.R_slice HO196.out; subst eo39) | (go_at_call 15; (with_reducible refine (pl_Ints.calls k _ _ t183 _ _ y194 true _ ?side1 ?side2 ?side3 ?side4 A9.out).mono ?_); (case side1 => repeat (first | exact (Kd.R_reads' HO185.out).2.2 | (with_reducible refine Kd.C_alloc ?_ _) | (with_reducible refine Kd.C_drewN ?_ _) | (with_reducible refine Kd.C_drew ?_))); (case side2 => exact (Kd.R_reads' HO185.out).2.1); (case side3 => repeat (first | exact (Kd.R_reads' HO196.out).2.2 | (with_reducible refine Kd.C_alloc ?_ _) | (with_reducible refine Kd.C_drewN ?_ _) | (with_reducible refine Kd.C_drew ?_))); (case side4 => exact (Kd.R_reads' HO196.out).2.1); rintro e w' ⟨rfl, ⟨nd, rfl⟩⟩; obtain ⟨hcz40_0, hcz40_1, hcz40_2, hfz40_0, hfz40_1, hfz40_2⟩ := zc3 BK193.out) | ((with_reducible refine gd (N := 26) rfl ?_); (try (refine gg (by rfl) ?_; dsimp only)); refine Kd.R_lit (Kd.int .i64) _ 3 ?hg (N := 26) ?hd (xs := ([1] : List Int)) (inner := [.int .i64 1]) (ok := fun _ => True) (okp := fun _ => True) ?hr ?hp (fun _ hk => hk) trivial (Below.refl _ _) (Nat.le_refl _) (by simp) ?_; (case hd => rfl); (case hg => rfl); (case hr => go_simp; first | done | rfl); (case hp => exact (Reps.one (show Kd.M (Kd.int .i64) _ _ _ 1 [.int .i64 1] from rfl) (Reps.none _ _))); intro v199 w41 ho42 hb hg_ hnew_; clear hg_ hnew_; (first | rw [← Ny198.out] at ho42 | (simp only [Int.reduceToNat] at ho42; rw [← Ny198.out] at ho42)); have n0_ := zk (Kd.R_below (by (with_reducible repeat (first | apply Kd.R_alloc | apply Kd.R_drewN | apply Kd.R_drew)); exact HO170.out) hb); have n1_ := zk (Kd.R_below (by (with_reducible repeat (first | apply Kd.R_alloc | apply Kd.R_drewN | apply Kd.R_drew)); exact HO182.out) hb); have n2_ := zk (Kd.R_elder' (by (with_reducible repeat (first | apply Kd.R_alloc | apply Kd.R_drewN | apply Kd.R_drew)); exact HO185.out) (Kd.R_base ho42) hb); have n3_ := zk (Kd.R_elder' (by (with_reducible repeat (first | apply Kd.R_alloc | apply Kd.R_drewN | apply Kd.R_drew)); exact HO188.out) (Kd.R_base ho42) hb); have n4_ := zk (Kd.R_below (by (with_reducible repeat (first | apply Kd.R_alloc | apply Kd.R_drewN | apply Kd.R_drew)); exact HO191.out) hb); have n5_ := zk (Kd.R_elder' (by (with_reducible repeat (first | apply Kd.R_alloc | apply Kd.R_drewN | apply Kd.R_drew)); exact HO196.out) (Kd.R_base ho42) hb); have n6_ := zk (Kd.R_lower (Kd.R_new' (Kd.R_new' (Kd.R_new' ho42 (Kd.R_lt (by (with_reducible repeat (first | apply Kd.R_alloc | apply Kd.R_drewN | apply Kd.R_drew)); exact HO185.out))) (Kd.R_lt (by (with_reducible repeat (first | apply Kd.R_alloc | apply Kd.R_drewN | apply Kd.R_drew)); exact HO188.out))) (Kd.R_lt (by (with_reducible repeat (first | apply Kd.R_alloc | apply Kd.R_drewN | apply Kd.R_drew)); exact HO196.out))) (zq (by with_reducible repeat first | exact HB.out | apply zA | apply zN | apply zD | refine zS ?_ GE193.out))); have n7_ := zk (blk_below (g := gb193) (o := .cells #[.slice Ao33 t183.length co33, .slice Ao35 t186.length co35, .slice Ao36 t189.length co36] 30 (0, 0)) (by (with_reducible repeat first | apply zM | apply zE | apply zF); exact BK193.out) hb); have n8_ := zk (zs (by with_reducible repeat first | exact HB.out | apply zA | apply zN | apply zD | refine zS ?_ GE193.out) hb); clear HO170; clear HO182; clear HO185; clear HO188; clear HO191; clear HO196; clear BK193; clear HB; have HO170 := n0_; have HO182 := n1_; have HO185 := n2_; have HO188 := n3_; have HO191 := n4_; have HO196 := n5_; have HO200 := n6_; have BK193 := n7_; have HB := n8_; clear n0_ n1_ n2_ n3_ n4_ n5_ n6_ n7_ n8_; clear hb ho42; obtain ⟨Ao43, co43, eo43⟩ := Kd.R_slice HO200.out; subst eo43) | (go_at_call 15; (with_reducible refine (pl_Ints.calls k _ _ t186 _ _ y198 true _ ?side1 ?side2 ?side3 ?side4 A11.out).mono ?_); (case side1 => repeat (first | exact (Kd.R_reads' HO188.out).2.2 | (with_reducible refine Kd.C_alloc ?_ _) | (with_reducible refine Kd.C_drewN ?_ _) | (with_reducible refine Kd.C_drew ?_))); (case side2 => exact (Kd.R_reads' HO188.out).2.1); (case side3 => repeat (first | exact (Kd.R_reads' HO200.out).2.2 | (with_reducible refine Kd.C_alloc ?_ _) | (with_reducible refine Kd.C_drewN ?_ _) | (with_reducible refine Kd.C_drew ?_))); (case side4 => exact (Kd.R_reads' HO200.out).2.1); rintro e w' ⟨rfl, ⟨nd, rfl⟩⟩; obtain ⟨hcz44_0, hcz44_1, hcz44_2, hfz44_0, hfz44_1, hfz44_2⟩ := zc3 BK193.out; have p202 : 0 ≤ (0 : Int) := (by omega); have q202 : 0 < (t189.length : Int) := zo (by assumption); obtain ⟨ad202, e202, hx202_0, hx202_1, hx202_2⟩ := at_T46 (Kd.R_reads' HO191.out).2.2 0 p202 q202; cases e202; have qi202 : (0 < t189.length) = True := eq_true (by omega); (try rw [show ((0 : Int)).toNat = 0 from rfl] at hx202_0); (try rw [show 0 * 3 = 0 from rfl] at hx202_0); (try rw [Addr.add_zero'] at hx202_0); (try rw [show ((0 : Int)).toNat = 0 from rfl] at hx202_1); (try rw [show 0 * 3 = 0 from rfl] at hx202_1); (try rw [Addr.add_zero'] at hx202_1); (try rw [show ((0 : Int)).toNat = 0 from rfl] at hx202_2); (try rw [show 0 * 3 = 0 from rfl] at hx202_2); (try rw [Addr.add_zero'] at hx202_2); replace p202 := eq_true p202; replace q202 := eq_true q202; have p203 : 0 ≤ (1 : Int) := (by omega); have q203 : 1 < (t189.length : Int) := zo (by assumption); obtain ⟨ad203, e203, hx203_0, hx203_1, hx203_2⟩ := at_T46 (Kd.R_reads' HO191.out).2.2 1 p203 q203; obtain rfl : ad202 = ad203 := (by injection e203); (try simp only [show (1 : Int).toNat = 1 from rfl, Nat.reduceMul, Nat.reduceEqDiff, Go.Addr.add, ↓reduceIte] at hx203_0); (try simp only [show (1 : Int).toNat = 1 from rfl, Nat.reduceMul, Nat.reduceEqDiff, Go.Addr.add, ↓reduceIte] at hx203_1); (try simp only [show (1 : Int).toNat = 1 from rfl, Nat.reduceMul, Nat.reduceEqDiff, Go.Addr.add, ↓reduceIte] at hx203_2); have qi203 : (1 < t189.length) = True := eq_true (by omega); (try rw [show ((1 : Int)).toNat = 1 from rfl] at hx203_0); (try rw [show 1 * 3 = 3 from rfl] at hx203_0); (try rw [show ((1 : Int)).toNat = 1 from rfl] at hx203_1); (try rw [show 1 * 3 = 3 from rfl] at hx203_1); (try rw [show ((1 : Int)).toNat = 1 from rfl] at hx203_2); (try rw [show 1 * 3 = 3 from rfl] at hx203_2); replace p203 := eq_true p203; replace q203 := eq_true q203) | (go_at_call 18; (with_reducible refine (kids_Moves.calls k _ _ t183 _ _ t186 _ _ t189 t204 _ ?side1 ?side2 ?side3 ?side4 ?side5 ?side6 A18.out).mono ?_); (case side1 => repeat (first | exact (Kd.R_reads' HO185.out).2.2 | (with_reducible refine Kd.C_alloc ?_ _) | (with_reducible refine Kd.C_drewN ?_ _) | (with_reducible refine Kd.C_drew ?_))); (case side2 => exact (Kd.R_reads' HO185.out).2.1); (case side3 => repeat (first | exact (Kd.R_reads' HO188.out).2.2 | (with_reducible refine Kd.C_alloc ?_ _) | (with_reducible refine Kd.C_drewN ?_ _) | (with_reducible refine Kd.C_drew ?_))); (case side4 => exact (Kd.R_reads' HO188.out).2.1); (case side5 => repeat (first | exact (Kd.R_reads' HO191.out).2.2 | (with_reducible refine Kd.C_alloc ?_ _) | (with_reducible refine Kd.C_drewN ?_ _) | (with_reducible refine Kd.C_drew ?_))); (case side6 => exact (Kd.R_reads' HO191.out).2.1); rintro e w45 ⟨rfl, hb⟩; have n0_ := zk (Kd.R_below (by (with_reducible repeat (first | apply Kd.R_alloc | apply Kd.R_drewN | apply Kd.R_drew)); exact HO170.out) hb); have n1_ := zk (Kd.R_below (by (with_reducible repeat (first | apply Kd.R_alloc | apply Kd.R_drewN | apply Kd.R_drew)); exact HO182.out) hb); have n2_ := zk (Kd.R_below (by (with_reducible repeat (first | apply Kd.R_alloc | apply Kd.R_drewN | apply Kd.R_drew)); exact HO185.out) hb); have n3_ := zk (Kd.R_below (by (with_reducible repeat (first | apply Kd.R_alloc | apply Kd.R_drewN | apply Kd.R_drew)); exact HO188.out) hb); have n4_ := zk (Kd.R_below (by (with_reducible repeat (first | apply Kd.R_alloc | apply Kd.R_drewN | apply Kd.R_drew)); exact HO191.out) hb); have n5_ := zk (Kd.R_below (by (with_reducible repeat (first | apply Kd.R_alloc | apply Kd.R_drewN | apply Kd.R_drew)); exact HO196.out) hb); have n6_ := zk (Kd.R_below (by (with_reducible repeat (first | apply Kd.R_alloc | apply Kd.R_drewN | apply Kd.R_drew)); exact HO200.out) hb); have n7_ := zk (blk_below (g := gb193) (o := .cells #[.slice Ao33 t183.length co33, .slice Ao35 t186.length co35, .slice (some ad202) t189.length co36] 30 (0, 0)) (by (with_reducible repeat first | apply zM | apply zE | apply zF); exact BK193.out) hb); have n8_ := zk (zs (by with_reducible repeat first | exact HB.out | apply zA | apply zN | apply zD | refine zS ?_ GE193.out) hb); clear HO170; clear HO182; clear HO185; clear HO188; clear HO191; clear HO196; clear HO200; clear BK193; clear HB; have HO170 := n0_; have HO182 := n1_; have HO185 := n2_; have HO188 := n3_; have HO191 := n4_; have HO196 := n5_; have HO200 := n6_; have BK193 := n7_; have HB := n8_; clear n0_ n1_ n2_ n3_ n4_ n5_ n6_ n7_ n8_; (try clear hb); (try clear hb2); (try clear hk); (try clear hi)))
         go_ret; exact ⟨by first | rfl | (simp [wN, wS] <;> rfl) | (simp [*, wN, wS] <;> rfl), by with_reducible repeat first | exact HB.out | apply zA | apply zN | apply zD | refine zS ?_ GE193.out⟩
        ·
         rw [if_neg c17] at H
         have c17b0 : (((rd_T46 t189 1).f0) == 0 && (((rd_T46 t189 1).f1) == 2 && (((rd_T46 t189 1).f2) == 1))) = false := by simpa using c17
         (try (have c17b1 : decide (((rd_T46 t189 1).f0) = 0 && (((rd_T46 t189 1).f1) == 2 && (((rd_T46 t189 1).f2) == 1))) = false := by simpa using c17))
         (try (have c17b2 : (((rd_T46 t189 1).f0) == 0 && (((rd_T46 t189 1).f1) == 2 && (((rd_T46 t189 1).f2) == 1))) = false := by simpa using c17))
         (try (have c17b3 : ¬ (((rd_T46 t189 1).f0) = 0 && (((rd_T46 t189 1).f1) == 2 && (((rd_T46 t189 1).f2) == 1))) := by simpa using c17))
         clear c17; exact absurd ((Option.some.inj H).trans HR_.out) (by decide)
       ·
        rw [if_neg c16] at H; exact absurd H (by simp)
      ·
       rw [if_neg c15] at H
       have c15b0 : (((rd_T46 t189 0).f0) == 2 && (((rd_T46 t189 0).f1) == (-1) && (((rd_T46 t189 0).f2) == (-1)))) = false := by simpa using c15
       (try (have c15b1 : decide (((rd_T46 t189 0).f0) = 2 && (((rd_T46 t189 0).f1) == (-1) && (((rd_T46 t189 0).f2) == (-1)))) = false := by simpa using c15))
       (try (have c15b2 : (((rd_T46 t189 0).f0) == 2 && (((rd_T46 t189 0).f1) == (-1) && (((rd_T46 t189 0).f2) == (-1)))) = false := by simpa using c15))
       (try (have c15b3 : ¬ (((rd_T46 t189 0).f0) = 2 && (((rd_T46 t189 0).f1) == (-1) && (((rd_T46 t189 0).f2) == (-1)))) := by simpa using c15))
       clear c15; exact absurd ((Option.some.inj H).trans HR_.out) (by decide)
     ·
      rw [if_neg c14] at H; exact absurd H (by simp)
    ·
     rw [if_neg c13] at H; have c13b0 := beq_eq_false_iff_ne.mpr c13; have c13b1 := bne_iff_ne.mpr c13; exact absurd ((Option.some.inj H).trans HR_.out) (by decide)
   ·
    replace c12 := Bool.eq_false_iff.mpr c12; subst c12
    have H1 : (some false) = some r := by rw [if_neg (show ¬ (false = true) by decide)] at H; exact H
    clear H; have H := H1; clear H1; exact absurd ((Option.some.inj H).trans HR_.out) (by decide)
  ·
   replace c10 := Bool.eq_false_iff.mpr c10; subst c10
   have H1 : (some false) = some r := by rw [if_neg (show ¬ (false = true) by decide)] at H; exact H
   clear H; have H := H1; clear H1; exact absurd ((Option.some.inj H).trans HR_.out) (by decide)
 ·
  rw [if_neg c8] at H; have c8b0 : (t192 == 0) = false := beq_eq_false_iff_ne.mpr c8; have c8b1 : (t192 != 0) = true := bne_iff_ne.mpr c8; exact absurd ((Option.some.inj H).trans HR_.out) (by decide)
end Go.Proofs.Ytpekchebllobmaa.G
namespace Go.Proofs.Ytpekchebllobmaa.G
open List renaming setIfInBounds_toArray → zt, set_cons_zero → zu, set_cons_succ → zv
open Bool renaming true → T, false → F
open Go.RowKit Go.Proofs.YtpekchebllobmaaW.PrintWords Go.Proofs.YtpekchebllobmaaW.PrintLast Go.Proofs.YtpekchebllobmaaW.PrintMore
attribute [local go_sem] max2_int min2_int max_two min_two max_three min_three max_four min_four
set_option linter.unusedVariables false
set_option linter.unusedSimpArgs false
attribute [local go_sem high] eqA38
mutual
def lw_KidsPlan.j0 : Nat → List (S50) → List (S50) → Bool → Option (Bool)
 | 0, _, _, _ => none
 | k + 1, x0, x1, x19 => if x19 = true then ((lw_same.f k).bind fun t294 => (some t294)) else ((kids_Trim.f k x0 x1).bind fun bt295 => ((r32_Trim.f k x0 x1).bind fun bt297 => ((kids_Of.f k x0 x1).bind fun bt299 => (if bt295.1 = bt297.1 then (lw_KidsPlan.j1 k x0 x1 bt299.2.2.2 (bt295.2 != bt297.2) bt299.1 bt299.2.1 bt299.2.2.1) else (lw_KidsPlan.j1 k x0 x1 bt299.2.2.2 true bt299.1 bt299.2.1 bt299.2.2.1)))))
def lw_KidsPlan.j1 : Nat → List (S50) → List (S50) → Int → Bool → List Int → List Int → List (S46) → Option (Bool)
 | 0, _, _, _, _, _, _, _ => none
 | k + 1, x0, x1, x10, x46, x310000, x310001, x310002 => if x46 = true then (some false) else ((r32_Twice.f k x0).bind fun t310 => (if t310 = true then (lw_KidsPlan.j2 k x0 x1 x10 true x310000 x310001 x310002) else ((r32_Twice.f k x1).bind fun t311 => (lw_KidsPlan.j2 k x0 x1 x10 t311 x310000 x310001 x310002))))
def lw_KidsPlan.j2 : Nat → List (S50) → List (S50) → Int → Bool → List Int → List Int → List (S46) → Option (Bool)
 | 0, _, _, _, _, _, _, _ => none
 | k + 1, x0, x1, x10, x52, x310000, x310001, x310002 => if x52 = true then (if x10 = 10 then (if (wrap64 ((wrap64 ((x310000.length : Int) + (x310001.length : Int))) + (x310002.length : Int))) = 0 then ((lw_same.f k).bind fun t312 => (some t312)) else (some false)) else (some false)) else ((lw_steps.f k x310002).bind fun t313 => ((r32_Steps.f k x0 x1).bind fun t316 => (if (t313.length : Int) = (t316.length : Int) then (lw_KidsPlan.j3 k x0 x1 t313 t316 (x10 != 0) x310000 x310001 x310002) else (lw_KidsPlan.j3 k x0 x1 t313 t316 true x310000 x310001 x310002))))
def lw_KidsPlan.j3 : Nat → List (S50) → List (S50) → List (S38) → List (S38) → Bool → List Int → List Int → List (S46) → Option (Bool)
 | 0, _, _, _, _, _, _, _, _ => none
 | k + 1, x0, x1, x11, x12, x86, x310000, x310001, x310002 => if x86 = true then (some false) else (lw_KidsPlan.l0 k x0 x1 x11 x12 (x11.length : Int) 0 x310000 x310001 x310002)
def lw_KidsPlan.l0 : Nat → List (S50) → List (S50) → List (S38) → List (S38) → Int → Int → List Int → List Int → List (S46) → Option (Bool)
 | 0, _, _, _, _, _, _, _, _, _ => none
 | k + 1, x0, x1, x11, x12, x88, x89, x310000, x310001, x310002 => if x89 < x88 then (if 0 ≤ x89 then (if x89 < (x11.length : Int) then (if x89 < (x12.length : Int) then (if (!(((rd_T38 x11 x89).f0) == ((rd_T38 x12 x89).f0)) || (!(((rd_T38 x11 x89).f1) == ((rd_T38 x12 x89).f1)) || (!(((rd_T38 x11 x89).f2) == ((rd_T38 x12 x89).f2))))) = true then (some false) else (lw_KidsPlan.l0 k x0 x1 x11 x12 x88 (wrap64 (x89 + 1)) x310000 x310001 x310002)) else (none)) else (none)) else (none)) else ((r12_Kept.f k x0 x1).bind fun t321 => ((pl_Ints.f k x310000 t321).bind fun t324 => (if t324 = true then ((r32_Drop.f k x0 x1).bind fun t325 => ((pl_Ints.f k x310001 t325).bind fun t328 => (if t328 = true then ((kids_Moves.f k x310000 x310001 x310002).bind fun t329 => ((r08_Least.f k x310000).bind fun t330 => (if t329 = t330 then ((lw_same.f k).bind fun t331 => (some t331)) else (some false)))) else (some false)))) else (some false))))
end
def lw_KidsPlan.f (k : Nat) (l0 : List (S50)) (l1 : List (S50)) : Option (Bool) := (lw_heavy.f k l0).bind fun t292 => (if t292 = true then (lw_KidsPlan.j0 k l0 l1 true) else ((lw_heavy.f k l1).bind fun t293 => (lw_KidsPlan.j0 k l0 l1 t293)))
def lw_KidsPlan.T17 : Bool × List (List Nat × List Nat) := (true, [([], []), ([], []), ([0, 1], [0, 1]), ([2], [2]), ([], []), ([], []), ([4, 5], [4, 5]), ([6], [6]), ([3, 7], [3, 7])])
def lw_KidsPlan.B17 : List Nat := [0, 0, 3, 7, 0, 0, 48, 112, 255]
theorem lw_KidsPlan.tab17 : rtab .any (opsOf Try.f3 17) = lw_KidsPlan.T17 := by kernel_rfl
theorem lw_KidsPlan.bits17 : waitsOk lw_KidsPlan.T17.2 lw_KidsPlan.B17 = true := by kernel_rfl
def lw_KidsPlan.T20 : Bool × List (List Nat × List Nat) := (true, [([], []), ([0], [0]), ([], []), ([], []), ([2, 3], [2, 3]), ([1, 4, 4], [1, 4]), ([5, 5], [5]), ([6], [6]), ([7, 6], [6, 7]), ([6], [6]), ([6], [6]), ([9, 10, 6, 6], [6, 9, 10]), ([8, 11, 11, 6], [6, 8, 11]), ([6, 12], [6, 12]), ([13, 12], [13]), ([14], [14]), ([15, 14, 14], [14, 15]), ([14], [14]), ([17, 14], [14, 17]), ([18, 16, 14], [14, 18]), ([16, 19, 14], [14, 16, 19]), ([14, 20], [14, 20]), ([21, 19], [21]), ([22, 22], [22]), ([22, 23], [22, 23]), ([24, 23, 0, 1, 2, 3, 4, 5, 6, 7, 8, 9, 10, 11, 12, 13, 14, 15, 16, 17, 18, 19, 20, 21, 22, 23, 24], [24])])
def lw_KidsPlan.B20 : List Nat := [0, 1, 0, 0, 12, 31, 63, 127, 255, 127, 127, 1663, 4095, 8191, 16383, 32767, 65535, 32767, 163839, 524287, 1048575, 2097151, 4194303, 8388607, 16777215, 33554431]
theorem lw_KidsPlan.tab20 : rtab .any (opsOf Try.f3 20) = lw_KidsPlan.T20 := by kernel_rfl
theorem lw_KidsPlan.bits20 : waitsOk lw_KidsPlan.T20.2 lw_KidsPlan.B20 = true := by kernel_rfl
set_option maxHeartbeats 8000000 in
set_option maxRecDepth 100000 in
theorem lw_KidsPlan.calls (k : Nat) (A0 : Option Addr) (c0 : Nat) (l0 : List (S50)) (A1 : Option Addr) (c1 : Nat) (l1 : List (S50)) (r : Bool) (w : World) (hr0 : Kd.C k50 w A0 l0.length l0) (hc0 : l0.length ≤ c0) (hr1 : Kd.C k50 w A1 l1.length l1) (hc1 : l1.length ≤ c1) (h : (if r = true then lw_KidsPlan.f k l0 l1 else none) = some r) :
  Calls Try.prog 3 #[.slice A0 l0.length c0, .slice A1 l1.length c1] w fun e w' => e = .returned (.bool r) ∧ Below w.heap.size w w' := by
 split at h
 case isFalse => cases h
 rename_i hr_
 have HR_ := zk hr_
 clear hr_
 have hu30 := Try.underlying30
 have hu38 := Try.underlying38
 have HR0 := zk hr0
 have HC0 := zk hc0
 clear hr0 hc0
 have HR1 := zk hr1
 have HC1 := zk hc1
 clear hr1 hc1
 have HB := zk (Below.refl w.heap.size w)
 have H : ((lw_heavy.f k l0).bind fun t292 => (if t292 = true then (lw_KidsPlan.j0 k l0 l1 true) else ((lw_heavy.f k l1).bind fun t293 => (lw_KidsPlan.j0 k l0 l1 t293)))) = some r := h
 clear h
 have HC3 := zk H
 clear H
 go_enter Try.func3, Try.ntmps3
 go_upto_region 1 with (fail)
 go_cut [19] (fun v19 wc => ∃ (kq : Nat) (x19_2 : Bool), v19 = .bool x19_2 ∧ Aside0 (lw_KidsPlan.j0 kq l0 l1 x19_2 = some r) ∧ Aside0 (kq ≤ k) ∧ Aside0 (Below w.heap.size w wc))
 case first =>
  have H := HC3.out; clear HC3; replace H := Option.bind_eq_some_iff.mp H; obtain ⟨t292, A40, H⟩ := H; replace H : (if t292 = true then (lw_KidsPlan.j0 k l0 l1 true) else ((lw_heavy.f k l1).bind fun t293 => (lw_KidsPlan.j0 k l0 l1 t293))) = some r := H; have A4 := zk A40; clear A40
  by_cases c5 : t292 = true
  ·
   subst c5
   have H1 : (lw_KidsPlan.j0 k l0 l1 true) = some r := by rw [if_pos rfl] at H; exact H
   clear H; have H := H1; clear H1; have H' := zk H; clear H
   go_wp2_with (first | ((with_reducible refine gk (f := 7) rfl ?_); refine gl (some 15) rfl rfl Try.func7 (by kernel_rfl) rfl #[.slice A0 l0.length c0] rfl (by (try simp only [List.map_toArray, List.map_cons, List.map_nil]); first | done | rfl | (simp only [List.length_drop, List.length_take]; rfl)) ?_; (with_reducible refine (lw_heavy.calls k _ _ l0 true _ ?side1 ?side2 A4.out).mono ?_); (case side1 => repeat (first | exact (Kd.C_below HR0.out HB.out) | (with_reducible refine Kd.C_alloc ?_ _) | (with_reducible refine Kd.C_drewN ?_ _) | (with_reducible refine Kd.C_drew ?_))); (case side2 => exact HC0.out); rintro e w' ⟨rfl, ⟨nd, rfl⟩⟩; refine ⟨_, rfl, ?_⟩))
   go_meet
   case rel => exact ⟨_, (true), (by first | rfl | (simp; done) | (simp [*]; done)), H', ⟨by first | omega | exact Nat.le_refl _⟩, ⟨by with_reducible repeat first | exact HB.out | apply zA | apply zN | apply zD⟩⟩
  ·
   replace c5 := Bool.eq_false_iff.mpr c5; subst c5
   have H1 : ((lw_heavy.f k l1).bind fun t293 => (lw_KidsPlan.j0 k l0 l1 t293)) = some r := by rw [if_neg (show ¬ (false = true) by decide)] at H; exact H
   clear H; have H := H1; clear H1; replace H := Option.bind_eq_some_iff.mp H; obtain ⟨t293, A60, H⟩ := H; replace H : (lw_KidsPlan.j0 k l0 l1 t293) = some r := H; have A6 := zk A60; clear A60; have H' := zk H; clear H
   go_wp2_with (first | ((with_reducible refine gk (f := 7) rfl ?_); refine gl (some 15) rfl rfl Try.func7 (by kernel_rfl) rfl #[.slice A0 l0.length c0] rfl (by (try simp only [List.map_toArray, List.map_cons, List.map_nil]); first | done | rfl | (simp only [List.length_drop, List.length_take]; rfl)) ?_; (with_reducible refine (lw_heavy.calls k _ _ l0 false _ ?side1 ?side2 A4.out).mono ?_); (case side1 => repeat (first | exact (Kd.C_below HR0.out HB.out) | (with_reducible refine Kd.C_alloc ?_ _) | (with_reducible refine Kd.C_drewN ?_ _) | (with_reducible refine Kd.C_drew ?_))); (case side2 => exact HC0.out); rintro e w' ⟨rfl, ⟨nd, rfl⟩⟩; refine ⟨_, rfl, ?_⟩) | (go_at_call 7; (with_reducible refine (lw_heavy.calls k _ _ l1 t293 _ ?side1 ?side2 A6.out).mono ?_); (case side1 => repeat (first | exact (Kd.C_below HR1.out (by with_reducible repeat first | exact HB.out | apply zA | apply zN | apply zD)) | (with_reducible refine Kd.C_alloc ?_ _) | (with_reducible refine Kd.C_drewN ?_ _) | (with_reducible refine Kd.C_drew ?_))); (case side2 => exact HC1.out); rintro e w' ⟨rfl, ⟨nd, rfl⟩⟩))
   go_meet
   case rel => exact ⟨_, (t293), (by first | rfl | (simp; done) | (simp [*]; done)), H', ⟨by first | omega | exact Nat.le_refl _⟩, ⟨by with_reducible repeat first | exact HB.out | apply zA | apply zN | apply zD⟩⟩
 case rest =>
  clear HC3; (try clear c1); (try clear p2); (try clear c3); (try clear c5); obtain ⟨kq, x19_2, rfl, HA, HJ2, HB⟩ := hcut
  cases kq with
  | zero => exact absurd HA.out (by simp [lw_KidsPlan.j0])
  | succ kj2 =>
   have H := HA.out; clear HA; simp only [lw_KidsPlan.j0] at H
   by_cases c7 : x19_2 = true
   ·
    subst c7
    have H1 : ((lw_same.f kj2).bind fun t294 => (some t294)) = some r := by rw [if_pos rfl] at H; exact H
    clear H; have H := H1; clear H1; replace H := Option.bind_eq_some_iff.mp H; obtain ⟨t294, A80, H⟩ := H; replace H : (some t294) = some r := H; have A8 := zk A80; clear A80; obtain rfl := Option.some.inj H
    go_wp2_with (first | ((with_reducible refine gk (f := 8) rfl ?_); refine gl (some 20) rfl rfl Try.func8 (by kernel_rfl) rfl #[] rfl (by (try simp only [List.map_toArray, List.map_cons, List.map_nil]); first | done | rfl | (simp only [List.length_drop, List.length_take]; rfl)) ?_; (with_reducible refine (lw_same.calls kj2  t294 _ A8.out).mono ?_); rintro e w9 ⟨rfl, hb⟩; refine ⟨_, rfl, ?_⟩; have n0_ := zk (zs (by with_reducible repeat first | exact HB.out | apply zA | apply zN | apply zD) hb); clear HB; have HB := n0_; clear n0_; (try clear hb); (try clear hb2); (try clear hk); (try clear hi)))
    go_ret; exact ⟨by first | rfl | (simp [wN, wS] <;> rfl) | (simp [*, wN, wS] <;> rfl), by with_reducible repeat first | exact HB.out | apply zA | apply zN | apply zD⟩
   ·
    replace c7 := Bool.eq_false_iff.mpr c7; subst c7
    have H1 : ((kids_Trim.f kj2 l0 l1).bind fun bt295 => ((r32_Trim.f kj2 l0 l1).bind fun bt297 => ((kids_Of.f kj2 l0 l1).bind fun bt299 => (if bt295.1 = bt297.1 then (lw_KidsPlan.j1 kj2 l0 l1 bt299.2.2.2 (bt295.2 != bt297.2) bt299.1 bt299.2.1 bt299.2.2.1) else (lw_KidsPlan.j1 kj2 l0 l1 bt299.2.2.2 true bt299.1 bt299.2.1 bt299.2.2.1))))) = some r := by rw [if_neg (show ¬ (false = true) by decide)] at H; exact H
    clear H; have H := H1; clear H1; replace H := Option.bind_eq_some_iff.mp H; obtain ⟨⟨t295, t296⟩, A100, H⟩ := H; replace H : ((r32_Trim.f kj2 l0 l1).bind fun bt297 => ((kids_Of.f kj2 l0 l1).bind fun bt299 => (if t295 = bt297.1 then (lw_KidsPlan.j1 kj2 l0 l1 bt299.2.2.2 (t296 != bt297.2) bt299.1 bt299.2.1 bt299.2.2.1) else (lw_KidsPlan.j1 kj2 l0 l1 bt299.2.2.2 true bt299.1 bt299.2.1 bt299.2.2.1)))) = some r := H; have A10 := zk A100; clear A100; replace H := Option.bind_eq_some_iff.mp H; obtain ⟨⟨t297, t298⟩, A110, H⟩ := H; replace H : ((kids_Of.f kj2 l0 l1).bind fun bt299 => (if t295 = t297 then (lw_KidsPlan.j1 kj2 l0 l1 bt299.2.2.2 (t296 != t298) bt299.1 bt299.2.1 bt299.2.2.1) else (lw_KidsPlan.j1 kj2 l0 l1 bt299.2.2.2 true bt299.1 bt299.2.1 bt299.2.2.1))) = some r := H; have A11 := zk A110; clear A110; replace H := Option.bind_eq_some_iff.mp H; obtain ⟨⟨t299, t302, t305, t308⟩, A120, H⟩ := H; replace H : (if t295 = t297 then (lw_KidsPlan.j1 kj2 l0 l1 t308 (t296 != t298) t299 t302 t305) else (lw_KidsPlan.j1 kj2 l0 l1 t308 true t299 t302 t305)) = some r := H; have A12 := zk A120; clear A120; have HC13 := zk H; clear H
    go_upto_region 6 with (first | ((with_reducible refine gk (f := 9) rfl ?_); refine gl (some 24) rfl rfl Try.func9 (by kernel_rfl) rfl #[.slice A0 l0.length c0, .slice A1 l1.length c1] rfl (by (try simp only [List.map_toArray, List.map_cons, List.map_nil]); first | done | rfl | (simp only [List.length_drop, List.length_take]; rfl)) ?_; (with_reducible refine (kids_Trim.calls kj2 _ _ l0 _ _ l1 t295 t296 _ ?side1 ?side2 ?side3 ?side4 A10.out).mono ?_); (case side1 => repeat (first | exact (Kd.C_below HR0.out HB.out) | (with_reducible refine Kd.C_alloc ?_ _) | (with_reducible refine Kd.C_drewN ?_ _) | (with_reducible refine Kd.C_drew ?_))); (case side2 => exact HC0.out); (case side3 => repeat (first | exact (Kd.C_below HR1.out HB.out) | (with_reducible refine Kd.C_alloc ?_ _) | (with_reducible refine Kd.C_drewN ?_ _) | (with_reducible refine Kd.C_drew ?_))); (case side4 => exact HC1.out); rintro e w14 ⟨rfl, hb⟩; refine ⟨_, rfl, ?_⟩; have n0_ := zk (zs (by with_reducible repeat first | exact HB.out | apply zA | apply zN | apply zD) hb); clear HB; have HB := n0_; clear n0_; (try clear hb); (try clear hb2); (try clear hk); (try clear hi)) | ((with_reducible refine gk (f := 10) rfl ?_); refine gl (some 30) rfl rfl Try.func10 (by kernel_rfl) rfl #[.slice A0 l0.length c0, .slice A1 l1.length c1] rfl (by (try simp only [List.map_toArray, List.map_cons, List.map_nil]); first | done | rfl | (simp only [List.length_drop, List.length_take]; rfl)) ?_; (with_reducible refine (r32_Trim.calls kj2 _ _ l0 _ _ l1 t297 t298 _ ?side1 ?side2 ?side3 ?side4 A11.out).mono ?_); (case side1 => repeat (first | exact (Kd.C_below HR0.out HB.out) | (with_reducible refine Kd.C_alloc ?_ _) | (with_reducible refine Kd.C_drewN ?_ _) | (with_reducible refine Kd.C_drew ?_))); (case side2 => exact HC0.out); (case side3 => repeat (first | exact (Kd.C_below HR1.out HB.out) | (with_reducible refine Kd.C_alloc ?_ _) | (with_reducible refine Kd.C_drewN ?_ _) | (with_reducible refine Kd.C_drew ?_))); (case side4 => exact HC1.out); rintro e w' ⟨rfl, ⟨nd, rfl⟩⟩; refine ⟨_, rfl, ?_⟩; (try (rw [drewN_self w14]; generalize hq_ : World.drewN w14 _ = w14; have n0_ : Aside0 (Below w.heap.size w w14) := ⟨by rw [← hq_]; exact (by with_reducible repeat first | exact HB.out | apply zA | apply zN | apply zD)⟩; clear HB hq_; have HB := n0_; clear n0_))) | ((with_reducible refine gk (f := 11) rfl ?_); refine gl (some 36) rfl rfl Try.func11 (by kernel_rfl) rfl #[.slice A0 l0.length c0, .slice A1 l1.length c1] rfl (by (try simp only [List.map_toArray, List.map_cons, List.map_nil]); first | done | rfl | (simp only [List.length_drop, List.length_take]; rfl)) ?_; (with_reducible refine (kids_Of.calls kj2 _ _ l0 _ _ l1 t299 t302 t305 t308 _ ?side1 ?side2 ?side3 ?side4 A12.out).mono ?_); (case side1 => repeat (first | exact (Kd.C_below HR0.out HB.out) | (with_reducible refine Kd.C_alloc ?_ _) | (with_reducible refine Kd.C_drewN ?_ _) | (with_reducible refine Kd.C_drew ?_))); (case side2 => exact HC0.out); (case side3 => repeat (first | exact (Kd.C_below HR1.out HB.out) | (with_reducible refine Kd.C_alloc ?_ _) | (with_reducible refine Kd.C_drewN ?_ _) | (with_reducible refine Kd.C_drew ?_))); (case side4 => exact HC1.out); rintro e w15 ⟨v300, v303, v306, rfl, ho0, ho1, ho2, hb⟩; refine ⟨_, rfl, ?_⟩; have n0_ := zk (Kd.R_lower ho0 (zq (by with_reducible repeat first | exact HB.out | apply zA | apply zN | apply zD))); have n1_ := zk (Kd.R_lower ho1 (zq (by with_reducible repeat first | exact HB.out | apply zA | apply zN | apply zD))); have n2_ := zk (Kd.R_lower ho2 (zq (by with_reducible repeat first | exact HB.out | apply zA | apply zN | apply zD))); have n3_ := zk (zs (by with_reducible repeat first | exact HB.out | apply zA | apply zN | apply zD) hb); clear HB; have HO301 := n0_; have HO304 := n1_; have HO307 := n2_; have HB := n3_; clear n0_ n1_ n2_ n3_; (try clear hb); (try clear hb2); (try clear hk); (try clear hi); (try clear ho0); (try clear ho1); (try clear ho2)) | ((with_reducible refine gd (N := 9) rfl ?_); (try (refine gg (by rfl) ?_; dsimp only)); refine zb ?hg (N := 9) ?hd (cs := #[.slice none 0 0, .slice none 0 0, .slice none 0 0]) (t := 30) ?hr ?_; (case hd => rfl); (case hg => rfl); (case hr => go_simp; first | done | rfl); intro gb309 hg w16 hbox hb; have n0_ := zk (Kd.R_below (by (with_reducible repeat (first | apply Kd.R_alloc | apply Kd.R_drewN | apply Kd.R_drew)); exact HO301.out) hb); have n1_ := zk (Kd.R_below (by (with_reducible repeat (first | apply Kd.R_alloc | apply Kd.R_drewN | apply Kd.R_drew)); exact HO304.out) hb); have n2_ := zk (Kd.R_below (by (with_reducible repeat (first | apply Kd.R_alloc | apply Kd.R_drewN | apply Kd.R_drew)); exact HO307.out) hb); have n3_ := zk (zs (by with_reducible repeat first | exact HB.out | apply zA | apply zN | apply zD) hb); have n4_ := zk (hbox); have n5_ := zk ((by rw [hg]; exact (zq (by with_reducible repeat first | exact HB.out | apply zA | apply zN | apply zD)) : w.heap.size ≤ gb309)); have n6_ := n5_; clear HO301; clear HO304; clear HO307; clear HB; have HO301 := n0_; have HO304 := n1_; have HO307 := n2_; have HB := n3_; have BK309 := n4_; have GW309 := n5_; have GE309 := n6_; clear n0_ n1_ n2_ n3_ n4_ n5_ n6_; clear hb hbox hg; obtain ⟨Ao17, co17, eo17⟩ := Kd.R_slice HO301.out; subst eo17; obtain ⟨hcz18_0, hcz18_1, hcz18_2, hfz18_0, hfz18_1, hfz18_2⟩ := zc3 BK309.out; obtain ⟨Ao19, co19, eo19⟩ := Kd.R_slice HO304.out; subst eo19; obtain ⟨Ao20, co20, eo20⟩ := Kd.R_slice HO307.out; subst eo20))
    (try simp only [Act.put, zt, zu, zv])
    go_cut [46] (fun v46 wc => ∃ (kq : Nat) (x46_12 : Bool), v46 = .bool x46_12 ∧ Aside0 (lw_KidsPlan.j1 kq l0 l1 t308 x46_12 t299 t302 t305 = some r) ∧ Aside0 (kq ≤ kj2) ∧ Aside0 (Kd.R (Kd.int .i64) 3 wc w.heap.size (fun k_ => some k_ ≠ ((.slice Ao19 t302.length co19) : Value).ownBlock) (.slice Ao17 t299.length co17) t299) ∧ Aside0 (Kd.R (Kd.int .i64) 3 wc w.heap.size (fun k_ => some k_ ≠ ((.slice Ao17 t299.length co17) : Value).ownBlock) (.slice Ao19 t302.length co19) t302) ∧ Aside0 (Kd.R k46 46 wc w.heap.size (fun _ => True) (.slice Ao20 t305.length co20) t305) ∧ Aside0 (wc.heap[gb309]? = some (.cells #[(.slice Ao17 t299.length co17), (.slice Ao19 t302.length co19), (.slice Ao20 t305.length co20)] 30 (0, 0))) ∧ Aside0 (Below w.heap.size w wc))
    case first =>
     have H := HC13.out; clear HC13
     by_cases c21 : t295 = t297
     ·
      rw [if_pos c21] at H; have c21b0 := beq_iff_eq.mpr c21; have c21b1 := bne_eq_false_iff_eq.mpr c21; clear c21
      (first | rw [c21b0] | (simp only [i64_w, i32_w]; rw [c21b0]) | skip)
      have H' := zk H; clear H; go_wp2
      go_meet
      case rel => exact ⟨_, ((t296 != t298)), (by first | rfl | (simp; done) | (simp [*]; done)), H', ⟨by have := HJ2.out; first | omega | exact Nat.le_refl _⟩, ⟨by (with_reducible repeat (first | apply Kd.R_alloc | apply Kd.R_drewN | apply Kd.R_drew)); exact Kd.R_mono (Kd.R_far (p := ⟨gb309, 2, none⟩) (Kd.R_far (p := ⟨gb309, 1, none⟩) (Kd.R_far (p := ⟨gb309, 0, none⟩) (Kd.R_types HO301.out BK309.out (by decide)) (fun _ hk => hk.2) (.slice Ao17 t299.length co17)) (fun _ hk => hk.2) (.slice Ao19 t302.length co19)) (fun _ hk => hk.2) (.slice Ao20 t305.length co20)) (fun _ hk => hk.1)⟩, ⟨by (with_reducible repeat (first | apply Kd.R_alloc | apply Kd.R_drewN | apply Kd.R_drew)); exact Kd.R_mono (Kd.R_far (p := ⟨gb309, 2, none⟩) (Kd.R_far (p := ⟨gb309, 1, none⟩) (Kd.R_far (p := ⟨gb309, 0, none⟩) (Kd.R_types HO304.out BK309.out (by decide)) (fun _ hk => hk.2) (.slice Ao17 t299.length co17)) (fun _ hk => hk.2) (.slice Ao19 t302.length co19)) (fun _ hk => hk.2) (.slice Ao20 t305.length co20)) (fun _ hk => hk.1)⟩, ⟨by (with_reducible repeat (first | apply Kd.R_alloc | apply Kd.R_drewN | apply Kd.R_drew)); exact Kd.R_mono (Kd.R_far (p := ⟨gb309, 2, none⟩) (Kd.R_far (p := ⟨gb309, 1, none⟩) (Kd.R_far (p := ⟨gb309, 0, none⟩) (Kd.R_types HO307.out BK309.out (by decide)) (fun _ hk => hk.2) (.slice Ao17 t299.length co17)) (fun _ hk => hk.2) (.slice Ao19 t302.length co19)) (fun _ hk => hk.2) (.slice Ao20 t305.length co20)) (fun _ hk => trivial)⟩, ⟨by (with_reducible repeat first | apply zM | apply zE | apply zF); refine zP (cs := #[.slice Ao17 t299.length co17, .slice Ao19 t302.length co19, .slice none 0 0]) ?_ 2 _ rfl; (with_reducible repeat first | apply zM | apply zE | apply zF); refine zP (cs := #[.slice Ao17 t299.length co17, .slice none 0 0, .slice none 0 0]) ?_ 1 _ rfl; (with_reducible repeat first | apply zM | apply zE | apply zF); refine zP (cs := #[.slice none 0 0, .slice none 0 0, .slice none 0 0]) ?_ 0 _ rfl; (with_reducible repeat first | apply zM | apply zE | apply zF); exact BK309.out⟩, ⟨by with_reducible repeat first | exact HB.out | apply zA | apply zN | apply zD | refine zS ?_ GE309.out⟩⟩
     ·
      rw [if_neg c21] at H; have c21b0 := beq_eq_false_iff_ne.mpr c21; have c21b1 := bne_iff_ne.mpr c21
      (first | rw [c21b0] | (simp only [i64_w, i32_w]; rw [c21b0]) | skip)
      have H' := zk H; clear H; go_wp2
      go_meet
      case rel => exact ⟨_, (true), (by first | rfl | (simp; done) | (simp [*]; done)), H', ⟨by have := HJ2.out; first | omega | exact Nat.le_refl _⟩, ⟨by (with_reducible repeat (first | apply Kd.R_alloc | apply Kd.R_drewN | apply Kd.R_drew)); exact Kd.R_mono (Kd.R_far (p := ⟨gb309, 2, none⟩) (Kd.R_far (p := ⟨gb309, 1, none⟩) (Kd.R_far (p := ⟨gb309, 0, none⟩) (Kd.R_types HO301.out BK309.out (by decide)) (fun _ hk => hk.2) (.slice Ao17 t299.length co17)) (fun _ hk => hk.2) (.slice Ao19 t302.length co19)) (fun _ hk => hk.2) (.slice Ao20 t305.length co20)) (fun _ hk => hk.1)⟩, ⟨by (with_reducible repeat (first | apply Kd.R_alloc | apply Kd.R_drewN | apply Kd.R_drew)); exact Kd.R_mono (Kd.R_far (p := ⟨gb309, 2, none⟩) (Kd.R_far (p := ⟨gb309, 1, none⟩) (Kd.R_far (p := ⟨gb309, 0, none⟩) (Kd.R_types HO304.out BK309.out (by decide)) (fun _ hk => hk.2) (.slice Ao17 t299.length co17)) (fun _ hk => hk.2) (.slice Ao19 t302.length co19)) (fun _ hk => hk.2) (.slice Ao20 t305.length co20)) (fun _ hk => hk.1)⟩, ⟨by (with_reducible repeat (first | apply Kd.R_alloc | apply Kd.R_drewN | apply Kd.R_drew)); exact Kd.R_mono (Kd.R_far (p := ⟨gb309, 2, none⟩) (Kd.R_far (p := ⟨gb309, 1, none⟩) (Kd.R_far (p := ⟨gb309, 0, none⟩) (Kd.R_types HO307.out BK309.out (by decide)) (fun _ hk => hk.2) (.slice Ao17 t299.length co17)) (fun _ hk => hk.2) (.slice Ao19 t302.length co19)) (fun _ hk => hk.2) (.slice Ao20 t305.length co20)) (fun _ hk => trivial)⟩, ⟨by (with_reducible repeat first | apply zM | apply zE | apply zF); refine zP (cs := #[.slice Ao17 t299.length co17, .slice Ao19 t302.length co19, .slice none 0 0]) ?_ 2 _ rfl; (with_reducible repeat first | apply zM | apply zE | apply zF); refine zP (cs := #[.slice Ao17 t299.length co17, .slice none 0 0, .slice none 0 0]) ?_ 1 _ rfl; (with_reducible repeat first | apply zM | apply zE | apply zF); refine zP (cs := #[.slice none 0 0, .slice none 0 0, .slice none 0 0]) ?_ 0 _ rfl; (with_reducible repeat first | apply zM | apply zE | apply zF); exact BK309.out⟩, ⟨by with_reducible repeat first | exact HB.out | apply zA | apply zN | apply zD | refine zS ?_ GE309.out⟩⟩
    case rest =>
     clear HC13; (try clear c1); (try clear c2); (try clear p2); (try clear c3); (try clear c5); (try clear c7); (try clear c8); (try clear c9); (try clear c10); (try clear c11); (try clear c21); (try clear c21b0); (try clear c21b1); (try clear p2); obtain ⟨kq, x46_12, rfl, HA, HJ12, HO_310000, HO_310001, HO_310002, BK309, HB⟩ := hcut
     cases kq with
     | zero => exact absurd HA.out (by simp [lw_KidsPlan.j1])
     | succ kj12 =>
      have H := HA.out; clear HA; simp only [lw_KidsPlan.j1] at H
      by_cases c22 : x46_12 = true
      ·
       subst c22
       have H1 : (some false) = some r := by rw [if_pos rfl] at H; exact H
       clear H; have H := H1; clear H1; exact absurd ((Option.some.inj H).trans HR_.out) (by decide)
      ·
       replace c22 := Bool.eq_false_iff.mpr c22; subst c22
       have H1 : ((r32_Twice.f kj12 l0).bind fun t310 => (if t310 = true then (lw_KidsPlan.j2 kj12 l0 l1 t308 true t299 t302 t305) else ((r32_Twice.f kj12 l1).bind fun t311 => (lw_KidsPlan.j2 kj12 l0 l1 t308 t311 t299 t302 t305)))) = some r := by rw [if_neg (show ¬ (false = true) by decide)] at H; exact H
       clear H; have H := H1; clear H1; have HC23 := zk H; clear H
       go_upto_region 8 with (fail)
       go_cut [52] (fun v52 wc => ∃ (kq : Nat) (x52_22 : Bool), v52 = .bool x52_22 ∧ Aside0 (lw_KidsPlan.j2 kq l0 l1 t308 x52_22 t299 t302 t305 = some r) ∧ Aside0 (kq ≤ kj12) ∧ Aside0 (Kd.R (Kd.int .i64) 3 wc w.heap.size (fun k_ => some k_ ≠ ((.slice Ao19 t302.length co19) : Value).ownBlock) (.slice Ao17 t299.length co17) t299) ∧ Aside0 (Kd.R (Kd.int .i64) 3 wc w.heap.size (fun k_ => some k_ ≠ ((.slice Ao17 t299.length co17) : Value).ownBlock) (.slice Ao19 t302.length co19) t302) ∧ Aside0 (Kd.R k46 46 wc w.heap.size (fun _ => True) (.slice Ao20 t305.length co20) t305) ∧ Aside0 (wc.heap[gb309]? = some (.cells #[(.slice Ao17 t299.length co17), (.slice Ao19 t302.length co19), (.slice Ao20 t305.length co20)] 30 (0, 0))) ∧ Aside0 (Below w.heap.size w wc))
       case first =>
        have H := HC23.out; clear HC23; replace H := Option.bind_eq_some_iff.mp H; obtain ⟨t310, A240, H⟩ := H; replace H : (if t310 = true then (lw_KidsPlan.j2 kj12 l0 l1 t308 true t299 t302 t305) else ((r32_Twice.f kj12 l1).bind fun t311 => (lw_KidsPlan.j2 kj12 l0 l1 t308 t311 t299 t302 t305))) = some r := H; have A24 := zk A240; clear A240
        by_cases c25 : t310 = true
        ·
         subst c25
         have H1 : (lw_KidsPlan.j2 kj12 l0 l1 t308 true t299 t302 t305) = some r := by rw [if_pos rfl] at H; exact H
         clear H; have H := H1; clear H1; have H' := zk H; clear H
         go_wp2_with (first | ((with_reducible refine gk (f := 12) rfl ?_); refine gl (some 48) rfl rfl Try.func12 (by kernel_rfl) rfl #[.slice A0 l0.length c0] rfl (by (try simp only [List.map_toArray, List.map_cons, List.map_nil]); first | done | rfl | (simp only [List.length_drop, List.length_take]; rfl)) ?_; (with_reducible refine (r32_Twice.calls kj12 _ _ l0 true _ ?side1 ?side2 A24.out).mono ?_); (case side1 => repeat (first | exact (Kd.C_below HR0.out HB.out) | (with_reducible refine Kd.C_alloc ?_ _) | (with_reducible refine Kd.C_drewN ?_ _) | (with_reducible refine Kd.C_drew ?_))); (case side2 => exact HC0.out); rintro e w26 ⟨rfl, hb⟩; refine ⟨_, rfl, ?_⟩; have n0_ := zk (Kd.R_below (by (with_reducible repeat (first | apply Kd.R_alloc | apply Kd.R_drewN | apply Kd.R_drew)); exact HO_310000.out) hb); have n1_ := zk (Kd.R_below (by (with_reducible repeat (first | apply Kd.R_alloc | apply Kd.R_drewN | apply Kd.R_drew)); exact HO_310001.out) hb); have n2_ := zk (Kd.R_below (by (with_reducible repeat (first | apply Kd.R_alloc | apply Kd.R_drewN | apply Kd.R_drew)); exact HO_310002.out) hb); have n3_ := zk (blk_below (g := gb309) (o := .cells #[.slice Ao17 t299.length co17, .slice Ao19 t302.length co19, .slice Ao20 t305.length co20] 30 (0, 0)) (by (with_reducible repeat first | apply zM | apply zE | apply zF); exact BK309.out) hb); have n4_ := zk (zs (by with_reducible repeat first | exact HB.out | apply zA | apply zN | apply zD | refine zS ?_ GE309.out) hb); clear HO_310000; clear HO_310001; clear HO_310002; clear BK309; clear HB; have HO_310000 := n0_; have HO_310001 := n1_; have HO_310002 := n2_; have BK309 := n3_; have HB := n4_; clear n0_ n1_ n2_ n3_ n4_; (try clear hb); (try clear hb2); (try clear hk); (try clear hi)))
         go_meet
         case rel => exact ⟨_, (true), (by first | rfl | (simp; done) | (simp [*]; done)), H', ⟨by have := HJ2.out; have := HJ12.out; first | omega | exact Nat.le_refl _⟩, ⟨by (with_reducible repeat (first | apply Kd.R_alloc | apply Kd.R_drewN | apply Kd.R_drew)); exact HO_310000.out⟩, ⟨by (with_reducible repeat (first | apply Kd.R_alloc | apply Kd.R_drewN | apply Kd.R_drew)); exact HO_310001.out⟩, ⟨by (with_reducible repeat (first | apply Kd.R_alloc | apply Kd.R_drewN | apply Kd.R_drew)); exact HO_310002.out⟩, ⟨by (with_reducible repeat first | apply zM | apply zE | apply zF); exact BK309.out⟩, ⟨by with_reducible repeat first | exact HB.out | apply zA | apply zN | apply zD | refine zS ?_ GE309.out⟩⟩
        ·
         replace c25 := Bool.eq_false_iff.mpr c25; subst c25
         have H1 : ((r32_Twice.f kj12 l1).bind fun t311 => (lw_KidsPlan.j2 kj12 l0 l1 t308 t311 t299 t302 t305)) = some r := by rw [if_neg (show ¬ (false = true) by decide)] at H; exact H
         clear H; have H := H1; clear H1; replace H := Option.bind_eq_some_iff.mp H; obtain ⟨t311, A270, H⟩ := H; replace H : (lw_KidsPlan.j2 kj12 l0 l1 t308 t311 t299 t302 t305) = some r := H; have A27 := zk A270; clear A270; have H' := zk H; clear H
         go_wp2_with (first | ((with_reducible refine gk (f := 12) rfl ?_); refine gl (some 48) rfl rfl Try.func12 (by kernel_rfl) rfl #[.slice A0 l0.length c0] rfl (by (try simp only [List.map_toArray, List.map_cons, List.map_nil]); first | done | rfl | (simp only [List.length_drop, List.length_take]; rfl)) ?_; (with_reducible refine (r32_Twice.calls kj12 _ _ l0 false _ ?side1 ?side2 A24.out).mono ?_); (case side1 => repeat (first | exact (Kd.C_below HR0.out HB.out) | (with_reducible refine Kd.C_alloc ?_ _) | (with_reducible refine Kd.C_drewN ?_ _) | (with_reducible refine Kd.C_drew ?_))); (case side2 => exact HC0.out); rintro e w28 ⟨rfl, hb⟩; refine ⟨_, rfl, ?_⟩; have n0_ := zk (Kd.R_below (by (with_reducible repeat (first | apply Kd.R_alloc | apply Kd.R_drewN | apply Kd.R_drew)); exact HO_310000.out) hb); have n1_ := zk (Kd.R_below (by (with_reducible repeat (first | apply Kd.R_alloc | apply Kd.R_drewN | apply Kd.R_drew)); exact HO_310001.out) hb); have n2_ := zk (Kd.R_below (by (with_reducible repeat (first | apply Kd.R_alloc | apply Kd.R_drewN | apply Kd.R_drew)); exact HO_310002.out) hb); have n3_ := zk (blk_below (g := gb309) (o := .cells #[.slice Ao17 t299.length co17, .slice Ao19 t302.length co19, .slice Ao20 t305.length co20] 30 (0, 0)) (by (with_reducible repeat first | apply zM | apply zE | apply zF); exact BK309.out) hb); have n4_ := zk (zs (by with_reducible repeat first | exact HB.out | apply zA | apply zN | apply zD | refine zS ?_ GE309.out) hb); clear HO_310000; clear HO_310001; clear HO_310002; clear BK309; clear HB; have HO_310000 := n0_; have HO_310001 := n1_; have HO_310002 := n2_; have BK309 := n3_; have HB := n4_; clear n0_ n1_ n2_ n3_ n4_; (try clear hb); (try clear hb2); (try clear hk); (try clear hi)) | (go_at_call 12; (with_reducible refine (r32_Twice.calls kj12 _ _ l1 t311 _ ?side1 ?side2 A27.out).mono ?_); (case side1 => repeat (first | exact (Kd.C_below HR1.out HB.out) | (with_reducible refine Kd.C_alloc ?_ _) | (with_reducible refine Kd.C_drewN ?_ _) | (with_reducible refine Kd.C_drew ?_))); (case side2 => exact HC1.out); rintro e w29 ⟨rfl, hb⟩; have n0_ := zk (Kd.R_below (by (with_reducible repeat (first | apply Kd.R_alloc | apply Kd.R_drewN | apply Kd.R_drew)); exact HO_310000.out) hb); have n1_ := zk (Kd.R_below (by (with_reducible repeat (first | apply Kd.R_alloc | apply Kd.R_drewN | apply Kd.R_drew)); exact HO_310001.out) hb); have n2_ := zk (Kd.R_below (by (with_reducible repeat (first | apply Kd.R_alloc | apply Kd.R_drewN | apply Kd.R_drew)); exact HO_310002.out) hb); have n3_ := zk (blk_below (g := gb309) (o := .cells #[.slice Ao17 t299.length co17, .slice Ao19 t302.length co19, .slice Ao20 t305.length co20] 30 (0, 0)) (by (with_reducible repeat first | apply zM | apply zE | apply zF); exact BK309.out) hb); have n4_ := zk (zs (by with_reducible repeat first | exact HB.out | apply zA | apply zN | apply zD | refine zS ?_ GE309.out) hb); clear HO_310000; clear HO_310001; clear HO_310002; clear BK309; clear HB; have HO_310000 := n0_; have HO_310001 := n1_; have HO_310002 := n2_; have BK309 := n3_; have HB := n4_; clear n0_ n1_ n2_ n3_ n4_; (try clear hb); (try clear hb2); (try clear hk); (try clear hi)))
         go_meet
         case rel => exact ⟨_, (t311), (by first | rfl | (simp; done) | (simp [*]; done)), H', ⟨by have := HJ2.out; have := HJ12.out; first | omega | exact Nat.le_refl _⟩, ⟨by (with_reducible repeat (first | apply Kd.R_alloc | apply Kd.R_drewN | apply Kd.R_drew)); exact HO_310000.out⟩, ⟨by (with_reducible repeat (first | apply Kd.R_alloc | apply Kd.R_drewN | apply Kd.R_drew)); exact HO_310001.out⟩, ⟨by (with_reducible repeat (first | apply Kd.R_alloc | apply Kd.R_drewN | apply Kd.R_drew)); exact HO_310002.out⟩, ⟨by (with_reducible repeat first | apply zM | apply zE | apply zF); exact BK309.out⟩, ⟨by with_reducible repeat first | exact HB.out | apply zA | apply zN | apply zD | refine zS ?_ GE309.out⟩⟩
       case rest =>
        clear HC23; (try clear c1); (try clear c2); (try clear p2); (try clear c3); (try clear c5); (try clear c7); (try clear c8); (try clear c9); (try clear c10); (try clear c11); (try clear c12); (try clear c21); (try clear c21b0); (try clear c21b1); (try clear c22); (try clear c25); (try clear p2); obtain ⟨kq, x52_22, rfl, HA, HJ22, HO_310000, HO_310001, HO_310002, BK309, HB⟩ := hcut
        cases kq with
        | zero => exact absurd HA.out (by simp [lw_KidsPlan.j2])
        | succ kj22 =>
         have H := HA.out; clear HA; simp only [lw_KidsPlan.j2] at H
         by_cases c30 : x52_22 = true
         ·
          subst c30
          have H1 : (if t308 = 10 then (if (wrap64 ((wrap64 ((t299.length : Int) + (t302.length : Int))) + (t305.length : Int))) = 0 then ((lw_same.f kj22).bind fun t312 => (some t312)) else (some false)) else (some false)) = some r := by rw [if_pos rfl] at H; exact H
          clear H; have H := H1; clear H1
          by_cases c31 : t308 = 10
          ·
           rw [if_pos c31] at H; have c31b0 := beq_iff_eq.mpr c31; have c31b1 := bne_eq_false_iff_eq.mpr c31; clear c31
           by_cases c32 : (wrap64 ((wrap64 ((t299.length : Int) + (t302.length : Int))) + (t305.length : Int))) = 0
           ·
            rw [if_pos c32] at H; have c32b0 := beq_iff_eq.mpr c32; have c32b1 := bne_eq_false_iff_eq.mpr c32; clear c32; replace H := Option.bind_eq_some_iff.mp H; obtain ⟨t312, A330, H⟩ := H; replace H : (some t312) = some r := H; have A33 := zk A330; clear A330; obtain rfl := Option.some.inj H; have hcz34_0 : wc.cell? ⟨gb309, 0, none⟩ = some (.slice Ao17 t299.length co17) := (zC BK309.out 0).trans rfl; have hcz34_1 : wc.cell? ⟨gb309, 1, none⟩ = some (.slice Ao19 t302.length co19) := (zC BK309.out 1).trans rfl; have hcz34_2 : wc.cell? ⟨gb309, 2, none⟩ = some (.slice Ao20 t305.length co20) := (zC BK309.out 2).trans rfl; have hfz34_0 := zR BK309.out 0; have hfz34_1 := zR BK309.out 1; have hfz34_2 := zR BK309.out 2
            go_wp2_with (first | (go_at_call 8; (with_reducible refine (lw_same.calls kj22  t312 _ A33.out).mono ?_); rintro e w35 ⟨rfl, hb⟩; have n0_ := zk (Kd.R_below (by (with_reducible repeat (first | apply Kd.R_alloc | apply Kd.R_drewN | apply Kd.R_drew)); exact HO_310000.out) hb); have n1_ := zk (Kd.R_below (by (with_reducible repeat (first | apply Kd.R_alloc | apply Kd.R_drewN | apply Kd.R_drew)); exact HO_310001.out) hb); have n2_ := zk (Kd.R_below (by (with_reducible repeat (first | apply Kd.R_alloc | apply Kd.R_drewN | apply Kd.R_drew)); exact HO_310002.out) hb); have n3_ := zk (blk_below (g := gb309) (o := .cells #[.slice Ao17 t299.length co17, .slice Ao19 t302.length co19, .slice Ao20 t305.length co20] 30 (0, 0)) (by (with_reducible repeat first | apply zM | apply zE | apply zF); exact BK309.out) hb); have n4_ := zk (zs (by with_reducible repeat first | exact HB.out | apply zA | apply zN | apply zD | refine zS ?_ GE309.out) hb); clear HO_310000; clear HO_310001; clear HO_310002; clear BK309; clear HB; have HO_310000 := n0_; have HO_310001 := n1_; have HO_310002 := n2_; have BK309 := n3_; have HB := n4_; clear n0_ n1_ n2_ n3_ n4_; (try clear hb); (try clear hb2); (try clear hk); (try clear hi)))
            go_ret; exact ⟨by first | rfl | (simp [wN, wS] <;> rfl) | (simp [*, wN, wS] <;> rfl), by with_reducible repeat first | exact HB.out | apply zA | apply zN | apply zD | refine zS ?_ GE309.out⟩
           ·
            rw [if_neg c32] at H; have c32b0 := beq_eq_false_iff_ne.mpr c32; have c32b1 := bne_iff_ne.mpr c32; exact absurd ((Option.some.inj H).trans HR_.out) (by decide)
          ·
           rw [if_neg c31] at H; have c31b0 := beq_eq_false_iff_ne.mpr c31; have c31b1 := bne_iff_ne.mpr c31; exact absurd ((Option.some.inj H).trans HR_.out) (by decide)
         ·
          replace c30 := Bool.eq_false_iff.mpr c30; subst c30
          have H1 : ((lw_steps.f kj22 t305).bind fun t313 => ((r32_Steps.f kj22 l0 l1).bind fun t316 => (if (t313.length : Int) = (t316.length : Int) then (lw_KidsPlan.j3 kj22 l0 l1 t313 t316 (t308 != 0) t299 t302 t305) else (lw_KidsPlan.j3 kj22 l0 l1 t313 t316 true t299 t302 t305)))) = some r := by rw [if_neg (show ¬ (false = true) by decide)] at H; exact H
          clear H; have H := H1; clear H1; replace H := Option.bind_eq_some_iff.mp H; obtain ⟨t313, A370, H⟩ := H; replace H : ((r32_Steps.f kj22 l0 l1).bind fun t316 => (if (t313.length : Int) = (t316.length : Int) then (lw_KidsPlan.j3 kj22 l0 l1 t313 t316 (t308 != 0) t299 t302 t305) else (lw_KidsPlan.j3 kj22 l0 l1 t313 t316 true t299 t302 t305))) = some r := H; have A37 := zk A370; clear A370; replace H := Option.bind_eq_some_iff.mp H; obtain ⟨t316, A380, H⟩ := H; replace H : (if (t313.length : Int) = (t316.length : Int) then (lw_KidsPlan.j3 kj22 l0 l1 t313 t316 (t308 != 0) t299 t302 t305) else (lw_KidsPlan.j3 kj22 l0 l1 t313 t316 true t299 t302 t305)) = some r := H; have A38 := zk A380; clear A380; have HC39 := zk H; clear H; have hcz40_0 : wc.cell? ⟨gb309, 0, none⟩ = some (.slice Ao17 t299.length co17) := (zC BK309.out 0).trans rfl; have hcz40_1 : wc.cell? ⟨gb309, 1, none⟩ = some (.slice Ao19 t302.length co19) := (zC BK309.out 1).trans rfl; have hcz40_2 : wc.cell? ⟨gb309, 2, none⟩ = some (.slice Ao20 t305.length co20) := (zC BK309.out 2).trans rfl; have hfz40_0 := zR BK309.out 0; have hfz40_1 := zR BK309.out 1; have hfz40_2 := zR BK309.out 2
          go_upto_region 12 with (first | ((with_reducible refine gk (f := 13) rfl ?_); refine gl (some 74) rfl rfl Try.func13 (by kernel_rfl) rfl #[.slice Ao20 t305.length co20] rfl (by (try simp only [List.map_toArray, List.map_cons, List.map_nil]); first | done | rfl | (simp only [List.length_drop, List.length_take]; rfl)) ?_; (with_reducible refine (lw_steps.calls kj22 _ _ t305 t313 _ ?side1 ?side2 A37.out).mono ?_); (case side1 => repeat (first | exact (Kd.R_reads' HO_310002.out).2.2 | (with_reducible refine Kd.C_alloc ?_ _) | (with_reducible refine Kd.C_drewN ?_ _) | (with_reducible refine Kd.C_drew ?_))); (case side2 => exact (Kd.R_reads' HO_310002.out).2.1); rintro e w41 ⟨v314, rfl, ho0, hb⟩; refine ⟨_, rfl, ?_⟩; have n0_ := zk (Kd.R_below (by (with_reducible repeat (first | apply Kd.R_alloc | apply Kd.R_drewN | apply Kd.R_drew)); exact HO_310000.out) hb); have n1_ := zk (Kd.R_below (by (with_reducible repeat (first | apply Kd.R_alloc | apply Kd.R_drewN | apply Kd.R_drew)); exact HO_310001.out) hb); have n2_ := zk (Kd.R_below (by (with_reducible repeat (first | apply Kd.R_alloc | apply Kd.R_drewN | apply Kd.R_drew)); exact HO_310002.out) hb); have n3_ := zk (Kd.R_lower ho0 (zq (by with_reducible repeat first | exact HB.out | apply zA | apply zN | apply zD | refine zS ?_ GE309.out))); have n4_ := zk (blk_below (g := gb309) (o := .cells #[.slice Ao17 t299.length co17, .slice Ao19 t302.length co19, .slice Ao20 t305.length co20] 30 (0, 0)) (by (with_reducible repeat first | apply zM | apply zE | apply zF); exact BK309.out) hb); have n5_ := zk (zs (by with_reducible repeat first | exact HB.out | apply zA | apply zN | apply zD | refine zS ?_ GE309.out) hb); clear HO_310000; clear HO_310001; clear HO_310002; clear BK309; clear HB; have HO_310000 := n0_; have HO_310001 := n1_; have HO_310002 := n2_; have HO315 := n3_; have BK309 := n4_; have HB := n5_; clear n0_ n1_ n2_ n3_ n4_ n5_; (try clear hb); (try clear hb2); (try clear hk); (try clear hi); (try clear ho0)) | ((with_reducible refine gk (f := 14) rfl ?_); refine gl (some 77) rfl rfl Try.func14 (by kernel_rfl) rfl #[.slice A0 l0.length c0, .slice A1 l1.length c1] rfl (by (try simp only [List.map_toArray, List.map_cons, List.map_nil]); first | done | rfl | (simp only [List.length_drop, List.length_take]; rfl)) ?_; (with_reducible refine (r32_Steps.calls kj22 _ _ l0 _ _ l1 t316 _ ?side1 ?side2 ?side3 ?side4 A38.out).mono ?_); (case side1 => repeat (first | exact (Kd.C_below HR0.out HB.out) | (with_reducible refine Kd.C_alloc ?_ _) | (with_reducible refine Kd.C_drewN ?_ _) | (with_reducible refine Kd.C_drew ?_))); (case side2 => exact HC0.out); (case side3 => repeat (first | exact (Kd.C_below HR1.out HB.out) | (with_reducible refine Kd.C_alloc ?_ _) | (with_reducible refine Kd.C_drewN ?_ _) | (with_reducible refine Kd.C_drew ?_))); (case side4 => exact HC1.out); rintro e w42 ⟨v317, rfl, ho0, hb⟩; refine ⟨_, rfl, ?_⟩; have n0_ := zk (Kd.R_below (by (with_reducible repeat (first | apply Kd.R_alloc | apply Kd.R_drewN | apply Kd.R_drew)); exact HO_310000.out) hb); have n1_ := zk (Kd.R_below (by (with_reducible repeat (first | apply Kd.R_alloc | apply Kd.R_drewN | apply Kd.R_drew)); exact HO_310001.out) hb); have n2_ := zk (Kd.R_below (by (with_reducible repeat (first | apply Kd.R_alloc | apply Kd.R_drewN | apply Kd.R_drew)); exact HO_310002.out) hb); have n3_ := zk (Kd.R_elder' (by (with_reducible repeat (first | apply Kd.R_alloc | apply Kd.R_drewN | apply Kd.R_drew)); exact HO315.out) (Kd.R_base ho0) hb); have n4_ := zk (Kd.R_lower (Kd.R_new' ho0 (Kd.R_lt (by (with_reducible repeat (first | apply Kd.R_alloc | apply Kd.R_drewN | apply Kd.R_drew)); exact HO315.out))) (zq (by with_reducible repeat first | exact HB.out | apply zA | apply zN | apply zD | refine zS ?_ GE309.out))); have n5_ := zk (blk_below (g := gb309) (o := .cells #[.slice Ao17 t299.length co17, .slice Ao19 t302.length co19, .slice Ao20 t305.length co20] 30 (0, 0)) (by (with_reducible repeat first | apply zM | apply zE | apply zF); exact BK309.out) hb); have n6_ := zk (zs (by with_reducible repeat first | exact HB.out | apply zA | apply zN | apply zD | refine zS ?_ GE309.out) hb); clear HO_310000; clear HO_310001; clear HO_310002; clear HO315; clear BK309; clear HB; have HO_310000 := n0_; have HO_310001 := n1_; have HO_310002 := n2_; have HO315 := n3_; have HO318 := n4_; have BK309 := n5_; have HB := n6_; clear n0_ n1_ n2_ n3_ n4_ n5_ n6_; (try clear hb); (try clear hb2); (try clear hk); (try clear hi); (try clear ho0)))
          (try simp only [Act.put, zt, zu, zv])
          go_cut [86] (fun v86 wc => ∃ (kq : Nat) (x86_38 : Bool), v86 = .bool x86_38 ∧ Aside0 (lw_KidsPlan.j3 kq l0 l1 t313 t316 x86_38 t299 t302 t305 = some r) ∧ Aside0 (kq ≤ kj22) ∧ Aside0 (Kd.R k38 38 wc w.heap.size (fun k_ => some k_ ≠ (v317 : Value).ownBlock) v314 t313) ∧ Aside0 (Kd.R k38 38 wc w.heap.size (fun k_ => some k_ ≠ (v314 : Value).ownBlock) v317 t316) ∧ Aside0 (Kd.R (Kd.int .i64) 3 wc w.heap.size (fun k_ => some k_ ≠ ((.slice Ao19 t302.length co19) : Value).ownBlock) (.slice Ao17 t299.length co17) t299) ∧ Aside0 (Kd.R (Kd.int .i64) 3 wc w.heap.size (fun k_ => some k_ ≠ ((.slice Ao17 t299.length co17) : Value).ownBlock) (.slice Ao19 t302.length co19) t302) ∧ Aside0 (Kd.R k46 46 wc w.heap.size (fun _ => True) (.slice Ao20 t305.length co20) t305) ∧ Aside0 (wc.heap[gb309]? = some (.cells #[(.slice Ao17 t299.length co17), (.slice Ao19 t302.length co19), (.slice Ao20 t305.length co20)] 30 (0, 0))) ∧ Aside0 (Below w.heap.size w wc))
          case first =>
           have H := HC39.out; clear HC39
           by_cases c43 : (t313.length : Int) = (t316.length : Int)
           ·
            rw [if_pos c43] at H; have c43b0 := beq_iff_eq.mpr c43; have c43b1 := bne_eq_false_iff_eq.mpr c43
            have c43b2 : (t313.length == t316.length) = true := by first | simpa using c43 | (simp at c43 ⊢; omega)
            clear c43
            (first | rw [c43b0] | (simp only [i64_w, i32_w]; rw [c43b0]) | skip)
            have H' := zk H; clear H; obtain ⟨Ao44, co44, eo44⟩ := Kd.R_slice HO315.out; subst eo44; obtain ⟨Ao45, co45, eo45⟩ := Kd.R_slice HO318.out; subst eo45; go_wp2
            go_meet
            case rel => exact ⟨_, ((t308 != 0)), (by first | rfl | (simp; done) | (simp [*]; done)), H', ⟨by have := HJ2.out; have := HJ12.out; have := HJ22.out; first | omega | exact Nat.le_refl _⟩, ⟨by (with_reducible repeat (first | apply Kd.R_alloc | apply Kd.R_drewN | apply Kd.R_drew)); exact Kd.R_mono HO315.out (fun _ hk => hk.2)⟩, ⟨by (with_reducible repeat (first | apply Kd.R_alloc | apply Kd.R_drewN | apply Kd.R_drew)); exact Kd.R_mono HO318.out (fun _ hk => hk.2)⟩, ⟨by (with_reducible repeat (first | apply Kd.R_alloc | apply Kd.R_drewN | apply Kd.R_drew)); exact HO_310000.out⟩, ⟨by (with_reducible repeat (first | apply Kd.R_alloc | apply Kd.R_drewN | apply Kd.R_drew)); exact HO_310001.out⟩, ⟨by (with_reducible repeat (first | apply Kd.R_alloc | apply Kd.R_drewN | apply Kd.R_drew)); exact HO_310002.out⟩, ⟨by (with_reducible repeat first | apply zM | apply zE | apply zF); exact BK309.out⟩, ⟨by with_reducible repeat first | exact HB.out | apply zA | apply zN | apply zD | refine zS ?_ GE309.out⟩⟩
           ·
            rw [if_neg c43] at H; have c43b0 := beq_eq_false_iff_ne.mpr c43; have c43b1 := bne_iff_ne.mpr c43
            have c43b2 : (t313.length == t316.length) = false := by first | simpa using c43 | (simp at c43 ⊢; omega)
            (first | rw [c43b0] | (simp only [i64_w, i32_w]; rw [c43b0]) | skip)
            have H' := zk H; clear H; obtain ⟨Ao46, co46, eo46⟩ := Kd.R_slice HO315.out; subst eo46; obtain ⟨Ao47, co47, eo47⟩ := Kd.R_slice HO318.out; subst eo47; go_wp2
            go_meet
            case rel => exact ⟨_, (true), (by first | rfl | (simp; done) | (simp [*]; done)), H', ⟨by have := HJ2.out; have := HJ12.out; have := HJ22.out; first | omega | exact Nat.le_refl _⟩, ⟨by (with_reducible repeat (first | apply Kd.R_alloc | apply Kd.R_drewN | apply Kd.R_drew)); exact Kd.R_mono HO315.out (fun _ hk => hk.2)⟩, ⟨by (with_reducible repeat (first | apply Kd.R_alloc | apply Kd.R_drewN | apply Kd.R_drew)); exact Kd.R_mono HO318.out (fun _ hk => hk.2)⟩, ⟨by (with_reducible repeat (first | apply Kd.R_alloc | apply Kd.R_drewN | apply Kd.R_drew)); exact HO_310000.out⟩, ⟨by (with_reducible repeat (first | apply Kd.R_alloc | apply Kd.R_drewN | apply Kd.R_drew)); exact HO_310001.out⟩, ⟨by (with_reducible repeat (first | apply Kd.R_alloc | apply Kd.R_drewN | apply Kd.R_drew)); exact HO_310002.out⟩, ⟨by (with_reducible repeat first | apply zM | apply zE | apply zF); exact BK309.out⟩, ⟨by with_reducible repeat first | exact HB.out | apply zA | apply zN | apply zD | refine zS ?_ GE309.out⟩⟩
          case rest =>
           clear HC39; (try clear c1); (try clear c2); (try clear p2); (try clear c3); (try clear c4); (try clear c5); (try clear p6); (try clear c7); (try clear c8); (try clear c9); (try clear c10); (try clear c11); (try clear c12); (try clear c13); (try clear c14); (try clear c21); (try clear c21b0); (try clear c21b1); (try clear c22); (try clear c25); (try clear c30); (try clear c31); (try clear c31b0); (try clear c31b1); (try clear c32); (try clear c32b0); (try clear c32b1); (try clear c43); (try clear c43b0); (try clear c43b1); (try clear c43b2); (try clear p2); obtain ⟨kq, x86_38, rfl, HA, HJ38, HO_11, HO_12, HO_310000, HO_310001, HO_310002, BK309, HB⟩ := hcut
           cases kq with
           | zero => exact absurd HA.out (by simp [lw_KidsPlan.j3])
           | succ kj38 =>
            have H := HA.out; clear HA; simp only [lw_KidsPlan.j3] at H
            by_cases c48 : x86_38 = true
            ·
             subst c48
             have H1 : (some false) = some r := by rw [if_pos rfl] at H; exact H
             clear H; have H := H1; clear H1; exact absurd ((Option.some.inj H).trans HR_.out) (by decide)
            ·
             replace c48 := Bool.eq_false_iff.mpr c48; subst c48
             have H1 : (lw_KidsPlan.l0 kj38 l0 l1 t313 t316 (t313.length : Int) 0 t299 t302 t305) = some r := by rw [if_neg (show ¬ (false = true) by decide)] at H; exact H
             clear H; have H := H1; clear H1; have H' := zk H; clear H; obtain ⟨Ao49, co49, eo49⟩ := Kd.R_slice HO_11.out; subst eo49; go_wp2
             go_loopg [89] kj38 (fun kq v89 w' => ∃ (x89_5 : Int), v89 = .int .i64 x89_5 ∧ Aside0 (lw_KidsPlan.l0 kq l0 l1 t313 t316 (t313.length : Int) x89_5 t299 t302 t305 = some r) ∧ Aside0 (kq ≤ kj38) ∧ Aside0 (Kd.R k38 38 w' w.heap.size (fun k_ => some k_ ≠ (v317 : Value).ownBlock) (.slice Ao49 t313.length co49) t313) ∧ Aside0 (Kd.R k38 38 w' w.heap.size (fun k_ => some k_ ≠ ((.slice Ao49 t313.length co49) : Value).ownBlock) v317 t316) ∧ Aside0 (Kd.R (Kd.int .i64) 3 w' w.heap.size (fun k_ => some k_ ≠ ((.slice Ao19 t302.length co19) : Value).ownBlock) (.slice Ao17 t299.length co17) t299) ∧ Aside0 (Kd.R (Kd.int .i64) 3 w' w.heap.size (fun k_ => some k_ ≠ ((.slice Ao17 t299.length co17) : Value).ownBlock) (.slice Ao19 t302.length co19) t302) ∧ Aside0 (Kd.R k46 46 w' w.heap.size (fun _ => True) (.slice Ao20 t305.length co20) t305) ∧ Aside0 (w'.heap[gb309]? = some (.cells #[(.slice Ao17 t299.length co17), (.slice Ao19 t302.length co19), (.slice Ao20 t305.length co20)] 30 (0, 0))) ∧ Aside0 (Below w.heap.size w w'))
             case atStart => exact ⟨(0), (by first | rfl | (simp; done) | (simp [*]; done)), H', ⟨Nat.le_refl _⟩, ⟨by (with_reducible repeat (first | apply Kd.R_alloc | apply Kd.R_drewN | apply Kd.R_drew)); exact HO_11.out⟩, ⟨by (with_reducible repeat (first | apply Kd.R_alloc | apply Kd.R_drewN | apply Kd.R_drew)); exact HO_12.out⟩, ⟨by (with_reducible repeat (first | apply Kd.R_alloc | apply Kd.R_drewN | apply Kd.R_drew)); exact HO_310000.out⟩, ⟨by (with_reducible repeat (first | apply Kd.R_alloc | apply Kd.R_drewN | apply Kd.R_drew)); exact HO_310001.out⟩, ⟨by (with_reducible repeat (first | apply Kd.R_alloc | apply Kd.R_drewN | apply Kd.R_drew)); exact HO_310002.out⟩, ⟨by (with_reducible repeat first | apply zM | apply zE | apply zF); exact BK309.out⟩, ⟨by with_reducible repeat first | exact HB.out | apply zA | apply zN | apply zD | refine zS ?_ GE309.out⟩⟩
             case round =>
              clear H'; (try clear c1); (try clear c2); (try clear p2); (try clear c3); (try clear c4); (try clear c5); (try clear p6); (try clear c7); (try clear c8); (try clear c9); (try clear c10); (try clear c11); (try clear c12); (try clear c13); (try clear c14); (try clear c21); (try clear c21b0); (try clear c21b1); (try clear c22); (try clear c25); (try clear c30); (try clear c31); (try clear c31b0); (try clear c31b1); (try clear c32); (try clear c32b0); (try clear c32b1); (try clear c43); (try clear c43b0); (try clear c43b1); (try clear c43b2); (try clear c48); (try clear p2); (try clear p6)
              (try clear BK309)
              obtain ⟨x89_5, rfl, HA, HK5, HO_11, HO_12, HO_310000, HO_310001, HO_310002, BK309, HB⟩ := hrel
              cases gk with
              | zero => exact absurd HA.out (by simp [lw_KidsPlan.l0])
              | succ k5 =>
               have H := HA.out; clear HA; simp only [lw_KidsPlan.l0] at H
               by_cases c50 : x89_5 < (t313.length : Int)
               ·
                rw [if_pos c50] at H; have c50b0 := decide_eq_true c50; clear c50
                by_cases c51 : 0 ≤ x89_5
                ·
                 rw [if_pos c51] at H; have c51b0 := decide_eq_true c51; clear c51
                 by_cases c52 : x89_5 < (t313.length : Int)
                 ·
                  rw [if_pos c52] at H; have c52b0 := decide_eq_true c52; clear c52
                  by_cases c53 : x89_5 < (t316.length : Int)
                  ·
                   rw [if_pos c53] at H; have c53b0 := decide_eq_true c53; clear c53
                   by_cases c54 : (!(((rd_T38 t313 x89_5).f0) == ((rd_T38 t316 x89_5).f0)) || (!(((rd_T38 t313 x89_5).f1) == ((rd_T38 t316 x89_5).f1)) || (!(((rd_T38 t313 x89_5).f2) == ((rd_T38 t316 x89_5).f2))))) = true
                   ·
                    rw [if_pos c54] at H; have c54b0 : (!(((rd_T38 t313 x89_5).f0) == ((rd_T38 t316 x89_5).f0)) || (!(((rd_T38 t313 x89_5).f1) == ((rd_T38 t316 x89_5).f1)) || (!(((rd_T38 t313 x89_5).f2) == ((rd_T38 t316 x89_5).f2))))) = true := c54; clear c54; exact absurd ((Option.some.inj H).trans HR_.out) (by decide)
                   ·
                    rw [if_neg c54] at H
                    have c54b0 : (!(((rd_T38 t313 x89_5).f0) == ((rd_T38 t316 x89_5).f0)) || (!(((rd_T38 t313 x89_5).f1) == ((rd_T38 t316 x89_5).f1)) || (!(((rd_T38 t313 x89_5).f2) == ((rd_T38 t316 x89_5).f2))))) = false := by simpa using c54
                    clear c54; have H' := zk H; clear H
                    try go_wp2
                    have n0_ := zk (Kd.R_drew HO_11.out); have n1_ := zk (Kd.R_drew HO_12.out); have n2_ := zk (Kd.R_drew HO_310000.out); have n3_ := zk (Kd.R_drew HO_310001.out); have n4_ := zk (Kd.R_drew HO_310002.out); have n5_ := zk (zE BK309.out); have n6_ := zk (zD HB.out); clear HO_11; clear HO_12; clear HO_310000; clear HO_310001; clear HO_310002; clear BK309; clear HB; have HO_11 := n0_; have HO_12 := n1_; have HO_310000 := n2_; have HO_310001 := n3_; have HO_310002 := n4_; have BK309 := n5_; have HB := n6_; clear n0_ n1_ n2_ n3_ n4_ n5_ n6_; have p319 : 0 ≤ (x89_5 : Int) := zo (by assumption); have q319 : x89_5 < (t313.length : Int) := zo (by assumption); obtain ⟨ad319, e319, hx319_0, hx319_1, hx319_2⟩ := at_T38 (Kd.R_reads' HO_11.out).2.2 x89_5 p319 q319; cases e319; replace p319 := eq_true p319; replace q319 := eq_true q319; obtain ⟨Ao58, co58, eo58⟩ := Kd.R_slice HO_12.out
                    (first | subst eo58 | (injection eo58 with f1_ f2_ f3_; have f4_ := f1_.symm; have f5_ := f3_.symm; clear f1_ f2_ f3_; subst f4_; subst f5_))
                    have p320 : 0 ≤ (x89_5 : Int) := zo (by assumption); have q320 : x89_5 < (t316.length : Int) := zo (by assumption); obtain ⟨ad320, e320, hx320_0, hx320_1, hx320_2⟩ := at_T38 (Kd.R_reads' HO_12.out).2.2 x89_5 p320 q320; cases e320; replace p320 := eq_true p320; replace q320 := eq_true q320; refine start_ (n := 9) (S := fun w' => w'.cell? (ad319.add ((x89_5).toNat * 3)) = some (.int .i64 ((rd_T38 t313 x89_5).f0)) ∧ w'.cell? ⟨(ad319.add ((x89_5).toNat * 3)).block, (ad319.add ((x89_5).toNat * 3)).off + 1, none⟩ = some (.int .i64 ((rd_T38 t313 x89_5).f1)) ∧ w'.cell? ⟨(ad319.add ((x89_5).toNat * 3)).block, (ad319.add ((x89_5).toNat * 3)).off + 2, none⟩ = some (.int .i64 ((rd_T38 t313 x89_5).f2)) ∧ w'.cell? (ad320.add ((x89_5).toNat * 3)) = some (.int .i64 ((rd_T38 t316 x89_5).f0)) ∧ w'.cell? ⟨(ad320.add ((x89_5).toNat * 3)).block, (ad320.add ((x89_5).toNat * 3)).off + 1, none⟩ = some (.int .i64 ((rd_T38 t316 x89_5).f1)) ∧ w'.cell? ⟨(ad320.add ((x89_5).toNat * 3)).block, (ad320.add ((x89_5).toNat * 3)).off + 2, none⟩ = some (.int .i64 ((rd_T38 t316 x89_5).f2))) (ds := []) #[F,F,F,F,F,F,F,F,F] (by kernel_rfl) rfl rfl ⟨hx319_0, hx319_1, hx319_2, hx320_0, hx320_1, hx320_2⟩ (fun hHeld => ?_); refine with_tabW lw_KidsPlan.tab17 lw_KidsPlan.bits17 (fun HT_ HW_ => ?_); generalize wr.drew = w57 at HO_11 HO_12 HO_310000 HO_310001 HO_310002 BK309 HB hx319_0 hx319_1 hx319_2 hx320_0 hx320_1 hx320_2 hHeld ⊢; refine pure_ (i := 0) (N := some 92) (v := ?_) (a' := ?_) #[T,F,F,F,F,F,F,F,F] rfl rfl (any_of HT_.out (by kernel_rfl)) (fun _ _ _ h => h) (Or.inl ⟨by rfl, ?_⟩) ?_ ?_; rotate_left; (intro w'; go_simp; (with_reducible rfl)); rotate_left; (simp only [Act.put, zt, zu, zv, i64_w, i32_w]; rfl); refine pure_ (i := 1) (N := some 93) (v := ?_) (a' := ?_) #[T,T,F,F,F,F,F,F,F] rfl rfl (any_of HT_.out (by kernel_rfl)) (fun _ _ _ h => h) (Or.inl ⟨by rfl, ?_⟩) ?_ ?_; rotate_left; (intro w'; go_simp; (with_reducible rfl)); rotate_left; (simp only [Act.put, zt, zu, zv, i64_w, i32_w]; rfl); refine pure_ (i := 2) (N := some 94) (v := ?_) (a' := ?_) #[T,T,T,F,F,F,F,F,F] rfl rfl (any_of HT_.out (by kernel_rfl)) (fun _ _ _ h => h) (Or.inl ⟨by rfl, ?_⟩) ?_ ?_; rotate_left; (intro w'; go_simp; (with_reducible rfl)); rotate_left; (simp only [Act.put, zt, zu, zv, i64_w, i32_w]; rfl); refine pure_ (i := 4) (N := some 96) (v := ?_) (a' := ?_) #[T,T,T,F,T,F,F,F,F] rfl rfl (any_of HT_.out (by kernel_rfl)) (fun _ _ _ h => h) (Or.inl ⟨by rfl, ?_⟩) ?_ ?_; rotate_left; (intro w'; go_simp; (with_reducible rfl)); rotate_left; (simp only [Act.put, zt, zu, zv, i64_w, i32_w]; rfl); refine pure_ (i := 5) (N := some 97) (v := ?_) (a' := ?_) #[T,T,T,F,T,T,F,F,F] rfl rfl (any_of HT_.out (by kernel_rfl)) (fun _ _ _ h => h) (Or.inl ⟨by rfl, ?_⟩) ?_ ?_; rotate_left; (intro w'; go_simp; (with_reducible rfl)); rotate_left; (simp only [Act.put, zt, zu, zv, i64_w, i32_w]; rfl); refine pure_ (i := 6) (N := some 98) (v := ?_) (a' := ?_) #[T,T,T,F,T,T,T,F,F] rfl rfl (any_of HT_.out (by kernel_rfl)) (fun _ _ _ h => h) (Or.inl ⟨by rfl, ?_⟩) ?_ ?_; rotate_left; (intro w'; go_simp; (with_reducible rfl)); rotate_left; (simp only [Act.put, zt, zu, zv, i64_w, i32_w]; rfl); refine take_ (i := 3) (N := some 95) (v := ?_) (a' := ?_) #[T,T,T,T,T,T,T,F,F] rfl rfl (take_ofW HT_.out HW_.out (by kernel_rfl)) (fun _ _ _ h => h) (Or.inl ⟨by rfl, ?_⟩) hHeld ?_ ?_; rotate_left; (rintro w' ⟨s0, s1, s2, s3, s4, s5⟩; go_simp; (with_reducible rfl)); rotate_left; (simp only [Act.put, zt, zu, zv, i64_w, i32_w]; rfl); refine take_ (i := 7) (N := some 99) (v := ?_) (a' := ?_) #[T,T,T,T,T,T,T,T,F] rfl rfl (take_ofW HT_.out HW_.out (by kernel_rfl)) (fun _ _ _ h => h) (Or.inl ⟨by rfl, ?_⟩) hHeld ?_ ?_; rotate_left; (rintro w' ⟨s0, s1, s2, s3, s4, s5⟩; go_simp; (with_reducible rfl)); rotate_left; (simp only [Act.put, zt, zu, zv, i64_w, i32_w]; rfl); refine pure_ (i := 8) (N := some 100) (v := ?_) (a' := ?_) #[T,T,T,T,T,T,T,T,T] rfl rfl (any_of HT_.out (by kernel_rfl)) (fun _ _ _ h => h) (Or.inl ⟨by rfl, ?_⟩) ?_ ?_; rotate_left; (intro w'; go_simp; (with_reducible rfl)); rotate_left; (simp only [Act.put, zt, zu, zv, i64_w, i32_w]; rfl); refine done_ (done_of HT_.out (by kernel_rfl)) ?_
                    try go_wp2
                    go_roundg k5
                    case measure => have := HJ2.out; have := HJ12.out; have := HJ22.out; have := HJ38.out; have := HK5.out; omega
                    case rel => exact ⟨(wrap64 (x89_5 + 1)), (by first | rfl | (simp; done) | (simp [*]; done)), H', ⟨by have := HJ2.out; have := HJ12.out; have := HJ22.out; have := HJ38.out; have := HK5.out; omega⟩, ⟨by (with_reducible repeat (first | apply Kd.R_alloc | apply Kd.R_drewN | apply Kd.R_drew)); exact HO_11.out⟩, ⟨by (with_reducible repeat (first | apply Kd.R_alloc | apply Kd.R_drewN | apply Kd.R_drew)); exact HO_12.out⟩, ⟨by (with_reducible repeat (first | apply Kd.R_alloc | apply Kd.R_drewN | apply Kd.R_drew)); exact HO_310000.out⟩, ⟨by (with_reducible repeat (first | apply Kd.R_alloc | apply Kd.R_drewN | apply Kd.R_drew)); exact HO_310001.out⟩, ⟨by (with_reducible repeat (first | apply Kd.R_alloc | apply Kd.R_drewN | apply Kd.R_drew)); exact HO_310002.out⟩, ⟨by (with_reducible repeat first | apply zM | apply zE | apply zF); exact BK309.out⟩, ⟨by with_reducible repeat first | exact HB.out | apply zA | apply zN | apply zD | refine zS ?_ GE309.out⟩⟩
                  ·
                   rw [if_neg c53] at H; exact absurd H (by simp)
                 ·
                  rw [if_neg c52] at H; exact absurd H (by simp)
                ·
                 rw [if_neg c51] at H; exact absurd H (by simp)
               ·
                rw [if_neg c50] at H; have c50b0 := decide_eq_false c50; clear c50; replace H := Option.bind_eq_some_iff.mp H; obtain ⟨t321, A590, H⟩ := H; replace H : ((pl_Ints.f k5 t299 t321).bind fun t324 => (if t324 = true then ((r32_Drop.f k5 l0 l1).bind fun t325 => ((pl_Ints.f k5 t302 t325).bind fun t328 => (if t328 = true then ((kids_Moves.f k5 t299 t302 t305).bind fun t329 => ((r08_Least.f k5 t299).bind fun t330 => (if t329 = t330 then ((lw_same.f k5).bind fun t331 => (some t331)) else (some false)))) else (some false)))) else (some false))) = some r := H; have A59 := zk A590; clear A590; replace H := Option.bind_eq_some_iff.mp H; obtain ⟨t324, A600, H⟩ := H; replace H : (if t324 = true then ((r32_Drop.f k5 l0 l1).bind fun t325 => ((pl_Ints.f k5 t302 t325).bind fun t328 => (if t328 = true then ((kids_Moves.f k5 t299 t302 t305).bind fun t329 => ((r08_Least.f k5 t299).bind fun t330 => (if t329 = t330 then ((lw_same.f k5).bind fun t331 => (some t331)) else (some false)))) else (some false)))) else (some false)) = some r := H; have A60 := zk A600; clear A600
                by_cases c61 : t324 = true
                ·
                 subst c61
                 have H1 : ((r32_Drop.f k5 l0 l1).bind fun t325 => ((pl_Ints.f k5 t302 t325).bind fun t328 => (if t328 = true then ((kids_Moves.f k5 t299 t302 t305).bind fun t329 => ((r08_Least.f k5 t299).bind fun t330 => (if t329 = t330 then ((lw_same.f k5).bind fun t331 => (some t331)) else (some false)))) else (some false)))) = some r := by rw [if_pos rfl] at H; exact H
                 clear H; have H := H1; clear H1; replace H := Option.bind_eq_some_iff.mp H; obtain ⟨t325, A620, H⟩ := H; replace H : ((pl_Ints.f k5 t302 t325).bind fun t328 => (if t328 = true then ((kids_Moves.f k5 t299 t302 t305).bind fun t329 => ((r08_Least.f k5 t299).bind fun t330 => (if t329 = t330 then ((lw_same.f k5).bind fun t331 => (some t331)) else (some false)))) else (some false))) = some r := H; have A62 := zk A620; clear A620; replace H := Option.bind_eq_some_iff.mp H; obtain ⟨t328, A630, H⟩ := H; replace H : (if t328 = true then ((kids_Moves.f k5 t299 t302 t305).bind fun t329 => ((r08_Least.f k5 t299).bind fun t330 => (if t329 = t330 then ((lw_same.f k5).bind fun t331 => (some t331)) else (some false)))) else (some false)) = some r := H; have A63 := zk A630; clear A630
                 by_cases c64 : t328 = true
                 ·
                  subst c64
                  have H1 : ((kids_Moves.f k5 t299 t302 t305).bind fun t329 => ((r08_Least.f k5 t299).bind fun t330 => (if t329 = t330 then ((lw_same.f k5).bind fun t331 => (some t331)) else (some false)))) = some r := by rw [if_pos rfl] at H; exact H
                  clear H; have H := H1; clear H1; replace H := Option.bind_eq_some_iff.mp H; obtain ⟨t329, A650, H⟩ := H; replace H : ((r08_Least.f k5 t299).bind fun t330 => (if t329 = t330 then ((lw_same.f k5).bind fun t331 => (some t331)) else (some false))) = some r := H; have A65 := zk A650; clear A650; replace H := Option.bind_eq_some_iff.mp H; obtain ⟨t330, A660, H⟩ := H; replace H : (if t329 = t330 then ((lw_same.f k5).bind fun t331 => (some t331)) else (some false)) = some r := H; have A66 := zk A660; clear A660
                  by_cases c67 : t329 = t330
                  ·
                   rw [if_pos c67] at H; have c67b0 := beq_iff_eq.mpr c67; have c67b1 := bne_eq_false_iff_eq.mpr c67; clear c67; replace H := Option.bind_eq_some_iff.mp H; obtain ⟨t331, A680, H⟩ := H; replace H : (some t331) = some r := H; have A68 := zk A680; clear A680; obtain rfl := Option.some.inj H
                   try go_wp2
                   have n0_ := zk (Kd.R_drew HO_11.out); have n1_ := zk (Kd.R_drew HO_12.out); have n2_ := zk (Kd.R_drew HO_310000.out); have n3_ := zk (Kd.R_drew HO_310001.out); have n4_ := zk (Kd.R_drew HO_310002.out); have n5_ := zk (zE BK309.out); have n6_ := zk (zD HB.out); clear HO_11; clear HO_12; clear HO_310000; clear HO_310001; clear HO_310002; clear BK309; clear HB; have HO_11 := n0_; have HO_12 := n1_; have HO_310000 := n2_; have HO_310001 := n3_; have HO_310002 := n4_; have BK309 := n5_; have HB := n6_; clear n0_ n1_ n2_ n3_ n4_ n5_ n6_; refine start_ (n := 26) (S := fun w' => w'.cell? ⟨gb309, 0, none⟩ = some (.slice Ao17 t299.length co17) ∧ w'.cell? ⟨gb309, 1, none⟩ = some (.slice Ao19 t302.length co19) ∧ w'.cell? ⟨gb309, 2, none⟩ = some (.slice Ao20 t305.length co20)) (ds := []) #[F,F,F,F,F,F,F,F,F,F,F,F,F,F,F,F,F,F,F,F,F,F,F,F,F,F] (by kernel_rfl) rfl rfl ⟨(zC BK309.out 0).trans rfl, (zC BK309.out 1).trans rfl, (zC BK309.out 2).trans rfl⟩ (fun hHeld => ?_); refine with_tabW lw_KidsPlan.tab20 lw_KidsPlan.bits20 (fun HT_ HW_ => ?_); generalize wr.drew = w69 at HO_11 HO_12 HO_310000 HO_310001 HO_310002 BK309 HB hHeld ⊢; refine pure_ (i := 0) (N := some 102) (v := ?_) (a' := ?_) #[T,F,F,F,F,F,F,F,F,F,F,F,F,F,F,F,F,F,F,F,F,F,F,F,F,F] rfl rfl (any_of HT_.out (by kernel_rfl)) (fun _ _ _ h => h) (Or.inl ⟨by rfl, ?_⟩) ?_ ?_; rotate_left; (intro w'; go_simp; (with_reducible rfl)); rotate_left; (simp only [Act.put, zt, zu, zv, i64_w, i32_w]; rfl); refine pure_ (i := 2) (N := some 104) (v := ?_) (a' := ?_) #[T,F,T,F,F,F,F,F,F,F,F,F,F,F,F,F,F,F,F,F,F,F,F,F,F,F] rfl rfl (any_of HT_.out (by kernel_rfl)) (fun _ _ _ h => h) (Or.inl ⟨by rfl, ?_⟩) ?_ ?_; rotate_left; (intro w'; go_simp; (with_reducible rfl)); rotate_left; (simp only [Act.put, zt, zu, zv, i64_w, i32_w]; rfl); refine pure_ (i := 3) (N := some 105) (v := ?_) (a' := ?_) #[T,F,T,T,F,F,F,F,F,F,F,F,F,F,F,F,F,F,F,F,F,F,F,F,F,F] rfl rfl (any_of HT_.out (by kernel_rfl)) (fun _ _ _ h => h) (Or.inl ⟨by rfl, ?_⟩) ?_ ?_; rotate_left; (intro w'; go_simp; (with_reducible rfl)); rotate_left; (simp only [Act.put, zt, zu, zv, i64_w, i32_w]; rfl); refine take_ (i := 1) (N := some 103) (v := ?_) (a' := ?_) #[T,T,T,T,F,F,F,F,F,F,F,F,F,F,F,F,F,F,F,F,F,F,F,F,F,F] rfl rfl (take_ofW HT_.out HW_.out (by kernel_rfl)) (fun _ _ _ h => h) (Or.inl ⟨by rfl, ?_⟩) hHeld ?_ ?_; rotate_left; (rintro w' ⟨s0, s1, s2⟩; go_simp; (with_reducible rfl)); rotate_left; (simp only [Act.put, zt, zu, zv, i64_w, i32_w]; rfl); refine one_ (i := 4) (N := some 106) #[T,T,T,T,T,F,F,F,F,F,F,F,F,F,F,F,F,F,F,F,F,F,F,F,F,F] rfl rfl (one_of HT_.out (by kernel_rfl)) (by decide) (fun K hK => ?_); refine goes_ Try.func16 (by kernel_rfl) rfl #[.slice A0 l0.length c0, .slice A1 l1.length c1] (by rfl) rfl rfl (by (try simp only [List.map_toArray, List.map_cons, List.map_nil]); first | done | rfl | (simp only [List.length_drop, List.length_take]; rfl)) ?_
                   with_reducible refine (r12_Kept.calls k5 _ _ l0 _ _ l1 t321 _ ?side1 ?side2 ?side3 ?side4 A59.out).mono ?_
                   (case side1 => repeat (first | exact (Kd.C_below HR0.out HB.out) | (with_reducible refine Kd.C_alloc ?_ _) | (with_reducible refine Kd.C_drewN ?_ _) | (with_reducible refine Kd.C_drew ?_)))
                   (case side2 => exact HC0.out)
                   (case side3 => repeat (first | exact (Kd.C_below HR1.out HB.out) | (with_reducible refine Kd.C_alloc ?_ _) | (with_reducible refine Kd.C_drewN ?_ _) | (with_reducible refine Kd.C_drew ?_)))
                   (case side4 => exact HC1.out)
                   rintro e w70 ⟨v322, rfl, ho0, hb⟩; refine ⟨_, rfl, ?_⟩; have n0_ := zk (Kd.R_below (by (with_reducible repeat (first | apply Kd.R_alloc | apply Kd.R_drewN | apply Kd.R_drew)); exact HO_11.out) hb); have n1_ := zk (Kd.R_below (by (with_reducible repeat (first | apply Kd.R_alloc | apply Kd.R_drewN | apply Kd.R_drew)); exact HO_12.out) hb); have n2_ := zk (Kd.R_elder' (by (with_reducible repeat (first | apply Kd.R_alloc | apply Kd.R_drewN | apply Kd.R_drew)); exact HO_310000.out) (Kd.R_base ho0) hb); have n3_ := zk (Kd.R_elder' (by (with_reducible repeat (first | apply Kd.R_alloc | apply Kd.R_drewN | apply Kd.R_drew)); exact HO_310001.out) (Kd.R_base ho0) hb); have n4_ := zk (Kd.R_below (by (with_reducible repeat (first | apply Kd.R_alloc | apply Kd.R_drewN | apply Kd.R_drew)); exact HO_310002.out) hb); have n5_ := zk (Kd.R_lower (Kd.R_new' (Kd.R_new' ho0 (Kd.R_lt (by (with_reducible repeat (first | apply Kd.R_alloc | apply Kd.R_drewN | apply Kd.R_drew)); exact HO_310000.out))) (Kd.R_lt (by (with_reducible repeat (first | apply Kd.R_alloc | apply Kd.R_drewN | apply Kd.R_drew)); exact HO_310001.out))) (zq (by with_reducible repeat first | exact HB.out | apply zA | apply zN | apply zD | refine zS ?_ GE309.out))); have n6_ := zk (blk_below (g := gb309) (o := .cells #[.slice Ao17 t299.length co17, .slice Ao19 t302.length co19, .slice Ao20 t305.length co20] 30 (0, 0)) (by (with_reducible repeat first | apply zM | apply zE | apply zF); exact BK309.out) hb); have n7_ := zk (zs (by with_reducible repeat first | exact HB.out | apply zA | apply zN | apply zD | refine zS ?_ GE309.out) hb); clear HO_11; clear HO_12; clear HO_310000; clear HO_310001; clear HO_310002; clear BK309; clear HB; have HO_11 := n0_; have HO_12 := n1_; have HO_310000 := n2_; have HO_310001 := n3_; have HO_310002 := n4_; have HO323 := n5_; have BK309 := n6_; have HB := n7_; clear n0_ n1_ n2_ n3_ n4_ n5_ n6_ n7_
                   (try clear hb)
                   (try clear hb2)
                   (try clear hk)
                   (try clear hi)
                   (try clear ho0)
                   obtain ⟨Ao71, co71, eo71⟩ := Kd.R_slice HO323.out
                   (first | subst eo71 | (injection eo71 with f1_ f2_ f3_; have f4_ := f1_.symm; have f5_ := f3_.symm; clear f1_ f2_ f3_; subst f4_; subst f5_))
                   refine hK.out _ _ ⟨(zC BK309.out 0).trans rfl, (zC BK309.out 1).trans rfl, (zC BK309.out 2).trans rfl⟩ (fun hHeld => ?_); clear hK K; refine norm_ (a' := ?_) ?_ ?_; rotate_left
                   ·
                    show Act.put _ (some 106) _ = _
                    simp only [Act.put, zt, zu, zv, i64_w, i32_w]; rfl
                   refine one_ (i := 5) (N := some 107) #[T,T,T,T,T,T,F,F,F,F,F,F,F,F,F,F,F,F,F,F,F,F,F,F,F,F] rfl rfl (one_of HT_.out (by kernel_rfl)) (by decide) (fun K hK => ?_); refine goes_ Try.func15 (by kernel_rfl) rfl #[.slice Ao17 t299.length co17, .slice Ao71 t321.length co71] (by rfl) rfl rfl (by (try simp only [List.map_toArray, List.map_cons, List.map_nil]); first | done | rfl | (simp only [List.length_drop, List.length_take]; rfl)) ?_
                   with_reducible refine (pl_Ints.calls k5 _ _ t299 _ _ t321 true _ ?side1 ?side2 ?side3 ?side4 A60.out).mono ?_
                   (case side1 => repeat (first | exact (Kd.R_reads' HO_310000.out).2.2 | (with_reducible refine Kd.C_alloc ?_ _) | (with_reducible refine Kd.C_drewN ?_ _) | (with_reducible refine Kd.C_drew ?_)))
                   (case side2 => exact (Kd.R_reads' HO_310000.out).2.1)
                   (case side3 => repeat (first | exact (Kd.R_reads' HO323.out).2.2 | (with_reducible refine Kd.C_alloc ?_ _) | (with_reducible refine Kd.C_drewN ?_ _) | (with_reducible refine Kd.C_drew ?_)))
                   (case side4 => exact (Kd.R_reads' HO323.out).2.1)
                   rintro e w' ⟨rfl, ⟨nd, rfl⟩⟩; refine ⟨_, rfl, ?_⟩; refine hK.out _ _ ⟨(zC BK309.out 0).trans rfl, (zC BK309.out 1).trans rfl, (zC BK309.out 2).trans rfl⟩ (fun hHeld => ?_); clear hK K; refine norm_ (a' := ?_) ?_ ?_; rotate_left
                   ·
                    show Act.put _ (some 107) _ = _
                    simp only [Act.put, zt, zu, zv, i64_w, i32_w]; rfl
                   refine pure_ (i := 6) (N := some 108) (v := ?_) (a' := ?_) #[T,T,T,T,T,T,T,F,F,F,F,F,F,F,F,F,F,F,F,F,F,F,F,F,F,F] rfl rfl (any_of HT_.out (by kernel_rfl)) (fun _ _ _ h => h) (Or.inl ⟨by rfl, ?_⟩) ?_ ?_; rotate_left; (intro w'; go_simp; (with_reducible rfl)); rotate_left; (simp only [Act.put, zt, zu, zv, i64_w, i32_w]; rfl); refine pure_ (i := 7) (N := some 109) (v := ?_) (a' := ?_) #[T,T,T,T,T,T,T,T,F,F,F,F,F,F,F,F,F,F,F,F,F,F,F,F,F,F] rfl rfl (any_of HT_.out (by kernel_rfl)) (fun _ _ _ h => h) (Or.inl ⟨by rfl, ?_⟩) ?_ ?_; rotate_left; (intro w'; go_simp; (with_reducible rfl)); rotate_left; (simp only [Act.put, zt, zu, zv, i64_w, i32_w]; rfl); refine pure_ (i := 9) (N := some 111) (v := ?_) (a' := ?_) #[T,T,T,T,T,T,T,T,F,T,F,F,F,F,F,F,F,F,F,F,F,F,F,F,F,F] rfl rfl (any_of HT_.out (by kernel_rfl)) (fun _ _ _ h => h) (Or.inl ⟨by rfl, ?_⟩) ?_ ?_; rotate_left; (intro w'; go_simp; (with_reducible rfl)); rotate_left; (simp only [Act.put, zt, zu, zv, i64_w, i32_w]; rfl); refine pure_ (i := 10) (N := some 112) (v := ?_) (a' := ?_) #[T,T,T,T,T,T,T,T,F,T,T,F,F,F,F,F,F,F,F,F,F,F,F,F,F,F] rfl rfl (any_of HT_.out (by kernel_rfl)) (fun _ _ _ h => h) (Or.inl ⟨by rfl, ?_⟩) ?_ ?_; rotate_left; (intro w'; go_simp; (with_reducible rfl)); rotate_left; (simp only [Act.put, zt, zu, zv, i64_w, i32_w]; rfl); refine take_ (i := 8) (N := some 110) (v := ?_) (a' := ?_) #[T,T,T,T,T,T,T,T,T,T,T,F,F,F,F,F,F,F,F,F,F,F,F,F,F,F] rfl rfl (take_ofW HT_.out HW_.out (by kernel_rfl)) (fun _ _ _ h => h) (Or.inl ⟨by rfl, ?_⟩) hHeld ?_ ?_; rotate_left; (rintro w' ⟨s0, s1, s2⟩; go_simp; (with_reducible rfl)); rotate_left; (simp only [Act.put, zt, zu, zv, i64_w, i32_w]; rfl); refine one_ (i := 11) (N := some 113) #[T,T,T,T,T,T,T,T,T,T,T,T,F,F,F,F,F,F,F,F,F,F,F,F,F,F] rfl rfl (one_of HT_.out (by kernel_rfl)) (by decide) (fun K hK => ?_); refine goes_ Try.func17 (by kernel_rfl) rfl #[.slice A0 l0.length c0, .slice A1 l1.length c1] (by rfl) rfl rfl (by (try simp only [List.map_toArray, List.map_cons, List.map_nil]); first | done | rfl | (simp only [List.length_drop, List.length_take]; rfl)) ?_
                   with_reducible refine (r32_Drop.calls k5 _ _ l0 _ _ l1 t325 _ ?side1 ?side2 ?side3 ?side4 A62.out).mono ?_
                   (case side1 => repeat (first | exact (Kd.C_below HR0.out (by with_reducible repeat first | exact HB.out | apply zA | apply zN | apply zD | refine zS ?_ GE309.out)) | (with_reducible refine Kd.C_alloc ?_ _) | (with_reducible refine Kd.C_drewN ?_ _) | (with_reducible refine Kd.C_drew ?_)))
                   (case side2 => exact HC0.out)
                   (case side3 => repeat (first | exact (Kd.C_below HR1.out (by with_reducible repeat first | exact HB.out | apply zA | apply zN | apply zD | refine zS ?_ GE309.out)) | (with_reducible refine Kd.C_alloc ?_ _) | (with_reducible refine Kd.C_drewN ?_ _) | (with_reducible refine Kd.C_drew ?_)))
                   (case side4 => exact HC1.out)
                   rintro e w72 ⟨v326, rfl, ho0, hb⟩; refine ⟨_, rfl, ?_⟩; have n0_ := zk (Kd.R_below (by (with_reducible repeat (first | apply Kd.R_alloc | apply Kd.R_drewN | apply Kd.R_drew)); exact HO_11.out) hb); have n1_ := zk (Kd.R_below (by (with_reducible repeat (first | apply Kd.R_alloc | apply Kd.R_drewN | apply Kd.R_drew)); exact HO_12.out) hb); have n2_ := zk (Kd.R_elder' (by (with_reducible repeat (first | apply Kd.R_alloc | apply Kd.R_drewN | apply Kd.R_drew)); exact HO_310000.out) (Kd.R_base ho0) hb); have n3_ := zk (Kd.R_elder' (by (with_reducible repeat (first | apply Kd.R_alloc | apply Kd.R_drewN | apply Kd.R_drew)); exact HO_310001.out) (Kd.R_base ho0) hb); have n4_ := zk (Kd.R_below (by (with_reducible repeat (first | apply Kd.R_alloc | apply Kd.R_drewN | apply Kd.R_drew)); exact HO_310002.out) hb); have n5_ := zk (Kd.R_elder' (by (with_reducible repeat (first | apply Kd.R_alloc | apply Kd.R_drewN | apply Kd.R_drew)); exact HO323.out) (Kd.R_base ho0) hb); have n6_ := zk (Kd.R_lower (Kd.R_new' (Kd.R_new' (Kd.R_new' ho0 (Kd.R_lt (by (with_reducible repeat (first | apply Kd.R_alloc | apply Kd.R_drewN | apply Kd.R_drew)); exact HO_310000.out))) (Kd.R_lt (by (with_reducible repeat (first | apply Kd.R_alloc | apply Kd.R_drewN | apply Kd.R_drew)); exact HO_310001.out))) (Kd.R_lt (by (with_reducible repeat (first | apply Kd.R_alloc | apply Kd.R_drewN | apply Kd.R_drew)); exact HO323.out))) (zq (by with_reducible repeat first | exact HB.out | apply zA | apply zN | apply zD | refine zS ?_ GE309.out))); have n7_ := zk (blk_below (g := gb309) (o := .cells #[.slice Ao17 t299.length co17, .slice Ao19 t302.length co19, .slice Ao20 t305.length co20] 30 (0, 0)) (by (with_reducible repeat first | apply zM | apply zE | apply zF); exact BK309.out) hb); have n8_ := zk (zs (by with_reducible repeat first | exact HB.out | apply zA | apply zN | apply zD | refine zS ?_ GE309.out) hb); clear HO_11; clear HO_12; clear HO_310000; clear HO_310001; clear HO_310002; clear HO323; clear BK309; clear HB; have HO_11 := n0_; have HO_12 := n1_; have HO_310000 := n2_; have HO_310001 := n3_; have HO_310002 := n4_; have HO323 := n5_; have HO327 := n6_; have BK309 := n7_; have HB := n8_; clear n0_ n1_ n2_ n3_ n4_ n5_ n6_ n7_ n8_
                   (try clear hb)
                   (try clear hb2)
                   (try clear hk)
                   (try clear hi)
                   (try clear ho0)
                   obtain ⟨Ao73, co73, eo73⟩ := Kd.R_slice HO327.out
                   (first | subst eo73 | (injection eo73 with f1_ f2_ f3_; have f4_ := f1_.symm; have f5_ := f3_.symm; clear f1_ f2_ f3_; subst f4_; subst f5_))
                   refine hK.out _ _ ⟨(zC BK309.out 0).trans rfl, (zC BK309.out 1).trans rfl, (zC BK309.out 2).trans rfl⟩ (fun hHeld => ?_); clear hK K; refine norm_ (a' := ?_) ?_ ?_; rotate_left
                   ·
                    show Act.put _ (some 113) _ = _
                    simp only [Act.put, zt, zu, zv, i64_w, i32_w]; rfl
                   refine one_ (i := 12) (N := some 114) #[T,T,T,T,T,T,T,T,T,T,T,T,T,F,F,F,F,F,F,F,F,F,F,F,F,F] rfl rfl (one_of HT_.out (by kernel_rfl)) (by decide) (fun K hK => ?_); refine goes_ Try.func15 (by kernel_rfl) rfl #[.slice Ao19 t302.length co19, .slice Ao73 t325.length co73] (by rfl) rfl rfl (by (try simp only [List.map_toArray, List.map_cons, List.map_nil]); first | done | rfl | (simp only [List.length_drop, List.length_take]; rfl)) ?_
                   with_reducible refine (pl_Ints.calls k5 _ _ t302 _ _ t325 true _ ?side1 ?side2 ?side3 ?side4 A63.out).mono ?_
                   (case side1 => repeat (first | exact (Kd.R_reads' HO_310001.out).2.2 | (with_reducible refine Kd.C_alloc ?_ _) | (with_reducible refine Kd.C_drewN ?_ _) | (with_reducible refine Kd.C_drew ?_)))
                   (case side2 => exact (Kd.R_reads' HO_310001.out).2.1)
                   (case side3 => repeat (first | exact (Kd.R_reads' HO327.out).2.2 | (with_reducible refine Kd.C_alloc ?_ _) | (with_reducible refine Kd.C_drewN ?_ _) | (with_reducible refine Kd.C_drew ?_)))
                   (case side4 => exact (Kd.R_reads' HO327.out).2.1)
                   rintro e w' ⟨rfl, ⟨nd, rfl⟩⟩; refine ⟨_, rfl, ?_⟩; refine hK.out _ _ ⟨(zC BK309.out 0).trans rfl, (zC BK309.out 1).trans rfl, (zC BK309.out 2).trans rfl⟩ (fun hHeld => ?_); clear hK K; refine norm_ (a' := ?_) ?_ ?_; rotate_left
                   ·
                    show Act.put _ (some 114) _ = _
                    simp only [Act.put, zt, zu, zv, i64_w, i32_w]; rfl
                   refine pure_ (i := 13) (N := some 115) (v := ?_) (a' := ?_) #[T,T,T,T,T,T,T,T,T,T,T,T,T,T,F,F,F,F,F,F,F,F,F,F,F,F] rfl rfl (any_of HT_.out (by kernel_rfl)) (fun _ _ _ h => h) (Or.inl ⟨by rfl, ?_⟩) ?_ ?_; rotate_left; (intro w'; go_simp; (with_reducible rfl)); rotate_left; (simp only [Act.put, zt, zu, zv, i64_w, i32_w]; rfl); refine pure_ (i := 14) (N := some 116) (v := ?_) (a' := ?_) #[T,T,T,T,T,T,T,T,T,T,T,T,T,T,T,F,F,F,F,F,F,F,F,F,F,F] rfl rfl (any_of HT_.out (by kernel_rfl)) (fun _ _ _ h => h) (Or.inl ⟨by rfl, ?_⟩) ?_ ?_; rotate_left; (intro w'; go_simp; (with_reducible rfl)); rotate_left; (simp only [Act.put, zt, zu, zv, i64_w, i32_w]; rfl); refine pure_ (i := 17) (N := some 119) (v := ?_) (a' := ?_) #[T,T,T,T,T,T,T,T,T,T,T,T,T,T,T,F,F,T,F,F,F,F,F,F,F,F] rfl rfl (any_of HT_.out (by kernel_rfl)) (fun _ _ _ h => h) (Or.inl ⟨by rfl, ?_⟩) ?_ ?_; rotate_left; (intro w'; go_simp; (with_reducible rfl)); rotate_left; (simp only [Act.put, zt, zu, zv, i64_w, i32_w]; rfl); refine take_ (i := 15) (N := some 117) (v := ?_) (a' := ?_) #[T,T,T,T,T,T,T,T,T,T,T,T,T,T,T,T,F,T,F,F,F,F,F,F,F,F] rfl rfl (take_ofW HT_.out HW_.out (by kernel_rfl)) (fun _ _ _ h => h) (Or.inl ⟨by rfl, ?_⟩) hHeld ?_ ?_; rotate_left; (rintro w' ⟨s0, s1, s2⟩; go_simp; (with_reducible rfl)); rotate_left; (simp only [Act.put, zt, zu, zv, i64_w, i32_w]; rfl); refine take_ (i := 18) (N := some 120) (v := ?_) (a' := ?_) #[T,T,T,T,T,T,T,T,T,T,T,T,T,T,T,T,F,T,T,F,F,F,F,F,F,F] rfl rfl (take_ofW HT_.out HW_.out (by kernel_rfl)) (fun _ _ _ h => h) (Or.inl ⟨by rfl, ?_⟩) hHeld ?_ ?_; rotate_left; (rintro w' ⟨s0, s1, s2⟩; go_simp; (with_reducible rfl)); rotate_left; (simp only [Act.put, zt, zu, zv, i64_w, i32_w]; rfl); refine one_ (i := 16) (N := some 118) #[T,T,T,T,T,T,T,T,T,T,T,T,T,T,T,T,T,T,T,F,F,F,F,F,F,F] rfl rfl (one_of HT_.out (by kernel_rfl)) (by decide) (fun K hK => ?_); refine goes_ Try.func18 (by kernel_rfl) rfl #[.agg #[.slice Ao17 t299.length co17, .slice Ao19 t302.length co19, .slice Ao20 t305.length co20]] (by rfl) rfl rfl (by (try simp only [List.map_toArray, List.map_cons, List.map_nil]); first | done | rfl | (simp only [List.length_drop, List.length_take]; rfl)) ?_
                   with_reducible refine (kids_Moves.calls k5 _ _ t299 _ _ t302 _ _ t305 t329 _ ?side1 ?side2 ?side3 ?side4 ?side5 ?side6 A65.out).mono ?_
                   (case side1 => repeat (first | exact (Kd.R_reads' HO_310000.out).2.2 | (with_reducible refine Kd.C_alloc ?_ _) | (with_reducible refine Kd.C_drewN ?_ _) | (with_reducible refine Kd.C_drew ?_)))
                   (case side2 => exact (Kd.R_reads' HO_310000.out).2.1)
                   (case side3 => repeat (first | exact (Kd.R_reads' HO_310001.out).2.2 | (with_reducible refine Kd.C_alloc ?_ _) | (with_reducible refine Kd.C_drewN ?_ _) | (with_reducible refine Kd.C_drew ?_)))
                   (case side4 => exact (Kd.R_reads' HO_310001.out).2.1)
                   (case side5 => repeat (first | exact (Kd.R_reads' HO_310002.out).2.2 | (with_reducible refine Kd.C_alloc ?_ _) | (with_reducible refine Kd.C_drewN ?_ _) | (with_reducible refine Kd.C_drew ?_)))
                   (case side6 => exact (Kd.R_reads' HO_310002.out).2.1)
                   rintro e w74 ⟨rfl, hb⟩; refine ⟨_, rfl, ?_⟩; have n0_ := zk (Kd.R_below (by (with_reducible repeat (first | apply Kd.R_alloc | apply Kd.R_drewN | apply Kd.R_drew)); exact HO_11.out) hb); have n1_ := zk (Kd.R_below (by (with_reducible repeat (first | apply Kd.R_alloc | apply Kd.R_drewN | apply Kd.R_drew)); exact HO_12.out) hb); have n2_ := zk (Kd.R_below (by (with_reducible repeat (first | apply Kd.R_alloc | apply Kd.R_drewN | apply Kd.R_drew)); exact HO_310000.out) hb); have n3_ := zk (Kd.R_below (by (with_reducible repeat (first | apply Kd.R_alloc | apply Kd.R_drewN | apply Kd.R_drew)); exact HO_310001.out) hb); have n4_ := zk (Kd.R_below (by (with_reducible repeat (first | apply Kd.R_alloc | apply Kd.R_drewN | apply Kd.R_drew)); exact HO_310002.out) hb); have n5_ := zk (Kd.R_below (by (with_reducible repeat (first | apply Kd.R_alloc | apply Kd.R_drewN | apply Kd.R_drew)); exact HO323.out) hb); have n6_ := zk (Kd.R_below (by (with_reducible repeat (first | apply Kd.R_alloc | apply Kd.R_drewN | apply Kd.R_drew)); exact HO327.out) hb); have n7_ := zk (blk_below (g := gb309) (o := .cells #[.slice Ao17 t299.length co17, .slice Ao19 t302.length co19, .slice Ao20 t305.length co20] 30 (0, 0)) (by (with_reducible repeat first | apply zM | apply zE | apply zF); exact BK309.out) hb); have n8_ := zk (zs (by with_reducible repeat first | exact HB.out | apply zA | apply zN | apply zD | refine zS ?_ GE309.out) hb); clear HO_11; clear HO_12; clear HO_310000; clear HO_310001; clear HO_310002; clear HO323; clear HO327; clear BK309; clear HB; have HO_11 := n0_; have HO_12 := n1_; have HO_310000 := n2_; have HO_310001 := n3_; have HO_310002 := n4_; have HO323 := n5_; have HO327 := n6_; have BK309 := n7_; have HB := n8_; clear n0_ n1_ n2_ n3_ n4_ n5_ n6_ n7_ n8_
                   (try clear hb)
                   (try clear hb2)
                   (try clear hk)
                   (try clear hi)
                   refine hK.out _ _ ⟨(zC BK309.out 0).trans rfl, (zC BK309.out 1).trans rfl, (zC BK309.out 2).trans rfl⟩ (fun hHeld => ?_); clear hK K; refine norm_ (a' := ?_) ?_ ?_; rotate_left
                   ·
                    show Act.put _ (some 118) _ = _
                    simp only [Act.put, zt, zu, zv, i64_w, i32_w]; rfl
                   refine one_ (i := 19) (N := some 121) #[T,T,T,T,T,T,T,T,T,T,T,T,T,T,T,T,T,T,T,T,F,F,F,F,F,F] rfl rfl (one_of HT_.out (by kernel_rfl)) (by decide) (fun K hK => ?_); refine goes_ Try.func19 (by kernel_rfl) rfl #[.slice Ao17 t299.length co17] (by rfl) rfl rfl (by (try simp only [List.map_toArray, List.map_cons, List.map_nil]); first | done | rfl | (simp only [List.length_drop, List.length_take]; rfl)) ?_
                   with_reducible refine (r08_Least.calls k5 _ _ t299 t330 _ ?side1 ?side2 A66.out).mono ?_
                   (case side1 => repeat (first | exact (Kd.R_reads' HO_310000.out).2.2 | (with_reducible refine Kd.C_alloc ?_ _) | (with_reducible refine Kd.C_drewN ?_ _) | (with_reducible refine Kd.C_drew ?_)))
                   (case side2 => exact (Kd.R_reads' HO_310000.out).2.1)
                   rintro e w75 ⟨rfl, hb⟩; refine ⟨_, rfl, ?_⟩; have n0_ := zk (Kd.R_below (by (with_reducible repeat (first | apply Kd.R_alloc | apply Kd.R_drewN | apply Kd.R_drew)); exact HO_11.out) hb); have n1_ := zk (Kd.R_below (by (with_reducible repeat (first | apply Kd.R_alloc | apply Kd.R_drewN | apply Kd.R_drew)); exact HO_12.out) hb); have n2_ := zk (Kd.R_below (by (with_reducible repeat (first | apply Kd.R_alloc | apply Kd.R_drewN | apply Kd.R_drew)); exact HO_310000.out) hb); have n3_ := zk (Kd.R_below (by (with_reducible repeat (first | apply Kd.R_alloc | apply Kd.R_drewN | apply Kd.R_drew)); exact HO_310001.out) hb); have n4_ := zk (Kd.R_below (by (with_reducible repeat (first | apply Kd.R_alloc | apply Kd.R_drewN | apply Kd.R_drew)); exact HO_310002.out) hb); have n5_ := zk (Kd.R_below (by (with_reducible repeat (first | apply Kd.R_alloc | apply Kd.R_drewN | apply Kd.R_drew)); exact HO323.out) hb); have n6_ := zk (Kd.R_below (by (with_reducible repeat (first | apply Kd.R_alloc | apply Kd.R_drewN | apply Kd.R_drew)); exact HO327.out) hb); have n7_ := zk (blk_below (g := gb309) (o := .cells #[.slice Ao17 t299.length co17, .slice Ao19 t302.length co19, .slice Ao20 t305.length co20] 30 (0, 0)) (by (with_reducible repeat first | apply zM | apply zE | apply zF); exact BK309.out) hb); have n8_ := zk (zs (by with_reducible repeat first | exact HB.out | apply zA | apply zN | apply zD | refine zS ?_ GE309.out) hb); clear HO_11; clear HO_12; clear HO_310000; clear HO_310001; clear HO_310002; clear HO323; clear HO327; clear BK309; clear HB; have HO_11 := n0_; have HO_12 := n1_; have HO_310000 := n2_; have HO_310001 := n3_; have HO_310002 := n4_; have HO323 := n5_; have HO327 := n6_; have BK309 := n7_; have HB := n8_; clear n0_ n1_ n2_ n3_ n4_ n5_ n6_ n7_ n8_
                   (try clear hb)
                   (try clear hb2)
                   (try clear hk)
                   (try clear hi)
                   refine hK.out _ _ ⟨(zC BK309.out 0).trans rfl, (zC BK309.out 1).trans rfl, (zC BK309.out 2).trans rfl⟩ (fun hHeld => ?_); clear hK K; refine norm_ (a' := ?_) ?_ ?_; rotate_left
                   ·
                    show Act.put _ (some 121) _ = _
                    simp only [Act.put, zt, zu, zv, i64_w, i32_w]; rfl
                   refine pure_ (i := 20) (N := some 122) (v := ?_) (a' := ?_) #[T,T,T,T,T,T,T,T,T,T,T,T,T,T,T,T,T,T,T,T,T,F,F,F,F,F] rfl rfl (any_of HT_.out (by kernel_rfl)) (fun _ _ _ h => h) (Or.inl ⟨by rfl, ?_⟩) ?_ ?_; rotate_left; (intro w'; go_simp; (with_reducible rfl)); rotate_left; (simp only [Act.put, zt, zu, zv, i64_w, i32_w]; rfl); refine pure_ (i := 21) (N := some 123) (v := ?_) (a' := ?_) #[T,T,T,T,T,T,T,T,T,T,T,T,T,T,T,T,T,T,T,T,T,T,F,F,F,F] rfl rfl (any_of HT_.out (by kernel_rfl)) (fun _ _ _ h => h) (Or.inl ⟨by rfl, ?_⟩) ?_ ?_; rotate_left; (intro w'; go_simp; (with_reducible rfl)); rotate_left; (simp only [Act.put, zt, zu, zv, i64_w, i32_w]; rfl); refine pure_ (i := 22) (N := some 124) (v := ?_) (a' := ?_) #[T,T,T,T,T,T,T,T,T,T,T,T,T,T,T,T,T,T,T,T,T,T,T,F,F,F] rfl rfl (any_of HT_.out (by kernel_rfl)) (fun _ _ _ h => h) (Or.inl ⟨by rfl, ?_⟩) ?_ ?_; rotate_left; (intro w'; go_simp; (with_reducible rfl)); rotate_left; (simp only [Act.put, zt, zu, zv, i64_w, i32_w]; rfl); refine one_ (i := 23) (N := some 125) #[T,T,T,T,T,T,T,T,T,T,T,T,T,T,T,T,T,T,T,T,T,T,T,T,F,F] rfl rfl (one_of HT_.out (by kernel_rfl)) (by decide) (fun K hK => ?_); refine goes_ Try.func8 (by kernel_rfl) rfl #[] (by rfl) rfl rfl (by (try simp only [List.map_toArray, List.map_cons, List.map_nil]); first | done | rfl | (simp only [List.length_drop, List.length_take]; rfl)) ?_
                   with_reducible refine (lw_same.calls k5  t331 _ A68.out).mono ?_
                   rintro e w76 ⟨rfl, hb⟩; refine ⟨_, rfl, ?_⟩; have n0_ := zk (Kd.R_below (by (with_reducible repeat (first | apply Kd.R_alloc | apply Kd.R_drewN | apply Kd.R_drew)); exact HO_11.out) hb); have n1_ := zk (Kd.R_below (by (with_reducible repeat (first | apply Kd.R_alloc | apply Kd.R_drewN | apply Kd.R_drew)); exact HO_12.out) hb); have n2_ := zk (Kd.R_below (by (with_reducible repeat (first | apply Kd.R_alloc | apply Kd.R_drewN | apply Kd.R_drew)); exact HO_310000.out) hb); have n3_ := zk (Kd.R_below (by (with_reducible repeat (first | apply Kd.R_alloc | apply Kd.R_drewN | apply Kd.R_drew)); exact HO_310001.out) hb); have n4_ := zk (Kd.R_below (by (with_reducible repeat (first | apply Kd.R_alloc | apply Kd.R_drewN | apply Kd.R_drew)); exact HO_310002.out) hb); have n5_ := zk (Kd.R_below (by (with_reducible repeat (first | apply Kd.R_alloc | apply Kd.R_drewN | apply Kd.R_drew)); exact HO323.out) hb); have n6_ := zk (Kd.R_below (by (with_reducible repeat (first | apply Kd.R_alloc | apply Kd.R_drewN | apply Kd.R_drew)); exact HO327.out) hb); have n7_ := zk (blk_below (g := gb309) (o := .cells #[.slice Ao17 t299.length co17, .slice Ao19 t302.length co19, .slice Ao20 t305.length co20] 30 (0, 0)) (by (with_reducible repeat first | apply zM | apply zE | apply zF); exact BK309.out) hb); have n8_ := zk (zs (by with_reducible repeat first | exact HB.out | apply zA | apply zN | apply zD | refine zS ?_ GE309.out) hb); clear HO_11; clear HO_12; clear HO_310000; clear HO_310001; clear HO_310002; clear HO323; clear HO327; clear BK309; clear HB; have HO_11 := n0_; have HO_12 := n1_; have HO_310000 := n2_; have HO_310001 := n3_; have HO_310002 := n4_; have HO323 := n5_; have HO327 := n6_; have BK309 := n7_; have HB := n8_; clear n0_ n1_ n2_ n3_ n4_ n5_ n6_ n7_ n8_
                   (try clear hb)
                   (try clear hb2)
                   (try clear hk)
                   (try clear hi)
                   refine hK.out _ _ ⟨(zC BK309.out 0).trans rfl, (zC BK309.out 1).trans rfl, (zC BK309.out 2).trans rfl⟩ (fun hHeld => ?_); clear hK K; refine norm_ (a' := ?_) ?_ ?_; rotate_left
                   ·
                    show Act.put _ (some 125) _ = _
                    simp only [Act.put, zt, zu, zv, i64_w, i32_w]; rfl
                   refine pure_ (i := 24) (N := some 126) (v := ?_) (a' := ?_) #[T,T,T,T,T,T,T,T,T,T,T,T,T,T,T,T,T,T,T,T,T,T,T,T,T,F] rfl rfl (any_of HT_.out (by kernel_rfl)) (fun _ _ _ h => h) (Or.inl ⟨by rfl, ?_⟩) ?_ ?_; rotate_left; (intro w'; go_simp; (with_reducible rfl)); rotate_left; (simp only [Act.put, zt, zu, zv, i64_w, i32_w]; rfl); refine pure_ (i := 25) (N := some 4) (v := ?_) (a' := ?_) #[T,T,T,T,T,T,T,T,T,T,T,T,T,T,T,T,T,T,T,T,T,T,T,T,T,T] rfl rfl (any_of HT_.out (by kernel_rfl)) (fun _ _ _ h => h) (Or.inl ⟨by rfl, ?_⟩) ?_ ?_; rotate_left; (intro w'; go_simp; (with_reducible rfl)); rotate_left; (simp only [Act.put, zt, zu, zv, i64_w, i32_w]; rfl); refine done_ (done_of HT_.out (by kernel_rfl)) ?_
                   try go_wp2
                   go_ret; exact ⟨by first | rfl | (simp [wN, wS] <;> rfl) | (simp [*, wN, wS] <;> rfl), by with_reducible repeat first | exact HB.out | apply zA | apply zN | apply zD | refine zS ?_ GE309.out⟩
                  ·
                   rw [if_neg c67] at H; have c67b0 := beq_eq_false_iff_ne.mpr c67; have c67b1 := bne_iff_ne.mpr c67; exact absurd ((Option.some.inj H).trans HR_.out) (by decide)
                 ·
                  replace c64 := Bool.eq_false_iff.mpr c64; subst c64
                  have H1 : (some false) = some r := by rw [if_neg (show ¬ (false = true) by decide)] at H; exact H
                  clear H; have H := H1; clear H1; exact absurd ((Option.some.inj H).trans HR_.out) (by decide)
                ·
                 replace c61 := Bool.eq_false_iff.mpr c61; subst c61
                 have H1 : (some false) = some r := by rw [if_neg (show ¬ (false = true) by decide)] at H; exact H
                 clear H; have H := H1; clear H1; exact absurd ((Option.some.inj H).trans HR_.out) (by decide)
end Go.Proofs.Ytpekchebllobmaa.G
namespace Go.Proofs.Ytpekchebllobmaa.G
open Go.RowKit Go.Proofs.YtpekchebllobmaaW.PrintWords Go.Proofs.YtpekchebllobmaaW.PrintLast Go.Proofs.YtpekchebllobmaaW.PrintMore
attribute [local go_sem] max2_int min2_int max_two min_two max_three min_three max_four min_four
set_option linter.unusedVariables false
set_option linter.unusedSimpArgs false
attribute [local go_sem high] eqA50
end Go.Proofs.Ytpekchebllobmaa.G
namespace Go.Proofs.Ytpekchebllobmaa.G
open Go.RowKit Go.Proofs.YtpekchebllobmaaW.PrintWords Go.Proofs.YtpekchebllobmaaW.PrintLast Go.Proofs.YtpekchebllobmaaW.PrintMore
attribute [local go_sem] max2_int min2_int max_two min_two max_three min_three max_four min_four
set_option linter.unusedVariables false
set_option linter.unusedSimpArgs false
end Go.Proofs.Ytpekchebllobmaa.G
namespace Go.Proofs.Ytpekchebllobmaa.G
open Go.RowKit Go.Proofs.YtpekchebllobmaaW.PrintWords
/-- A pile: places rise, members don't. -/
def Down (l : List Int) (p : List Int) : Prop := p.Pairwise fun x y => x < y ∧ rd l y ≤ rd l x
theorem Down.last {l p : List Int} (h : Down l p) (hp : 0 < p.length) (x : Int) (hx : x ∈ p) : x ≤ rd p (p.length - 1) ∧ rd l (rd p (p.length - 1)) ≤ rd l x := by
  obtain ⟨j, hj, rfl⟩ := List.getElem_of_mem hx
  have e : rd p (p.length - 1) = p[p.length - 1] := by
    unfold rd; rw [List.getD_eq_getElem?_getD, List.getElem?_eq_getElem (by omega)]; simp only [Option.getD_some]
    congr 1
    omega
  rw [e]
  by_cases hjl : j = p.length - 1
  (subst hjl; exact ⟨Int.le_refl _, Int.le_refl _⟩); (have := List.pairwise_iff_getElem.1 h j (p.length - 1) hj (by omega) (by omega); exact ⟨by omega, this.2⟩)
theorem topAt_eq {ps : List (List Int)} {k : Nat} (hk : k < ps.length) : topAt ps k = rd (ps.getD k []) ((ps.getD k []).length - 1) := by
  unfold topAt topOf rd_L1; rw [if_neg (by omega), if_neg (by omega)]; rfl
structure Pat (l : List Int) (i : Nat) (ps : List (List Int)) (ah : List Int) : Prop where
  inv : PInv l i ps ah
  down : ∀ k, Down l (ps.getD k [])
  pos : ∀ k x, x ∈ ps.getD k [] → 0 ≤ rd l x
  tops : ∀ j k : Nat, j < k → k < ps.length → rd l (topAt ps j) < rd l (topAt ps k)
  all : ∀ x : Int, 0 ≤ x → x < i → 0 ≤ rd l x → ∃ k, x ∈ ps.getD k []
  cross : ∀ j k x y, x ∈ ps.getD j [] → y ∈ ps.getD k [] → x < y → rd l x < rd l y → j < k
  back0 : ∀ x, x ∈ ps.getD 0 [] → rd ah x = -1
  back : ∀ k x, x ∈ ps.getD (k + 1) [] → rd ah x ∈ ps.getD k [] ∧ rd ah x < x ∧ rd l (rd ah x) < rd l x ∧ ∀ y, y ∈ ps.getD k [] → y < x → y ≤ rd ah x
  one : ∀ j k x, x ∈ ps.getD j [] → x ∈ ps.getD k [] → j = k
theorem mem_lt {ps : List (List Int)} {k : Nat} {x : Int} (h : x ∈ ps.getD k []) : k < ps.length := by
  rcases Nat.lt_or_ge k ps.length with hk | hk
  (exact hk); (rw [List.getD_eq_getElem?_getD, List.getElem?_eq_none hk] at h; simp at h)
theorem Pat.nonempty {l : List Int} {i : Nat} {ps : List (List Int)} {ah : List Int} (h : Pat l i ps ah) {k : Nat} (hk : k < ps.length) : 0 < (ps.getD k []).length := by
  have hm : ps.getD k [] ∈ ps := by rw [List.getD_eq_getElem?_getD, List.getElem?_eq_getElem hk]; exact List.getElem_mem _
  exact (h.inv.pile _ hm).1
theorem Pat.range {l : List Int} {i : Nat} {ps : List (List Int)} {ah : List Int} (h : Pat l i ps ah) {k : Nat} {x : Int} (hx : x ∈ ps.getD k []) : 0 ≤ x ∧ x < i := by
  have hk := mem_lt hx
  have hm : ps.getD k [] ∈ ps := by rw [List.getD_eq_getElem?_getD, List.getElem?_eq_getElem hk]; exact List.getElem_mem _
  exact (h.inv.pile _ hm).2.2 x hx
theorem Pat.top {l : List Int} {i : Nat} {ps : List (List Int)} {ah : List Int} (h : Pat l i ps ah) {k : Nat} {x : Int} (hx : x ∈ ps.getD k []) : x ≤ topAt ps k ∧ rd l (topAt ps k) ≤ rd l x := by
  rw [topAt_eq (mem_lt hx)]; exact (h.down k).last (h.nonempty (mem_lt hx)) x hx
/-- The halving finds the first pile whose top is not less. -/
theorem findL_first (l : List Int) (ps : List (List Int)) (n : Int) (ht : ∀ j k : Nat, j < k → k < ps.length → rd l (topAt ps j) < rd l (topAt ps k)) :
    ∀ (f : Nat) (lo hi : Nat), lo ≤ hi → hi ≤ ps.length → hi - lo ≤ f → (∀ j, j < lo → rd l (topAt ps j) < n) → (∀ j, hi ≤ j → j < ps.length → n ≤ rd l (topAt ps j)) →
      ∃ k : Nat, findL f l ps n lo hi = k ∧ k ≤ ps.length ∧ (∀ j, j < k → rd l (topAt ps j) < n) ∧ (∀ j, k ≤ j → j < ps.length → n ≤ rd l (topAt ps j)) := by
  intro f
  induction f with
  | zero =>
    intro lo hi h1 h2 h3 h4 h5
    obtain rfl : lo = hi := by omega
    exact ⟨lo, rfl, h2, h4, h5⟩
  | succ f ih =>
    intro lo hi h1 h2 h3 h4 h5; rw [findL]
    by_cases hlt : (lo : Int) < hi
    · rw [if_pos hlt]
      have em : ((lo : Int) + hi) / 2 = (((lo + hi) / 2 : Nat) : Int) := by omega
      rw [em]
      have et : topOf ps (((lo + hi) / 2 : Nat) : Int) = topAt ps (((lo + hi) / 2 : Nat) : Int) := by
        unfold topAt; rw [if_neg (by omega), if_neg (by omega)]
      rw [et]
      split
      · rename_i hge
        refine ih lo ((lo + hi) / 2) (by omega) (by omega) (by omega) h4 (fun j hj hjl => ?_)
        rcases Nat.lt_or_ge ((lo + hi) / 2) j with h | h
        · have := ht _ _ h hjl; omega
        · obtain rfl : j = (lo + hi) / 2 := by omega
          exact hge
      · rename_i hge
        have e1 : (((lo + hi) / 2 : Nat) : Int) + 1 = (((lo + hi) / 2 + 1 : Nat) : Int) := by omega
        rw [e1]
        refine ih ((lo + hi) / 2 + 1) hi (by omega) h2 (by omega) (fun j hj => ?_) h5
        rcases Nat.lt_or_ge j ((lo + hi) / 2) with h | h
        · have := ht _ _ h (show (lo + hi) / 2 < ps.length by omega); omega
        · obtain rfl : j = (lo + hi) / 2 := by omega
          omega
    · rw [if_neg hlt]
      obtain rfl : lo = hi := by omega
      exact ⟨lo, rfl, h2, h4, h5⟩
theorem Pat.step {l : List Int} {i : Nat} {st : List (List Int) × List Int} (h : Pat l i st.1 st.2) (hi : i < l.length) : Pat l (i + 1) (playStep l st i).1 (playStep l st i).2 := by
  have hinv := h.inv.step hi
  by_cases hneg : rd l i < 0
  · have e : playStep l st i = st := by unfold playStep; rw [if_pos hneg]
    rw [e] at hinv ⊢
    refine { h with inv := hinv, all := fun x h0 h1 h2 => ?_ }
    by_cases hx : x = i
    · subst hx; omega
    · exact h.all x h0 (by omega) h2
  · obtain ⟨k, hk, hkl, hbelow, habove⟩ := findL_first l st.1 (rd l i) h.tops st.1.length 0 st.1.length (by omega) (by omega) (by omega) (fun j hj => by omega) (fun j hj hj2 => by omega)
    have e : playStep l st i = ((if (k : Int) = st.1.length then st.1 ++ [[]] else st.1).set k ((if (k : Int) = st.1.length then st.1 ++ [[]] else st.1).getD k [] ++ [(i : Int)]), st.2.set i (topAt st.1 (k - 1))) := by
      unfold playStep; rw [if_neg hneg]; simp only [show ((0 : Nat) : Int) = 0 from rfl] at hk; rw [hk]; rfl
    rw [e] at hinv ⊢
    have hg := getD_stepped st.1 k hkl (i : Int)
    generalize hps : (if (k : Int) = st.1.length then st.1 ++ [[]] else st.1).set k ((if (k : Int) = st.1.length then st.1 ++ [[]] else st.1).getD k [] ++ [(i : Int)]) = ps2 at hg hinv ⊢
    have hlen : ps2.length = if k = st.1.length then st.1.length + 1 else st.1.length := by
      rw [← hps, List.length_set]
      by_cases hc : k = st.1.length
      (rw [if_pos (by omega), if_pos hc]; simp); (rw [if_neg (by omega), if_neg hc])
    clear hps
    have hmem : ∀ j x, x ∈ ps2.getD j [] ↔ x ∈ st.1.getD j [] ∨ (j = k ∧ x = i) := by
      intro j x; rw [hg]; split
      · rename_i hj; subst hj; simp
      · rename_i hj; simp [hj]
    have hold : ∀ j x, x ∈ st.1.getD j [] → 0 ≤ x ∧ x < i := fun j x hx => h.range hx
    have hah : ∀ j x, x ∈ st.1.getD j [] → rd (st.2.set i (topAt st.1 (k - 1))) x = rd st.2 x := fun j x hx => by
      have := hold j x hx; rw [rd_set this.1, if_neg (by omega)]
    have hai : rd (st.2.set i (topAt st.1 ((k : Int) - 1))) i = topAt st.1 (k - 1) := by
      rw [rd_set (by omega), if_pos rfl, if_pos (by rw [h.inv.ahl]; exact hi)]
    have htop : ∀ j : Nat, j < ps2.length → topAt ps2 j = if j = k then (i : Int) else topAt st.1 j := by
      intro j hj; rw [topAt_eq hj, hg]
      by_cases hjk : j = k
      (subst hjk; rw [if_pos rfl, if_pos rfl]; unfold rd; rw [List.getD_eq_getElem?_getD, List.getElem?_append_right (by simp)]; simp); (rw [if_neg hjk, if_neg hjk, ← topAt_eq]; split at hlen <;> omega)
    show Pat l (i + 1) ps2 (st.2.set i (topAt st.1 (k - 1)))
    refine { inv := hinv, down := fun j => ?_, pos := fun j x hx => ?_, tops := fun a b hab hb => ?_, all := fun x h0 h1 h2 => ?_, cross := fun a b x y hx hy hxy hv => ?_, back0 := fun x hx => ?_, back := fun a x hx => ?_, one := fun a b x hx hy => ?_ }
    · rw [hg]
      split
      · rename_i hj
        subst hj
        refine List.pairwise_append.2 ⟨h.down j, by simp, fun x hx y hy => ?_⟩
        obtain rfl : y = i := by simpa using hy
        have h1 := h.range hx
        have h2 := h.top hx
        have h3 := habove j (Nat.le_refl _) (mem_lt hx)
        exact ⟨h1.2, by omega⟩
      · exact h.down j
    · rcases (hmem j x).1 hx with hx | ⟨_, rfl⟩
      · exact h.pos j x hx
      · omega
    · rw [htop a (by omega), htop b hb]
      have hbl : b ≠ k → b < st.1.length := fun hbk => by split at hlen <;> omega
      by_cases hbk : b = k
      · rw [if_pos hbk, if_neg (by omega)]
        exact hbelow a (by omega)
      · rw [if_neg hbk]
        by_cases hak : a = k
        · rw [if_pos hak]
          have h1 := habove k (Nat.le_refl _) (by have := hbl hbk; omega)
          have h2 := h.tops k b (by omega) (hbl hbk)
          omega
        · rw [if_neg hak]
          exact h.tops a b hab (hbl hbk)
    · by_cases hx : x = i
      · exact ⟨k, (hmem k x).2 (.inr ⟨rfl, hx⟩)⟩
      · obtain ⟨j, hj⟩ := h.all x h0 (by omega) h2
        exact ⟨j, (hmem j x).2 (.inl hj)⟩
    · rcases (hmem b y).1 hy with hy | ⟨rfl, rfl⟩
      · rcases (hmem a x).1 hx with hx | ⟨_, rfl⟩
        · exact h.cross a b x y hx hy hxy hv
        · have := hold b y hy; omega
      · rcases (hmem a x).1 hx with hx | ⟨_, rfl⟩
        · rcases Nat.lt_or_ge a b with hab | hab
          · exact hab
          · have h1 := habove a hab (mem_lt hx)
            have h2 := h.top hx
            omega
        · omega
    · rcases (hmem 0 x).1 hx with hx | ⟨hk0, rfl⟩
      · rw [hah 0 x hx]; exact h.back0 x hx
      · rw [hai, ← hk0]; rfl
    · rcases (hmem (a + 1) x).1 hx with hx | ⟨hk0, rfl⟩
      · rw [hah _ x hx]
        obtain ⟨b1, b2, b3, b4⟩ := h.back a x hx
        refine ⟨(hmem a _).2 (.inl b1), b2, b3, fun y hy hyx => ?_⟩
        rcases (hmem a y).1 hy with hy | ⟨_, rfl⟩
        · exact b4 y hy hyx
        · have := hold _ x hx; omega
      · rw [hai, ← hk0]
        have e1 : ((a + 1 : Nat) : Int) - 1 = (a : Int) := by omega
        rw [e1]
        have hal : a < st.1.length := by omega
        have hin : topAt st.1 a ∈ st.1.getD a [] := by rw [topAt_eq hal]; exact rd_last_mem _ (h.nonempty hal)
        refine ⟨(hmem a _).2 (.inl hin), (hold a _ hin).2, hbelow a (by omega), fun y hy hyx => ?_⟩
        rcases (hmem a y).1 hy with hy | ⟨h1, _⟩
        · exact (h.top hy).1
        · omega
    · rcases (hmem a x).1 hx with hx | ⟨h1, rfl⟩
      · rcases (hmem b x).1 hy with hy | ⟨_, rfl⟩
        · exact h.one a b x hx hy
        · have := hold a _ hx; omega
      · rcases (hmem b _).1 hy with hy | ⟨h2, _⟩
        · have := hold b _ hy; omega
        · omega
theorem playN_pat (l : List Int) : ∀ i, i ≤ l.length → Pat l i (playN l i).1 (playN l i).2
  | 0, _ => { inv := playN_inv l 0 (by omega), down := fun k => by simp [playN, Down], pos := fun k x hx => by simp [playN] at hx, tops := fun j k _ hk => by simp [playN] at hk,
              all := fun x h0 h1 => by omega, cross := fun j k x y hx => by simp [playN] at hx, back0 := fun x hx => by simp [playN] at hx, back := fun k x hx => by simp [playN] at hx, one := fun j k x hx => by simp [playN] at hx }
  | i + 1, h => (playN_pat l i (by omega)).step (by omega)
theorem endsIn_len (k : Int) : ∀ (p out : List Int), (endsIn k out p).length = out.length
  | [], out => rfl
  | x :: p, out => by rw [endsIn, endsIn_len k p, List.length_set]
theorem endsIn_rd (k : Int) : ∀ (p out : List Int) (x : Int), 0 ≤ x → (∀ y ∈ p, 0 ≤ y ∧ y < out.length) → rd (endsIn k out p) x = if x ∈ p then k + 1 else rd out x
  | [], out, x, h0, h => by simp [endsIn]
  | y :: p, out, x, h0, h => by
    obtain ⟨a, b⟩ := h y (by simp)
    rw [endsIn, endsIn_rd k p _ x h0 (fun z hz => by rw [List.length_set]; exact h z (by simp [hz])), rd_set h0]
    by_cases hx : x ∈ p
    · rw [if_pos hx, if_pos (by simp [hx])]
    · rw [if_neg hx]
      by_cases hxy : x = y
      · subst hxy
        rw [if_pos (by omega), if_pos (by omega), if_pos (by simp)]
      · rw [if_neg (by omega), if_neg (by simp [hx, hxy])]
theorem endsFrom_len : ∀ (ps : List (List Int)) (k : Nat) (out : List Int), (endsFrom k out ps).length = out.length
  | [], _, _ => rfl
  | p :: ps, k, out => by rw [endsFrom, endsFrom_len ps, endsIn_len]
theorem endsFrom_not : ∀ (ps : List (List Int)) (k : Nat) (out : List Int) (x : Int), 0 ≤ x → (∀ p ∈ ps, ∀ y ∈ p, 0 ≤ y ∧ y < out.length) → (∀ j, x ∉ ps.getD j []) → rd (endsFrom k out ps) x = rd out x
  | [], k, out, x, h0, h, hn => rfl
  | p :: ps, k, out, x, h0, h, hn => by
    rw [endsFrom, endsFrom_not ps (k + 1) _ x h0 (fun q hq y hy => by rw [endsIn_len]; exact h q (by simp [hq]) y hy) (fun j => by have := hn (j + 1); simpa using this),
      endsIn_rd _ _ _ _ h0 (fun y hy => h p (by simp) y hy), if_neg (by have := hn 0; simpa using this)]
theorem endsFrom_mem : ∀ (ps : List (List Int)) (k : Nat) (out : List Int) (x : Int) (j : Nat), 0 ≤ x → (∀ p ∈ ps, ∀ y ∈ p, 0 ≤ y ∧ y < out.length) → (∀ i j x, x ∈ ps.getD i [] → x ∈ ps.getD j [] → i = j) → x ∈ ps.getD j [] →
    rd (endsFrom k out ps) x = (k : Int) + j + 1
  | [], k, out, x, j, h0, h, h1, hx => by simp at hx
  | p :: ps, k, out, x, j, h0, h, h1, hx => by
    rw [endsFrom]
    cases j with
    | zero =>
      have hx0 : x ∈ p := by simpa using hx
      rw [endsFrom_not ps (k + 1) _ x h0 (fun q hq y hy => by rw [endsIn_len]; exact h q (by simp [hq]) y hy) (fun i hi => by have := h1 0 (i + 1) x (by simpa using hx0) (by simpa using hi); omega),
        endsIn_rd _ _ _ _ h0 (fun y hy => h p (by simp) y hy), if_pos hx0]
      simp
    | succ j =>
      rw [endsFrom_mem ps (k + 1) _ x j h0 (fun q hq y hy => by rw [endsIn_len]; exact h q (by simp [hq]) y hy) (fun a b y ha hb => by have := h1 (a + 1) (b + 1) y (by simpa using ha) (by simpa using hb); omega) (by simpa using hx)]
      omega
theorem pat (l : List Int) : Pat l l.length (pilesOf l) (playN l l.length).2 := playN_pat l l.length (Nat.le_refl _)
theorem ends_len (l : List Int) : (endsOf l).length = l.length := by unfold endsOf; rw [endsFrom_len]; simp
theorem piles_in (l : List Int) : ∀ p ∈ pilesOf l, ∀ y ∈ p, 0 ≤ y ∧ y < ((List.replicate l.length (0 : Int)).length : Int) := fun p hp y hy => by
  have := ((pat l).inv.pile p hp).2.2 y hy
  rw [List.length_replicate]
  exact this
theorem ends_mem {l : List Int} {k : Nat} {x : Int} (hx : x ∈ (pilesOf l).getD k []) : rd (endsOf l) x = (k : Int) + 1 := by
  unfold endsOf; rw [endsFrom_mem _ 0 _ x k ((pat l).range hx).1 (piles_in l) (pat l).one hx]; simp
theorem ends_neg {l : List Int} {x : Int} (h0 : 0 ≤ x) (hx : rd l x < 0) : rd (endsOf l) x = 0 := by
  unfold endsOf; rw [endsFrom_not _ 0 _ x h0 (piles_in l) (fun j hj => by have := (pat l).pos j x hj; omega)]; unfold rd; rw [List.getD_eq_getElem?_getD, List.getElem?_replicate]; split <;> rfl
/-- The chain goes from pile to pile. -/
theorem chain_mem {l : List Int} {i : Nat} {ps : List (List Int)} {ah : List Int} (h : Pat l i ps ah) : ∀ (n : Nat) (x : Int), (∀ m, n = m + 1 → x ∈ ps.getD m []) →
    ∀ j : Nat, j < n → rd (chainOf ah n x) j ∈ ps.getD j [] ∧ (j + 1 = n → rd (chainOf ah n x) j = x) ∧ (j + 1 < n → rd (chainOf ah n x) j = rd ah (rd (chainOf ah n x) ((j : Int) + 1)))
  | 0, _, _, _, hj => by omega
  | n + 1, x, hx, j, hj => by
    have hx0 := hx n rfl
    have ih := chain_mem h n (rd ah x) (fun m hm => by subst hm; exact (h.back m x hx0).1)
    have hl := chainOf_length ah n (rd ah x)
    obtain ⟨y, hy⟩ : ∃ y, rd ah x = y := ⟨_, rfl⟩
    rw [chainOf, hy]
    rw [hy] at ih hl
    have low : ∀ i : Nat, i < n → rd (chainOf ah n y ++ [x]) i = rd (chainOf ah n y) i := fun i hi => by
      unfold rd
      rw [List.getD_eq_getElem?_getD, List.getD_eq_getElem?_getD, List.getElem?_append_left (by omega)]
    have top : rd (chainOf ah n y ++ [x]) (n : Int) = x := by
      unfold rd
      rw [List.getD_eq_getElem?_getD, List.getElem?_append_right (by omega)]
      simp [hl]
    by_cases hjn : j = n
    · subst hjn
      rw [top]
      exact ⟨hx0, fun _ => rfl, fun h => by omega⟩
    · rw [low j (by omega)]
      obtain ⟨a, b, c⟩ := ih j (by omega)
      refine ⟨a, fun h => by omega, fun _ => ?_⟩
      by_cases hj1 : j + 1 = n
      · rw [show (j : Int) + 1 = (n : Int) by omega, top]
        rw [hy]; exact b hj1
      · rw [show (j : Int) + 1 = ((j + 1 : Nat) : Int) by omega, low (j + 1) (by omega)]
        have := c (by omega)
        rwa [show (j : Int) + 1 = ((j + 1 : Nat) : Int) by omega] at this
theorem longest_len (l : List Int) : (longestOf l).length = (pilesOf l).length := chainOf_length _ _ _
theorem longest_at (l : List Int) (j : Nat) (hj : j < (pilesOf l).length) : rd (longestOf l) j ∈ (pilesOf l).getD j [] ∧ (j + 1 = (pilesOf l).length → rd (longestOf l) j = topAt (pilesOf l) j) ∧
    (j + 1 < (pilesOf l).length → rd (longestOf l) j = rd (playN l l.length).2 (rd (longestOf l) ((j : Int) + 1))) := by
  obtain ⟨a, b, c⟩ := chain_mem (pat l) (pilesOf l).length (topAt (pilesOf l) ((pilesOf l).length - 1)) (fun m hm => by
    rw [hm, show ((m + 1 : Nat) : Int) - 1 = (m : Int) by omega, topAt_eq (by omega)]
    exact rd_last_mem _ ((pat l).nonempty (by omega))) j hj
  exact ⟨a, fun h => (b h).trans (by rw [show ((pilesOf l).length : Int) - 1 = (j : Int) by omega]), c⟩
end Go.Proofs.Ytpekchebllobmaa.G
namespace Go.Proofs.Ytpekchebllobmaa.Pure
open Go.RowKit Go.Proofs.Ytpekchebllobmaa.G Go.Proofs.YtpekchebllobmaaW.PrintWords Go.Proofs.YtpekchebllobmaaW.PrintLast
set_option linter.unusedVariables false
def Ev {α : Type} (f : Nat → Option α) (r : α) : Prop := ∃ k0, ∀ k, k0 ≤ k → f k = some r
theorem Ev.all {α : Type} {f : Nat → Option α} {r : α} (h : ∀ k, f k = some r) : Ev f r := ⟨0, fun k _ => h k⟩
theorem Ev.pure {α : Type} (r : α) : Ev (fun _ => some r) r := .all fun _ => rfl
theorem Ev.of {α : Type} {f : Nat → Option α} {r : α} (m : ∀ k, LeO (f k) (f (k + 1))) {k : Nat} (h : f k = some r) : Ev f r :=
  ⟨k, fun j hj => by
    obtain ⟨d, rfl⟩ : ∃ d, j = k + d := ⟨j - k, by omega⟩
    clear hj
    induction d with
    | zero => exact h
    | succ d ih => exact m _ _ ih⟩
theorem Ev.step {α : Type} {f g : Nat → Option α} {r : α} (hg : Ev g r) (h : ∀ k, f (k + 1) = g k) : Ev f r := by
  obtain ⟨k0, hk⟩ := hg; exact ⟨k0 + 1, fun k hk' => by obtain ⟨m, rfl⟩ : ∃ m, k = m + 1 := ⟨k - 1, by omega⟩; rw [h]; exact hk m (by omega)⟩
theorem Ev.eq {α : Type} {f g : Nat → Option α} {r : α} (hg : Ev g r) (h : ∀ k, f k = g k) : Ev f r := by
  obtain ⟨k0, hk⟩ := hg; exact ⟨k0, fun k hk' => by rw [h]; exact hk k hk'⟩
theorem Ev.bind {α β : Type} {f : Nat → Option α} {g : Nat → α → Option β} {a : α} {r : β} (hf : Ev f a) (hg : Ev (fun k => g k a) r) : Ev (fun k => (f k).bind (g k)) r := by
  obtain ⟨k0, h0⟩ := hf; obtain ⟨k1, h1⟩ := hg; exact ⟨max k0 k1, fun k hk => by show (f k).bind (g k) = some r; rw [h0 k (by omega)]; exact h1 k (by omega)⟩
theorem Ev.via {α β : Type} {f : Nat → Option α} {g F : Nat → Option β} {a : α} {r : β} (hf : Ev f a) (hg : Ev g r) (h : ∀ k, f k = some a → F (k + 1) = g k) : Ev F r := by
  obtain ⟨k0, h0⟩ := hf; obtain ⟨k1, h1⟩ := hg; exact ⟨max k0 k1 + 1, fun k hk => by obtain ⟨m, rfl⟩ : ∃ m, k = m + 1 := ⟨k - 1, by omega⟩; rw [h m (h0 m (by omega))]; exact h1 m (by omega)⟩
theorem Ev.ex {α : Type} {f : Nat → Option α} {r : α} (h : Ev f r) : ∃ k, f k = some r := by
  obtain ⟨k0, hk⟩ := h; exact ⟨k0, hk k0 (Nat.le_refl _)⟩
theorem w1 {i : Int} (h0 : -1000000000000000000 ≤ i) (h : i ≤ 1000000000000000000) : wrap64 (i + 1) = i + 1 := by unfold wrap64; omega
theorem wm {i : Int} (h0 : -1000000000000000000 ≤ i) (h : i ≤ 1000000000000000000) : wrap64 (i - 1) = i - 1 := by unfold wrap64; omega
theorem ww {i : Int} (h0 : -9000000000000000000 ≤ i) (h : i ≤ 9000000000000000000) : wrap64 i = i := by unfold wrap64; omega
theorem same_ev : Ev (fun k => lw_same.f k) true := Ev.of (fun k => lw_same.mono k) (k := 40) (by decide +kernel)
theorem rdT (l : List S50) (i : Nat) (h : i < l.length) : rd_T50 l (i : Int) = l[i] := by
  unfold rd_T50; rw [List.getD_eq_getElem?_getD, Int.toNat_natCast, List.getElem?_eq_getElem h]; rfl
theorem drp50 (xs : List S50) (n : Nat) (hn : n < xs.length) : xs.drop n = rd_T50 xs n :: xs.drop (n + 1) := by
  rw [rdT xs n hn, List.drop_eq_getElem_cons hn]
theorem eq3 (x y : S50) : ((x.f0.toList == y.f0.toList && (x.f1.toList == y.f1.toList && (x.f2 == y.f2))) = true) ↔ x = y := labEq_iff x y
theorem ne3 (x y : S50) : ((!(x.f0.toList == y.f0.toList) || (!(x.f1.toList == y.f1.toList) || (!(x.f2 == y.f2)))) = true) ↔ x ≠ y := by
  have h := eq3 x y; revert h; cases x.f0.toList == y.f0.toList <;> cases x.f1.toList == y.f1.toList <;> cases x.f2 == y.f2 <;> simp <;> (intro h; first | exact h | (rw [← h]) | skip)
/-- The first place, as_ a number. -/
def toZ : Option Nat → Int
  | none => -1
  | some n => (n : Int)
theorem find_l0 (l : List S50) (hl : l.length ≤ 1000000) (y : S50) (d : Nat) : ∀ i : Nat, i + d = l.length → Ev (fun k => r12_Find.l0 k l l.length i y.f0 y.f1 y.f2) (toZ ((fnd (l.drop i) y).map (· + i))) := by
  induction d with
  | zero =>
    intro i hi; rw [List.drop_eq_nil_of_le (by omega)]; exact (Ev.pure _).step (fun k => by rw [r12_Find.l0, if_neg (by omega)]; rfl)
  | succ d ih =>
    intro i hi; rw [drp50 l i (by omega), fnd]
    have c1 : (i : Int) < (l.length : Int) := by omega
    by_cases c : labEq (rd_T50 l i) y = true
    · rw [if_pos c]
      refine (Ev.pure _).step (fun k => ?_); rw [r12_Find.l0, if_pos c1, if_pos (by omega), if_pos c1]; exact (if_pos c).trans (by simp [toZ])
    · rw [if_neg c]
      have h := ih (i + 1) (by omega)
      have e : ((fnd (l.drop (i + 1)) y).map (· + 1)).map (· + i) = (fnd (l.drop (i + 1)) y).map (· + (i + 1)) := by
        cases fnd (l.drop (i + 1)) y with
        | none => rfl
        | some n => simp only [Option.map_some]; congr 1; omega
      rw [e]
      refine h.step (fun k => ?_)
      rw [r12_Find.l0, if_pos c1, if_pos (by omega), if_pos c1]
      refine (if_neg c).trans ?_
      rw [w1 (by omega) (by omega)]
      rfl
theorem find_ev (l : List S50) (hl : l.length ≤ 1000000) (y : S50) : Ev (fun k => r12_Find.f k l y.f0 y.f1 y.f2) (toZ (fnd l y)) := by
  have := find_l0 l hl y l.length 0 (by omega)
  have e : (fnd (l.drop 0) y).map (· + 0) = fnd l y := by rw [List.drop_zero]; cases fnd l y <;> rfl
  rw [e] at this; exact this
theorem fnd_get : ∀ (l : List S50) (y : S50) (n : Nat), fnd l y = some n → ∃ h : n < l.length, l[n] = y
  | [], y, n, h => by cases h
  | x :: xs, y, n, h => by
    rw [fnd] at h
    split at h
    · rename_i c
      obtain rfl := Option.some.inj h
      exact ⟨by simp, (labEq_iff _ _).1 c⟩
    · cases hf : fnd xs y with
      | none => rw [hf] at h; cases h
      | some m =>
        rw [hf] at h
        obtain rfl := Option.some.inj h
        obtain ⟨h1, h2⟩ := fnd_get xs y m hf
        exact ⟨by simp only [List.length_cons]; omega, by simpa using h2⟩
theorem fnd_none : ∀ (l : List S50) (y : S50), fnd l y = none ↔ y ∉ l
  | [], y => by simp [fnd]
  | x :: xs, y => by
    rw [fnd]
    by_cases c : labEq x y = true
    · rw [if_pos c]
      have := (labEq_iff _ _).1 c
      simp [this]
    · rw [if_neg c]
      have hne : y ≠ x := fun e => c ((labEq_iff _ _).2 e.symm)
      have := fnd_none xs y
      simp only [Option.map_eq_none_iff, List.mem_cons, not_or]
      rw [this]
      exact ⟨fun h => ⟨hne, h⟩, fun h => h.2⟩
theorem fnd_nodup : ∀ (l : List S50), l.Nodup → ∀ (n : Nat) (h : n < l.length), fnd l l[n] = some n
  | [], _, n, h => by simp at h
  | x :: xs, hd, n, h => by
    rw [List.nodup_cons] at hd
    cases n with
    | zero =>
      have e : (x :: xs)[0] = x := rfl
      rw [e, fnd, if_pos ((labEq_iff _ _).2 rfl)]
    | succ n =>
      have hn : n < xs.length := by simp only [List.length_cons] at h; omega
      have hm : xs[n] ∈ xs := List.getElem_mem hn
      have e : (x :: xs)[n + 1] = xs[n] := rfl
      rw [e, fnd, if_neg (fun c => hd.1 (by rw [(labEq_iff _ _).1 c]; exact hm)), fnd_nodup xs hd.2 n hn]
      rfl
/-- No label twice. -/
theorem twiceN_nodup (l : List S50) : ∀ n, n ≤ l.length → (twiceN l n = false ↔ (l.take n).Nodup) := by
  intro n
  induction n with
  | zero => intro _; simp [twiceN]
  | succ n ih =>
    intro hn; have h1 := ih (by omega); rw [twiceN, Bool.or_eq_false_iff, h1, List.take_add_one, List.getElem?_eq_getElem (by omega), rdT l n (by omega)]
    have e : (fnd (l.take n) l[n]).isSome = false ↔ l[n] ∉ l.take n := by
      rw [← fnd_none]; cases fnd (l.take n) l[n] <;> simp
    rw [e]; simp only [Option.toList_some]; rw [List.nodup_append]; constructor; (rintro ⟨a, b⟩; refine ⟨a, by simp, fun x hx y hy => ?_⟩; rw [List.mem_singleton] at hy; rintro rfl; rw [hy] at hx; exact b hx); (rintro ⟨a, _, c⟩; exact ⟨a, fun h => c _ h _ (by simp) rfl⟩)
theorem twice_nodup (l : List S50) : twiceN l l.length = false ↔ l.Nodup := by
  have := twiceN_nodup l l.length (Nat.le_refl _); rwa [List.take_length] at this
theorem twice_l0 (l : List S50) (hl : l.length ≤ 1000000) (d : Nat) : ∀ i : Nat, i + d = l.length → twiceN l i = false → Ev (fun k => r32_Twice.l0 k l l.length i) (twiceN l l.length) := by
  induction d with
  | zero =>
    intro i hi ht; rw [show l.length = i by omega, ht]; exact (Ev.pure _).step (fun k => by rw [r32_Twice.l0, if_neg (by omega)])
  | succ d ih =>
    intro i hi ht
    have c1 : (i : Int) < (l.length : Int) := by omega
    have hf := find_ev l hl (rd_T50 l i); have hnd := (twiceN_nodup l i (by omega)).1 ht
    by_cases c : l[i]'(by omega) ∈ l.take i
    · have hne : toZ (fnd l (rd_T50 l i)) ≠ (i : Int) := by
        rw [rdT l i (by omega)]
        cases hq : fnd l l[i] with
        | none => simp only [toZ]; omega
        | some m =>
          simp only [toZ]; intro e
          have e : m = i := by omega
          subst e; obtain ⟨j, hj, hje⟩ := List.getElem_of_mem c
          have hjm : j < m := by rw [List.length_take] at hj; omega
          -- the first place is no later than j
          have key : ∀ (xs : List S50) (y : S50) (n j : Nat) (h : j < xs.length), fnd xs y = some n → xs[j] = y → n ≤ j := by
            intro xs
            induction xs with
            | nil => intro y n j h; simp at h
            | cons x xs ihx =>
              intro y n j h hf2 hj2; rw [fnd] at hf2; split at hf2; (obtain rfl := Option.some.inj hf2; omega)
              · rename_i cc
                cases hg : fnd xs y with
                | none => rw [hg] at hf2; cases hf2
                | some q =>
                  rw [hg] at hf2; obtain rfl := Option.some.inj hf2
                  cases j with
                  | zero => exact absurd ((labEq_iff _ _).2 hj2) cc
                  | succ j =>
                    have := ihx y q j (by simpa using h) hg (by simpa using hj2); simp only []; omega
          have := key l l[m] m j (by omega) hq (by rw [← hje, List.getElem_take]); omega
      have ht2 : twiceN l l.length = true := by
        rw [← Bool.not_eq_false, twice_nodup]; intro hn; have := fnd_nodup l hn i (by omega); rw [rdT l i (by omega), this] at hne; exact hne rfl
      rw [ht2]
      exact hf.via (Ev.pure true) (fun k hk => by rw [r32_Twice.l0, if_pos c1, if_pos (by omega), if_pos c1, hk, Option.bind_some, if_neg hne])
    · have hs : twiceN l (i + 1) = false := by
        rw [twiceN, ht, Bool.false_or, rdT l i (by omega)]
        rw [(fnd_none _ _).2 c]
        rfl
      have heq : toZ (fnd l (rd_T50 l i)) = (i : Int) := by
        have hn2 := (twiceN_nodup l (i + 1) (by omega)).1 hs
        have key : ∀ (xs : List S50) (y : S50) (n : Nat), fnd (xs.take n) y = some (n - 1) → 0 < n → fnd xs y = some (n - 1) := by
          intro xs
          induction xs with
          | nil => intro y n h hp; simp [fnd] at h
          | cons x xs ihx =>
            intro y n h hp; obtain ⟨n, rfl⟩ : ∃ m, n = m + 1 := ⟨n - 1, by omega⟩; rw [List.take_succ_cons, fnd] at h; rw [fnd]; split at h
            · rename_i cc; rw [if_pos cc]; exact h
            · rename_i cc
              rw [if_neg cc]
              cases hg : fnd (xs.take n) y with
              | none => rw [hg] at h; cases h
              | some q =>
                rw [hg] at h; have hq := Option.some.inj h; simp only [] at hq; have := ihx y n (by rw [hg]; congr 1; omega) (by omega); rw [this]; simp only [Option.map_some]; congr 1; omega
        have h1 := fnd_nodup (l.take (i + 1)) hn2 i (by rw [List.length_take]; omega); rw [List.getElem_take] at h1; have := key l l[i] (i + 1) (by simpa using h1) (by omega); rw [rdT l i (by omega), this]; rfl
      exact hf.via (ih (i + 1) (by omega) hs) (fun k hk => by rw [r32_Twice.l0, if_pos c1, if_pos (by omega), if_pos c1, hk, Option.bind_some, if_pos heq, w1 (by omega) (by omega)]; rfl)
theorem twice_ev (l : List S50) (hl : l.length ≤ 1000000) : Ev (fun k => r32_Twice.f k l) (twiceN l l.length) := twice_l0 l hl l.length 0 (by omega) rfl
theorem heavy_l0 (l : List S50) (hl : l.length * 40 ≤ 140737488351232) (hs : ∀ y ∈ l, Sm50 y) (d : Nat) : ∀ i : Nat, i + d = l.length → ∃ b, Ev (fun k => lw_heavy.l0 k l l.length i) b ∧ (b = false → l.length ≤ 100 ∧ ∀ j (h : j < l.length), i ≤ j → l[j].f0.size ≤ 500 ∧ l[j].f1.size ≤ 500) := by
  induction d with
  | zero =>
    intro i hi; refine ⟨decide ((l.length : Int) > 100), (Ev.pure _).step (fun k => by rw [lw_heavy.l0, if_neg (by omega)]), fun h => ?_⟩; have := of_decide_eq_false h; exact ⟨by omega, fun j h1 h2 => by omega⟩
  | succ d ih =>
    intro i hi
    have c1 : (i : Int) < (l.length : Int) := by omega
    have hm := hs _ (List.getElem_mem (show i < l.length by omega)); have m0 := hm.h0; have m1 := hm.h1
    have hw : wrap64 ((((rd_T50 l i).f0).size : Int) + (((rd_T50 l i).f1).size : Int)) = (l[i].f0.size : Int) + (l[i].f1.size : Int) := by
      rw [rdT l i (by omega)]; exact ww (by omega) (by omega)
    by_cases c : (l[i].f0.size : Int) + (l[i].f1.size : Int) > 500
    · exact ⟨true, (Ev.pure _).step (fun k => by rw [lw_heavy.l0, if_pos c1, if_pos (by omega), if_pos c1, hw, if_pos c]), by simp⟩
    · obtain ⟨b, hb, hbi⟩ := ih (i + 1) (by omega)
      refine ⟨b, hb.step (fun k => by rw [lw_heavy.l0, if_pos c1, if_pos (by omega), if_pos c1, hw, if_neg c, w1 (by omega) (by omega)]; rfl), fun h => ⟨(hbi h).1, fun j hj h2 => ?_⟩⟩
      rcases Nat.eq_or_lt_of_le h2 with rfl | h3
      · omega
      · exact (hbi h).2 j hj (by omega)
theorem heavy_ev (l : List S50) (hl : l.length * 40 ≤ 140737488351232) (hs : ∀ y ∈ l, Sm50 y) : ∃ b, Ev (fun k => lw_heavy.f k l) b ∧ (b = false → l.length ≤ 100 ∧ l.all fitB = true) := by
  obtain ⟨b, hb, hbi⟩ := heavy_l0 l hl hs l.length 0 (by omega); refine ⟨b, hb, fun h => ⟨(hbi h).1, List.all_eq_true.2 (fun x hx => ?_)⟩⟩; obtain ⟨j, hj, rfl⟩ := List.getElem_of_mem hx; have := (hbi h).2 j hj (by omega); rw [fitB_iff]; unfold Fit; omega
theorem mn_lt (x a b : Int) : x < mn a b ↔ x < a ∧ x < b := by unfold mn; split <;> omega
theorem rd_drop50 (a : List S50) (f p : Nat) (h : p < a.length) (hf : f ≤ p) : rd_T50 (a.drop f) ((p - f : Nat) : Int) = rd_T50 a (p : Int) := by
  rw [rdT a p h, rdT (a.drop f) (p - f) (by rw [List.length_drop]; omega), List.getElem_drop]
  congr 1
  omega
/-- How much the ends of two lists share. -/
structure Ends (a b : List S50) (f g : Nat) : Prop where
  la : f + g ≤ a.length
  lb : f + g ≤ b.length
  front : ∀ i : Nat, i < f → rd_T50 a i = rd_T50 b i
  back : ∀ i : Nat, i < g → rd_T50 a ((a.length - 1 - i : Nat) : Int) = rd_T50 b ((b.length - 1 - i : Nat) : Int)
theorem trim_l1 (a b : List S50) (hla : a.length ≤ 1000000) (hlb : b.length ≤ 1000000) (f : Nat) (hf : ∀ i : Nat, i < f → rd_T50 a i = rd_T50 b i) (d : Nat) : ∀ g : Nat, a.length - f - g = d → f + g ≤ a.length → f + g ≤ b.length →
    (∀ i : Nat, i < g → rd_T50 a ((a.length - 1 - i : Nat) : Int) = rd_T50 b ((b.length - 1 - i : Nat) : Int)) →
    ∃ r : Nat, Ev (fun k => kids_Trim.l1 k (a.drop f) (b.drop f) f g) ((f : Int), (r : Int)) ∧ Ev (fun k => r32_Trim.l1 k a b f g) ((f : Int), (r : Int)) ∧ Ends a b f r := by
  induction d with
  | zero =>
    intro g hd h1 h2 hb; refine ⟨g, (Ev.pure _).step (fun k => ?_), (Ev.pure _).step (fun k => ?_), ⟨h1, h2, hf, hb⟩⟩; (rw [kids_Trim.l1, if_neg (by rw [mn_lt, List.length_drop, List.length_drop]; omega)]); (rw [r32_Trim.l1, ww (i := (f : Int) + g) (by omega) (by omega), if_neg (by omega)])
  | succ d ih =>
    intro g hd h1 h2 hb; have wfg : wrap64 ((f : Int) + (g : Int)) = (f : Int) + g := ww (by omega) (by omega)
    by_cases c : f + g < b.length
    · obtain ⟨p, hp⟩ : ∃ p, p + 1 + g = a.length := ⟨a.length - 1 - g, by omega⟩
      obtain ⟨q, hq⟩ : ∃ q, q + 1 + g = b.length := ⟨b.length - 1 - g, by omega⟩
      have wa : wrap64 (wrap64 ((a.length : Int) - 1) - (g : Int)) = (p : Int) := by rw [ww (i := (a.length : Int) - 1) (by omega) (by omega), ww (by omega) (by omega)]; omega
      have wb : wrap64 (wrap64 ((b.length : Int) - 1) - (g : Int)) = (q : Int) := by rw [ww (i := (b.length : Int) - 1) (by omega) (by omega), ww (by omega) (by omega)]; omega
      have wa' : wrap64 (wrap64 (((a.drop f).length : Int) - 1) - (g : Int)) = ((p - f : Nat) : Int) := by rw [List.length_drop, ww (i := ((a.length - f : Nat) : Int) - 1) (by omega) (by omega), ww (by omega) (by omega)]; omega
      have wb' : wrap64 (wrap64 (((b.drop f).length : Int) - 1) - (g : Int)) = ((q - f : Nat) : Int) := by rw [List.length_drop, ww (i := ((b.length - f : Nat) : Int) - 1) (by omega) (by omega), ww (by omega) (by omega)]; omega
      have ra := rd_drop50 a f p (by omega) (by omega)
      have rb := rd_drop50 b f q (by omega) (by omega)
      have m1 : (g : Int) < mn ((a.drop f).length : Int) ((b.drop f).length : Int) := by rw [mn_lt, List.length_drop, List.length_drop]; omega
      have m2 : ((p - f : Nat) : Int) < ((a.drop f).length : Int) := by rw [List.length_drop]; omega
      have m3 : ((q - f : Nat) : Int) < ((b.drop f).length : Int) := by rw [List.length_drop]; omega
      by_cases e : rd_T50 a p = rd_T50 b q
      · obtain ⟨r, r1, r2, r3⟩ := ih (g + 1) (by omega) (by omega) (by omega) (fun i hi => by
          rcases Nat.lt_or_ge i g with h | h
          · exact hb i h
          · obtain rfl : i = g := by omega
            rw [show a.length - 1 - i = p by omega, show b.length - 1 - i = q by omega]
            exact e)
        refine ⟨r, r1.step (fun k => ?_), r2.step (fun k => ?_), r3⟩
        · rw [kids_Trim.l1, if_pos m1, wa', wb', if_pos (by omega), if_pos m2, if_pos (by omega), if_pos m3, ra, rb]
          refine (if_neg (fun h => (ne3 _ _).1 h e)).trans ?_
          rw [w1 (by omega) (by omega)]
          rfl
        · rw [r32_Trim.l1, wfg, if_pos (by omega), if_pos (by omega), wa, wb, if_pos (by omega), if_pos (by omega), if_pos (by omega), if_pos (by omega)]
          refine (if_pos ((eq3 _ _).2 e)).trans ?_
          rw [w1 (by omega) (by omega)]
          rfl
      · refine ⟨g, (Ev.pure _).step (fun k => ?_), (Ev.pure _).step (fun k => ?_), ⟨h1, h2, hf, hb⟩⟩
        · rw [kids_Trim.l1, if_pos m1, wa', wb', if_pos (by omega), if_pos m2, if_pos (by omega), if_pos m3, ra, rb]
          exact if_pos ((ne3 _ _).2 e)
        · rw [r32_Trim.l1, wfg, if_pos (by omega), if_pos (by omega), wa, wb, if_pos (by omega), if_pos (by omega), if_pos (by omega), if_pos (by omega)]
          exact if_neg (fun h => e ((eq3 _ _).1 h))
    · refine ⟨g, (Ev.pure _).step (fun k => ?_), (Ev.pure _).step (fun k => ?_), ⟨h1, h2, hf, hb⟩⟩
      · rw [kids_Trim.l1, if_neg (by rw [mn_lt, List.length_drop, List.length_drop]; omega)]
      · rw [r32_Trim.l1, wfg, if_pos (by omega), if_neg (by omega)]
theorem trim_l0 (a b : List S50) (hla : a.length ≤ 1000000) (hlb : b.length ≤ 1000000) (d : Nat) : ∀ f : Nat, a.length - f = d → f ≤ a.length → f ≤ b.length → (∀ i : Nat, i < f → rd_T50 a i = rd_T50 b i) →
    ∃ f' g : Nat, Ev (fun k => kids_Trim.l0 k a b f) ((f' : Int), (g : Int)) ∧ Ev (fun k => r32_Trim.l0 k a b f) ((f' : Int), (g : Int)) ∧ Ends a b f' g := by
  have stop : ∀ f : Nat, f ≤ a.length → f ≤ b.length → (∀ i : Nat, i < f → rd_T50 a i = rd_T50 b i) → ∃ g : Nat, Ev (fun k => kids_Trim.j1 k a b f) ((f : Int), (g : Int)) ∧ Ev (fun k => r32_Trim.j1 k a b f) ((f : Int), (g : Int)) ∧ Ends a b f g := by
    intro f h1 h2 hf; obtain ⟨r, r1, r2, r3⟩ := trim_l1 a b hla hlb f hf _ 0 rfl h1 h2 (fun i hi => by omega); refine ⟨r, r1.step (fun k => ?_), r2.step (fun k => by rw [r32_Trim.j1]; rfl), r3⟩; rw [kids_Trim.j1, if_pos (by omega), if_pos (by omega), if_pos (by omega), Int.toNat_natCast]; rfl
  induction d with
  | zero =>
    intro f hd h1 h2 hf; obtain ⟨g, g1, g2, g3⟩ := stop f h1 h2 hf; refine ⟨f, g, g1.step (fun k => ?_), g2.step (fun k => ?_), g3⟩; (rw [kids_Trim.l0, if_neg (by rw [mn_lt]; omega)]); (rw [r32_Trim.l0, if_neg (by omega)])
  | succ d ih =>
    intro f hd h1 h2 hf
    by_cases c : f < b.length
    · have m1 : (f : Int) < mn (a.length : Int) (b.length : Int) := by rw [mn_lt]; omega
      by_cases e : rd_T50 a f = rd_T50 b f
      · obtain ⟨f', g, g1, g2, g3⟩ := ih (f + 1) (by omega) (by omega) (by omega) (fun i hi => by
          rcases Nat.lt_or_ge i f with h | h
          · exact hf i h
          · obtain rfl : i = f := by omega
            exact e)
        refine ⟨f', g, g1.step (fun k => ?_), g2.step (fun k => ?_), g3⟩
        · rw [kids_Trim.l0, if_pos m1, if_pos (by omega), if_pos (by omega), if_pos (by omega)]
          refine (if_pos ((eq3 _ _).2 e)).trans ?_
          rw [w1 (by omega) (by omega)]
          rfl
        · rw [r32_Trim.l0, if_pos (by omega), if_pos (by omega), if_pos (by omega)]
          refine (if_pos ((eq3 _ _).2 e)).trans ?_
          rw [w1 (by omega) (by omega)]
          rfl
      · obtain ⟨g, g1, g2, g3⟩ := stop f h1 h2 hf
        refine ⟨f, g, g1.step (fun k => ?_), g2.step (fun k => ?_), g3⟩
        · rw [kids_Trim.l0, if_pos m1, if_pos (by omega), if_pos (by omega), if_pos (by omega)]
          exact if_neg (fun h => e ((eq3 _ _).1 h))
        · rw [r32_Trim.l0, if_pos (by omega), if_pos (by omega), if_pos (by omega)]
          exact if_neg (fun h => e ((eq3 _ _).1 h))
    · obtain ⟨g, g1, g2, g3⟩ := stop f h1 h2 hf
      refine ⟨f, g, g1.step (fun k => ?_), g2.step (fun k => ?_), g3⟩
      · rw [kids_Trim.l0, if_neg (by rw [mn_lt]; omega)]
      · rw [r32_Trim.l0, if_pos (by omega), if_neg (by omega)]
theorem trim_ev (a b : List S50) (hla : a.length ≤ 1000000) (hlb : b.length ≤ 1000000) : ∃ f g : Nat, Ev (fun k => kids_Trim.f k a b) ((f : Int), (g : Int)) ∧ Ev (fun k => r32_Trim.f k a b) ((f : Int), (g : Int)) ∧ Ends a b f g := by
  obtain ⟨f, g, h1, h2, h3⟩ := trim_l0 a b hla hlb a.length 0 (by omega) (by omega) (by omega) (fun i hi => by omega); exact ⟨f, g, h1, h2, h3⟩
def StepOk (l at_ : List Int) (j : Int) : Prop :=
  0 ≤ rd at_ j ∧ rd at_ j < l.length ∧ 0 ≤ rd l (rd at_ j) ∧ (0 < j → rd at_ (j - 1) < rd at_ j ∧ rd l (rd at_ (j - 1)) < rd l (rd at_ j))
/-- An increasing choice. -/
def Choice (l at_ : List Int) : Prop := ∀ j : Int, 0 ≤ j → j < at_.length → StepOk l at_ j
theorem choice_le {l at_ : List Int} (h : Choice l at_) : at_.length ≤ (pilesOf l).length := by
  have hp := playN_pat l l.length (Nat.le_refl _)
  have key : ∀ j : Nat, j < at_.length → ∃ k, j ≤ k ∧ rd at_ j ∈ (pilesOf l).getD k [] := by
    intro j
    induction j with
    | zero =>
      intro hj; obtain ⟨a, b, c, _⟩ := h 0 (by omega) (by omega); obtain ⟨k, hk⟩ := hp.all _ a b c; exact ⟨k, by omega, hk⟩
    | succ j ih =>
      intro hj; obtain ⟨k, hk, hm⟩ := ih (by omega); obtain ⟨a, b, c, d⟩ := h ((j + 1 : Nat) : Int) (by omega) (by omega); obtain ⟨k2, hk2⟩ := hp.all _ a b c
      have e : (((j + 1 : Nat) : Int) - 1) = (j : Int) := by omega
      rw [e] at d; have := hp.cross k k2 _ _ hm hk2 (d (by omega)).1 (d (by omega)).2; exact ⟨k2, by omega, hk2⟩
  rcases Nat.eq_zero_or_pos at_.length with h0 | h0
  (omega); (obtain ⟨k, hk, hm⟩ := key (at_.length - 1) (by omega); have := mem_lt hm; omega)
theorem longest_choice (l : List Int) : Choice l (longestOf l) := by
  intro j h0 hj; obtain ⟨n, rfl⟩ := Int.eq_ofNat_of_zero_le h0; rw [longest_len] at hj; obtain ⟨a1, a2, a3⟩ := longest_at l n (by omega); have hr := (pat l).range a1; refine ⟨hr.1, by omega, (pat l).pos _ _ a1, fun hp => ?_⟩; obtain ⟨n, rfl⟩ : ∃ m, n = m + 1 := ⟨n - 1, by omega⟩; obtain ⟨b1, b2, b3⟩ := longest_at l n (by omega); have e := b3 (by omega); rw [show (n : Int) + 1 = ((n + 1 : Nat) : Int) by omega] at e; obtain ⟨c1, c2, c3, c4⟩ := (pat l).back n _ a1; rw [show ((n + 1 : Nat) : Int) - 1 = (n : Int) by omega, e]; exact ⟨c2, c3⟩
/-- A label of b that stands right already: behind a place, or one that stays. -/
def Pi (b : List S50) (S : Nat → Bool) (i : Nat) (x : S50) : Bool :=
  match fnd b x with
  | some j => decide (i ≤ j) || S j
  | none => false
/-- What holds when the labels from a place on are done. -/
structure Inv (b : List S50) (S : Nat → Bool) (i : Nat) (l : List S50) : Prop where
  mem : ∀ x ∈ l, x ∈ b
  flt : l.filter (Pi b S i) = b.filter (Pi b S i)
/-- A list without one label. -/
def without (l : List S50) (y : S50) : List S50 := l.filter (fun x => !labEq x y)
/-- Where each label of b stood in a. -/
def kp (a b : List S50) (j : Nat) : Int := toZ (fnd a (rd_T50 b j))
theorem fnd_of {a : List S50} (ha : a.Nodup) {y : S50} {u : Nat} (h : u < a.length) (e : a[u] = y) : fnd a y = some u := by rw [← e]; exact fnd_nodup a ha u h
theorem nodup_at {b : List S50} (hb : b.Nodup) {i j : Nat} (hi : i < b.length) (hj : j < b.length) (h : b[i] = b[j]) : i = j := by
  have h1 := fnd_nodup b hb i hi; rw [h, fnd_nodup b hb j hj] at h1; exact (Option.some.inj h1).symm
theorem kept_at {a b : List S50} (ha : a.Nodup) (hb : b.Nodup) {f g : Nat} (E : Ends a b f g) (j : Nat) (hj : j < b.length) : keptAt a b f g j = kp a b j := by
  have la := E.la; have lb := E.lb
  have hfr : ∀ i (h : i < f), a[i]'(by omega) = b[i]'(by omega) := fun i h => by
    have := E.front i h; rwa [rdT a i (by omega), rdT b i (by omega)] at this
  have hbk : ∀ i (h : i < g), a[a.length - 1 - i]'(by omega) = b[b.length - 1 - i]'(by omega) := fun i h => by
    have := E.back i h; rwa [rdT a _ (by omega), rdT b _ (by omega)] at this
  unfold keptAt kp; rw [rdT b j hj]
  by_cases c1 : j < f
  · rw [if_pos c1, fnd_of ha (u := j) (by omega) (hfr j c1)]
    rfl
  · rw [if_neg c1]
    by_cases c2 : b.length - g ≤ j
    · rw [if_pos c2]
      have h1 := hbk (b.length - 1 - j) (by omega)
      have h2 : b[b.length - 1 - (b.length - 1 - j)]'(by omega) = b[j] := by congr 1; omega
      rw [h2] at h1
      rw [fnd_of ha (u := a.length - 1 - (b.length - 1 - j)) (by omega) h1]
      simp only [toZ]
      omega
    · rw [if_neg c2]
      cases hf : fnd ((a.take (a.length - g)).drop f) b[j] with
      | some t =>
        obtain ⟨h1, h2⟩ := fnd_get _ _ _ hf; rw [List.length_drop, List.length_take] at h1; rw [List.getElem_drop, List.getElem_take] at h2; rw [fnd_of ha (u := f + t) (by omega) h2]; rfl
      | none =>
        have hn := (fnd_none _ _).1 hf
        have hna : b[j] ∉ a := fun hm => by
          obtain ⟨u, hu, e⟩ := List.getElem_of_mem hm
          by_cases d1 : u < f
          · have h1 := hfr u d1
            rw [e] at h1; have := nodup_at hb hj (by omega) h1; omega
          · by_cases d2 : a.length - g ≤ u
            · have h1 := hbk (a.length - 1 - u) (by omega)
              have h2 : a[a.length - 1 - (a.length - 1 - u)]'(by omega) = a[u] := by congr 1; omega
              rw [h2, e] at h1
              have := nodup_at hb hj (by omega) h1
              omega
            · refine hn ?_
              rw [← e]
              have h1 : u - f < ((a.take (a.length - g)).drop f).length := by rw [List.length_drop, List.length_take]; omega
              have h2 : ((a.take (a.length - g)).drop f)[u - f] = a[u] := by
                rw [List.getElem_drop, List.getElem_take]
                congr 1
                omega
              rw [← h2]
              exact List.getElem_mem h1
        rw [(fnd_none _ _).2 hna]; rfl
/-- The list of where they stood. -/
def kpL (a b : List S50) : List Int := (List.range b.length).map (kp a b)
theorem keptL_eq {a b : List S50} (ha : a.Nodup) (hb : b.Nodup) {f g : Nat} (E : Ends a b f g) : keptL a b f g = kpL a b := by
  unfold keptL kpL; refine List.map_congr_left (fun j hj => ?_); exact kept_at ha hb E j (List.mem_range.1 hj)
theorem kpL_len (a b : List S50) : (kpL a b).length = b.length := by unfold kpL; rw [List.length_map, List.length_range]
theorem rd_kpL (a b : List S50) (j : Nat) (hj : j < b.length) : rd (kpL a b) (j : Int) = kp a b j := by
  unfold rd kpL; rw [List.getD_eq_getElem?_getD, Int.toNat_natCast, List.getElem?_map, List.getElem?_range hj]; rfl
theorem kp_some {a b : List S50} {j u : Nat} (hj : j < b.length) (h : kp a b j = (u : Int)) : ∃ hu : u < a.length, a[u] = b[j] := by
  unfold kp at h; rw [rdT b j hj] at h
  cases hf : fnd a b[j] with
  | none => rw [hf] at h; simp only [toZ] at h; omega
  | some t =>
    rw [hf] at h; simp only [toZ] at h
    obtain rfl : t = u := by omega
    exact fnd_get _ _ _ hf
theorem kept_ev (a b : List S50) (hla : a.length ≤ 1000000) (hlb : b.length ≤ 1000000) (fa : a.all fitB = true) (fb : b.all fitB = true) (ha : a.Nodup) (hb : b.Nodup) {f g : Nat} (hT : Ev (fun k => kids_Trim.f k a b) ((f : Int), (g : Int))) (E : Ends a b f g) : Ev (fun k => kids_kept.f k a b) (kpL a b) := by
  unfold kids_kept.f; refine Ev.bind hT ?_; have la := E.la; have lb := E.lb; rw [if_pos ⟨hla, hlb, fa, fb, by omega, by omega, by omega, by omega⟩]; simp only [Int.toNat_natCast]; rw [keptL_eq ha hb E]; exact Ev.pure _
theorem rdOf_set (xs : List Bool) (i j : Nat) (v : Bool) (h : i < xs.length) : rdOf false (xs.set i v) (j : Int) = if j = i then v else rdOf false xs (j : Int) := by
  unfold rdOf; simp only [List.getD_eq_getElem?_getD, Int.toNat_natCast]
  by_cases c : j = i
  (subst c; rw [if_pos rfl, List.getElem?_set_self h]; rfl); (rw [if_neg c, List.getElem?_set_ne (fun e => c e.symm)])
theorem drpI (L : List Int) (t : Nat) (h : t < L.length) : L.drop t = rd L t :: L.drop (t + 1) := by
  rw [List.drop_eq_getElem_cons h]; unfold rd; rw [List.getD_eq_getElem?_getD, Int.toNat_natCast, List.getElem?_eq_getElem h]; rfl
theorem stay_l1 (f n : Nat) (hf : f ≤ 1000000) (L : List Int) (hL : L.length ≤ 1000000) (hn : n ≤ 1000000) (hr : ∀ t : Nat, t < L.length → 0 ≤ rd L t ∧ (f : Int) + rd L t < n) (d : Nat) : ∀ (t : Nat) (xs : List Bool), t + d = L.length → xs.length = n →
    ∃ out, Ev (fun k => kids_stay.l1 k f xs L L.length t) out ∧ out.length = n ∧ ∀ j : Nat, rdOf false out (j : Int) = (rdOf false xs (j : Int) || (L.drop t).any (fun x => (f : Int) + x == (j : Int))) := by
  induction d with
  | zero =>
    intro t xs ht hx; refine ⟨xs, (Ev.pure _).step (fun k => by rw [kids_stay.l1, if_neg (by omega)]), hx, fun j => ?_⟩; rw [List.drop_eq_nil_of_le (by omega)]; simp
  | succ d ih =>
    intro t xs ht hx; have h1 := hr t (by omega); obtain ⟨u, hu⟩ := Int.eq_ofNat_of_zero_le (show 0 ≤ (f : Int) + rd L t by omega); obtain ⟨out, o1, o2, o3⟩ := ih (t + 1) (xs.set u true) (by omega) (by rw [List.length_set]; exact hx); refine ⟨out, o1.step (fun k => ?_), o2, fun j => ?_⟩; (rw [kids_stay.l1, if_pos (by omega), if_pos (by omega), if_pos (by omega), ww (i := (f : Int) + rd L t) (by omega) (by omega), hu, if_pos (by omega), if_pos (by omega), Int.toNat_natCast, w1 (by omega) (by omega)]; rfl)
    · rw [o3 j, rdOf_set xs u j true (by omega), drpI L t (by omega), List.any_cons, hu]
      by_cases c : j = u
      · subst c; simp
      · rw [if_neg c]
        have : ((u : Int) == (j : Int)) = false := by simp; omega
        rw [this]
        simp
/-- The middle of where they stood. -/
def midL (a b : List S50) (f g : Nat) : List Int := ((kpL a b).take (b.length - g)).drop f
/-- Which labels stay. -/
def ST (a b : List S50) (f g j : Nat) : Bool := (decide (j < f) || decide (b.length - g ≤ j)) || (longestOf (midL a b f g)).any (fun x => (f : Int) + x == (j : Int))
theorem mid_len (a b : List S50) (f g : Nat) : (midL a b f g).length = b.length - g - f := by
  unfold midL; rw [List.length_drop, List.length_take, kpL_len]; omega
theorem stay_ev (a b : List S50) (hlb : b.length ≤ 1000000) {f g : Nat} (hT : Ev (fun k => kids_Trim.f k a b) ((f : Int), (g : Int))) (E : Ends a b f g) : ∃ out, Ev (fun k => kids_stay.f k a b (kpL a b)) out ∧ out.length = b.length ∧ ∀ j : Nat, j < b.length → rdOf false out (j : Int) = ST a b f g j := by
  have lb := E.lb; have hml := mid_len a b f g; have hch := longest_choice (midL a b f g); have hll := choice_le hch
  have hplen : (longestOf (midL a b f g)).length ≤ 1000000 := by
    rw [longest_len]; have hi := playN_inv (midL a b f g) (midL a b f g).length (Nat.le_refl _); have h2 : (pilesOf (midL a b f g)).length ≤ (midL a b f g).length := hi.psl; omega
  have hr : ∀ t : Nat, t < (longestOf (midL a b f g)).length → 0 ≤ rd (longestOf (midL a b f g)) t ∧ (f : Int) + rd (longestOf (midL a b f g)) t < b.length := fun t ht => by
    obtain ⟨c1, c2, _⟩ := hch t (by omega) (by omega); exact ⟨c1, by omega⟩
  have hw : wrap64 ((b.length : Int) - (g : Int)) = ((b.length - g : Nat) : Int) := by rw [ww (by omega) (by omega)]; omega
  have loop : ∀ (d i : Nat) (xs : List Bool), i + d = b.length → xs.length = b.length → (∀ j : Nat, j < i → rdOf false xs (j : Int) = (decide (j < f) || decide (b.length - g ≤ j))) →
      ∃ out, Ev (fun k => kids_stay.l0 k b (kpL a b) f g xs b.length i) out ∧ out.length = b.length ∧ ∀ j : Nat, j < b.length → rdOf false out (j : Int) = ST a b f g j := by
    intro d
    induction d with
    | zero =>
      intro i xs hi hx hj; obtain ⟨out, o1, o2, o3⟩ := stay_l1 f b.length (by omega) (longestOf (midL a b f g)) hplen hlb hr _ 0 xs (Nat.zero_add _) hx; refine ⟨out, ?_, o2, fun j h => ?_⟩; (have hLi : Ev (fun _ => lis_Longest.f (midL a b f g)) (longestOf (midL a b f g)) := Ev.all (fun k => by rw [lis_Longest.f, if_pos (by omega)]); refine (Ev.bind hLi (g := fun k t => kids_stay.l1 k f xs t t.length 0) o1).step (fun k => ?_); rw [kids_stay.l0, if_neg (by omega), hw, if_pos (by omega), if_pos (by omega), if_pos (by rw [kpL_len]; omega), Int.toNat_natCast, Int.toNat_natCast]; rfl); (rw [o3 j, hj j (by omega), List.drop_zero]; rfl)
    | succ d ih =>
      intro i xs hi hx hj
      have step : ∀ v : Bool, v = (decide (i < f) || decide (b.length - g ≤ i)) → (∀ j : Nat, j < i + 1 → rdOf false (xs.set i v) (j : Int) = (decide (j < f) || decide (b.length - g ≤ j))) := fun v hv j h => by
        rw [rdOf_set xs i j v (by omega)]
        by_cases c : j = i
        (subst c; rw [if_pos rfl, hv]); (rw [if_neg c, hj j (by omega)])
      by_cases c : i < f
      · obtain ⟨out, o1, o2⟩ := ih (i + 1) (xs.set i true) (by omega) (by rw [List.length_set]; exact hx) (step true (by simp [c]))
        refine ⟨out, o1.step (fun k => ?_), o2⟩; rw [kids_stay.l0, if_pos (by omega), if_pos (by omega), if_pos (by omega), if_pos (by omega), Int.toNat_natCast, w1 (by omega) (by omega)]; rfl
      · obtain ⟨out, o1, o2⟩ := ih (i + 1) (xs.set i (decide ((i : Int) ≥ ((b.length - g : Nat) : Int)))) (by omega) (by rw [List.length_set]; exact hx) (step _ (by
          rw [decide_eq_false c, Bool.false_or, decide_eq_decide]; omega))
        refine ⟨out, o1.step (fun k => ?_), o2⟩
        rw [kids_stay.l0, if_pos (by omega), if_neg (by omega), if_pos (by omega), if_pos (by omega), Int.toNat_natCast, hw, w1 (by omega) (by omega)]
        rfl
  obtain ⟨out, o1, o2, o3⟩ := loop b.length 0 (List.replicate b.length false) (by omega) (by rw [List.length_replicate]) (fun j h => by omega); refine ⟨out, ?_, o2, o3⟩; unfold kids_stay.f; refine Ev.bind hT ?_; refine o1.eq (fun k => ?_); rw [if_pos (by omega), if_pos (by omega), Option.bind_some, Int.toNat_natCast, List.length_replicate]; rfl
/-- The steps for the labels ahead of a place, the last one first. -/
def stp (a b : List S50) (S : Nat → Bool) : Nat → List S46
  | 0 => []
  | i + 1 => (if S i = true then [] else [⟨(i : Int), kp a b i, if i + 1 = b.length then -1 else ((i + 1 : Nat) : Int)⟩]) ++ stp a b S i
theorem stp_len (a b : List S50) (S : Nat → Bool) : ∀ i, (stp a b S i).length ≤ i
  | 0 => by simp [stp]
  | i + 1 => by
    have := stp_len a b S i
    rw [stp]
    split
    · simp only [List.nil_append]; omega
    · simp only [List.length_append, List.length_singleton]; omega
theorem of_l2 (a b : List S50) (hlb : b.length ≤ 1000000) (S : Nat → Bool) (st : List Bool) (hst : st.length = b.length) (hS : ∀ j : Nat, j < b.length → rdOf false st (j : Int) = S j) (D : List Int) : ∀ (i : Nat) (acc : List S46), i ≤ b.length → acc.length + i ≤ b.length →
    Ev (fun k => kids_Of.l2 k st (if i = b.length then -1 else (i : Int)) ((i : Int) - 1) (kpL a b) D acc) (kpL a b, D, acc ++ stp a b S i, 0)
  | 0, acc, _, _ => by
    rw [stp, List.append_nil]
    exact (Ev.pure _).step (fun k => by rw [kids_Of.l2, if_neg (by omega)])
  | i + 1, acc, hi, ha => by
    have hk := kpL_len a b
    have hi1 : (((i + 1 : Nat) : Int) - 1) = (i : Int) := by omega
    have hbef : (if i = b.length then (-1 : Int) else (i : Int)) = (i : Int) := if_neg (by omega)
    rw [stp, hi1]
    by_cases c : S i = true
    · have h := of_l2 a b hlb S st hst hS D i acc (by omega) (by omega)
      rw [hbef] at h
      rw [if_pos c, List.nil_append]
      refine h.step (fun k => ?_)
      rw [kids_Of.l2, if_pos (by omega), if_pos (by omega), if_pos (by omega), hS i (by omega), if_pos c, wm (by omega) (by omega)]
    · have h := of_l2 a b hlb S st hst hS D i (acc ++ [⟨(i : Int), kp a b i, if i + 1 = b.length then -1 else ((i + 1 : Nat) : Int)⟩]) (by omega) (by rw [List.length_append, List.length_singleton]; omega)
      rw [hbef] at h
      rw [if_neg c, ← List.append_assoc]
      refine h.step (fun k => ?_)
      rw [kids_Of.l2, if_pos (by omega), if_pos (by omega), if_pos (by omega), hS i (by omega), if_neg c, if_pos (by omega), if_pos (by omega), wm (by omega) (by omega), rd_kpL a b i (by omega)]
theorem kp_iff {a b : List S50} (ha : a.Nodup) {u : Nat} (hu : u < a.length) : (∃ j : Nat, j < b.length ∧ kp a b j = (u : Int)) ↔ fnd b (rd_T50 a u) ≠ none := by
  rw [rdT a u hu, Ne, fnd_none, Classical.not_not]; constructor; (rintro ⟨j, hj, h⟩; obtain ⟨_, h2⟩ := kp_some hj h; rw [h2]; exact List.getElem_mem hj); (intro h; obtain ⟨j, hj, e⟩ := List.getElem_of_mem h; refine ⟨j, hj, ?_⟩; unfold kp; rw [rdT b j hj, fnd_of ha hu e.symm]; rfl)
theorem kp_range (a b : List S50) (j : Nat) (hj : j < b.length) : kp a b j = -1 ∨ ∃ u : Nat, u < a.length ∧ kp a b j = (u : Int) := by
  unfold kp
  cases hf : fnd a (rd_T50 b j) with
  | none => exact .inl rfl
  | some t => obtain ⟨h, _⟩ := fnd_get _ _ _ hf; exact .inr ⟨t, h, rfl⟩
/-- A step, as_ the reference has it. -/
def s38 (y : S46) : S38 := ⟨y.f0, y.f1, y.f2⟩
theorem Choice.mono {l at_ : List Int} (h : Choice l at_) (t : Nat) : ∀ d : Nat, t + d + 1 < at_.length → rd at_ (t : Int) < rd at_ ((t + d + 1 : Nat) : Int) ∧ rd l (rd at_ (t : Int)) < rd l (rd at_ ((t + d + 1 : Nat) : Int)) := by
  intro d
  induction d with
  | zero =>
    intro hd; obtain ⟨_, _, _, h4⟩ := h ((t + 0 + 1 : Nat) : Int) (by omega) (by omega); have := h4 (by omega); rw [show (((t + 0 + 1 : Nat) : Int) - 1) = (t : Int) by omega] at this; exact this
  | succ d ih =>
    intro hd; have h1 := ih (by omega); obtain ⟨_, _, _, h4⟩ := h ((t + (d + 1) + 1 : Nat) : Int) (by omega) (by omega); have := h4 (by omega); rw [show (((t + (d + 1) + 1 : Nat) : Int) - 1) = ((t + d + 1 : Nat) : Int) by omega] at this; exact ⟨by omega, by omega⟩
theorem rd_mid (a b : List S50) (f g : Nat) (x : Nat) (h : f + x < b.length - g) : rd (midL a b f g) (x : Int) = kp a b (f + x) := by
  have h1 := rd_kpL a b (f + x) (by omega); rw [← h1]; unfold rd midL; simp only [List.getD_eq_getElem?_getD, Int.toNat_natCast]; rw [List.getElem?_drop, List.getElem?_take, if_pos h]
theorem steps_ev (L : List S46) (hl : L.length ≤ 1000000) : Ev (fun k => lw_steps.f k L) (L.map s38) := by
  have loop : ∀ (d i : Nat) (acc : List S38), i + d = L.length → acc.length ≤ i → acc ++ (L.drop i).map s38 = L.map s38 → Ev (fun k => lw_steps.l0 k L acc L.length i) (L.map s38) := by
    intro d
    induction d with
    | zero =>
      intro i acc hi ha he; rw [List.drop_eq_nil_of_le (by omega), List.map_nil, List.append_nil] at he; rw [he]; exact (Ev.pure _).step (fun k => by rw [lw_steps.l0, if_neg (by omega)])
    | succ d ih =>
      intro i acc hi ha he
      have e : L.drop i = rd_T46 L i :: L.drop (i + 1) := by
        rw [List.drop_eq_getElem_cons (by omega)]; unfold rd_T46; rw [List.getD_eq_getElem?_getD, Int.toNat_natCast, List.getElem?_eq_getElem (by omega)]; rfl
      rw [e, List.map_cons] at he; have := ih (i + 1) (acc ++ [s38 (rd_T46 L i)]) (by omega) (by rw [List.length_append, List.length_singleton]; omega) (by rw [List.append_assoc]; exact he); exact this.step (fun k => by rw [lw_steps.l0, if_pos (by omega), if_pos (by omega), if_pos (by omega), if_pos (by omega), w1 (by omega) (by omega)]; rfl)
  exact loop L.length 0 [] (by omega) (by simp) (by simp)
theorem toZ_neg (o : Option Nat) : toZ o < 0 ↔ o = none := by
  cases o with
  | none => simp [toZ]
  | some n => simp [toZ]
theorem keptref_ev (a b : List S50) (hla : a.length ≤ 1000000) (hlb : b.length ≤ 1000000) : Ev (fun k => r12_Kept.f k a b) (kpL a b) := by
  have loop : ∀ (d i : Nat), i + d = b.length → Ev (fun k => r12_Kept.l0 k a b ((List.range i).map (kp a b)) b.length i) (kpL a b) := by
    intro d
    induction d with
    | zero =>
      intro i hi; refine (Ev.pure _).step (fun k => ?_); rw [r12_Kept.l0, if_neg (by omega)]; unfold kpL; rw [show i = b.length by omega]
    | succ d ih =>
      intro i hi; have h := ih (i + 1) (by omega); rw [List.range_succ, List.map_append] at h; exact (find_ev a hla (rd_T50 b i)).via h (fun k hk => by rw [r12_Kept.l0, if_pos (by omega), if_pos (by omega), if_pos (by omega), hk, Option.bind_some, if_pos (by rw [List.length_map, List.length_range]; omega), w1 (by omega) (by omega)]; rfl)
  have := loop b.length 0 (by omega); exact this
end Go.Proofs.Ytpekchebllobmaa.Pure
namespace Go.Proofs.Ytpekchebllobmaa.Lis
open Go.RowKit Go.Proofs.Ytpekchebllobmaa.G Go.Proofs.YtpekchebllobmaaW.PrintWords Go.Proofs.YtpekchebllobmaaW.PrintLast
set_option linter.unusedVariables false
theorem w1 {i : Int} (h0 : 0 ≤ i) (h : i ≤ 1000000) : wrap64 (i + 1) = i + 1 := by unfold wrap64; omega
theorem w0 {i : Int} (h0 : 0 < i) (h : i ≤ 1000000) : wrap64 (i - 1) = i - 1 := by unfold wrap64; omega
theorem take_succ' (xs : List Int) (i : Nat) (h : i < xs.length) : xs.take (i + 1) = xs.take i ++ [rd xs i] := by
  rw [List.take_succ_eq_append_getElem h]; unfold rd; rw [List.getD_eq_getElem?_getD, Int.toNat_natCast, List.getElem?_eq_getElem h]; rfl
theorem rd_take (xs : List Int) (i : Nat) (j : Int) (h0 : 0 ≤ j) (h : j < i) : rd (xs.take i) j = rd xs j := by
  unfold rd; rw [List.getD_eq_getElem?_getD, List.getD_eq_getElem?_getD, List.getElem?_take, if_pos (by omega)]
/-- The inner round of the reference's Ends: what comes behind it, if the number that it has gathered is right. -/
theorem refEnds_l1 (l : List Int) (hn : l.length ≤ 1000000) (i : Nat) (hi : i < l.length) (d : Nat) : ∀ (k : Nat) (j n : Int), 0 ≤ j → (i : Int) - j = d → d < k →
    (rd l i < 0 → n = 0) → (0 ≤ rd l i → 1 ≤ n ∧ n ≤ rd (endsOf l) i ∧ ∀ y : Int, 0 ≤ y → y < j → 0 ≤ rd l y → rd l y < rd l i → rd (endsOf l) y + 1 ≤ n) →
    ∃ m, d + m + 1 = k ∧ r06_Ends.l1 k l ((endsOf l).take i) i n l.length i i j = r06_Ends.l0 m l ((endsOf l).take (i + 1)) l.length (i + 1) := by
  have hel := ends_len l
  induction d with
  | zero =>
    intro k j n h0 hd hk hneg hpos; obtain ⟨k, rfl⟩ : ∃ m, k = m + 1 := ⟨k - 1, by omega⟩; refine ⟨k, by omega, ?_⟩
    have hnn : n = rd (endsOf l) i := by
      by_cases hl : rd l i < 0
      · rw [hneg hl, ends_neg (by omega) hl]
      · obtain ⟨h1, h2, h3⟩ := hpos (by omega)
        obtain ⟨p, hp⟩ := (pat l).all i (by omega) (by omega) (by omega)
        have he := ends_mem hp
        cases p with
        | zero => omega
        | succ p =>
          obtain ⟨b1, b2, b3, _⟩ := (pat l).back p i hp; have hr := (pat l).range b1; have := h3 _ hr.1 (by omega) ((pat l).pos _ _ b1) b3; rw [ends_mem b1] at this; omega
    rw [r06_Ends.l1, if_neg (by omega), if_pos (by rw [List.length_take]; omega), w1 (by omega) (by omega), hnn, take_succ' _ _ (by omega)]
  | succ d ih =>
    intro k j n h0 hd hk hneg hpos; obtain ⟨k, rfl⟩ : ∃ m, k = m + 1 := ⟨k - 1, by omega⟩
    have go : ∀ n2, (rd l i < 0 → n2 = 0) → (0 ≤ rd l i → 1 ≤ n2 ∧ n2 ≤ rd (endsOf l) i ∧ ∀ y : Int, 0 ≤ y → y < j + 1 → 0 ≤ rd l y → rd l y < rd l i → rd (endsOf l) y + 1 ≤ n2) →
        ∃ m, d + 1 + m + 1 = k + 1 ∧ r06_Ends.l1 k l ((endsOf l).take i) i n2 l.length i i (j + 1) = r06_Ends.l0 m l ((endsOf l).take (i + 1)) l.length (i + 1) := fun n2 a b => by
      obtain ⟨m, h1, h2⟩ := ih k (j + 1) n2 (by omega) (by omega) (by omega) a b
      exact ⟨m, by omega, h2⟩
    have keep : (¬ (0 ≤ rd l j ∧ rd l j < rd l i) ∨ rd (endsOf l) j + 1 ≤ n) → ∃ m, d + 1 + m + 1 = k + 1 ∧ r06_Ends.l1 k l ((endsOf l).take i) i n l.length i i (j + 1) = r06_Ends.l0 m l ((endsOf l).take (i + 1)) l.length (i + 1) := fun hk2 =>
      go n hneg (fun hp => by
        obtain ⟨h1, h2, h3⟩ := hpos hp; refine ⟨h1, h2, fun y y0 y1 y2 y3 => ?_⟩
        by_cases hyj : y = j
        · subst hyj
          rcases hk2 with h | h
          · exact absurd ⟨y2, y3⟩ h
          · exact h
        · exact h3 y y0 (by omega) y2 y3)
    rw [r06_Ends.l1, if_pos (by omega), if_pos (by omega), if_pos (by omega), w1 h0 (by omega)]
    by_cases c1 : rd l i ≥ 0
    · rw [if_pos c1, if_pos h0, if_pos (by omega)]
      by_cases c2 : rd l j ≥ 0
      · rw [if_pos c2]
        by_cases c3 : rd l j < rd l i
        · have hE : rd ((endsOf l).take i) j = rd (endsOf l) j := rd_take _ _ _ h0 (by omega)
          obtain ⟨p, hp⟩ := (pat l).all j h0 (by omega) c2
          obtain ⟨q, hq⟩ := (pat l).all i (by omega) (by omega) c1
          have h1 := ends_mem hp
          have h2 := ends_mem hq
          have hpq := (pat l).cross p q j i hp hq (by omega) c3
          have hql := mem_lt hq
          have hps := (pat l).inv.psl
          rw [if_pos c3, if_pos (by rw [List.length_take]; omega), hE, w1 (by omega) (by omega)]
          by_cases c4 : rd (endsOf l) j + 1 > n
          · rw [if_pos c4]
            refine go _ (fun h => by omega) (fun _ => ⟨by omega, by omega, fun y y0 y1 y2 y3 => ?_⟩)
            by_cases hyj : y = j
            · subst hyj; omega
            · have := (hpos c1).2.2 y y0 (by omega) y2 y3; omega
          · rw [if_neg c4]
            exact keep (.inr (by omega))
        · rw [if_neg c3]
          exact keep (.inl (by omega))
      · rw [if_neg c2]
        exact keep (.inl (by omega))
    · rw [if_neg c1]
      exact go n hneg (fun h => by omega)
theorem refEnds_l0 (l : List Int) (hn : l.length ≤ 1000000) (d : Nat) : ∀ (k : Nat) (i : Nat), (l.length : Int) - i = d → d * (l.length + 3) < k → i ≤ l.length →
    r06_Ends.l0 k l ((endsOf l).take i) l.length i = some (endsOf l) := by
  have hel := ends_len l
  induction d with
  | zero =>
    intro k i hd hk hi; obtain ⟨k, rfl⟩ : ∃ m, k = m + 1 := ⟨k - 1, by omega⟩; rw [r06_Ends.l0, if_neg (by omega), List.take_of_length_le (by omega)]
  | succ d ih =>
    intro k i hd hk hi
    have hmul : (d + 1) * (l.length + 3) = d * (l.length + 3) + l.length + 3 := by rw [Nat.succ_mul]; omega
    obtain ⟨k, rfl⟩ : ∃ m, k = m + 2 := ⟨k - 2, by omega⟩
    have go : ∀ n, (rd l i < 0 → n = 0) → (0 ≤ rd l i → n = 1) → r06_Ends.j1 (k + 1) l ((endsOf l).take i) i n l.length i = some (endsOf l) := fun n h1 h2 => by
      rw [r06_Ends.j1]
      obtain ⟨m, hm, he⟩ := refEnds_l1 l hn i (by omega) i k 0 n (by omega) (by omega) (by omega) h1 (fun hp => ⟨by rw [h2 hp]; omega, by
        obtain ⟨p, hp⟩ := (pat l).all i (by omega) (by omega) hp
        rw [h2 (by assumption), ends_mem hp]; omega, fun y y0 y1 => by omega⟩)
      rw [he, show (i : Int) + 1 = ((i + 1 : Nat) : Int) by omega]; exact ih m (i + 1) (by omega) (by omega) (by omega)
    rw [r06_Ends.l0, if_pos (by omega), if_pos (by omega), if_pos (by omega)]
    by_cases c : rd l i ≥ 0
    (rw [if_pos c]; exact go 1 (fun h => by omega) (fun _ => rfl)); (rw [if_neg c]; exact go 0 (fun _ => rfl) (fun h => absurd h c))
def K1 (l : List Int) : Nat := l.length * (l.length + 3) + 1
theorem refEnds (l : List Int) (hn : l.length ≤ 1000000) (k : Nat) (hk : K1 l ≤ k) : r06_Ends.f k l = some (endsOf l) :=
  refEnds_l0 l hn l.length k 0 (by omega) (by unfold K1 at hk; omega) (by omega)
theorem refLength_l0 (l : List Int) (hn : l.length ≤ 1000000) (d : Nat) : ∀ (k : Nat) (i n : Int), 0 ≤ i → (l.length : Int) - i = d → d < k → 0 ≤ n → n ≤ (pilesOf l).length →
    (∀ p : Nat, (pilesOf l).length = p + 1 → n = p + 1 ∨ ∃ x, x ∈ (pilesOf l).getD p [] ∧ i ≤ x) → r06_Length.l0 k n (endsOf l) l.length i = some ((pilesOf l).length : Int) := by
  have hel := ends_len l
  induction d with
  | zero =>
    intro k i n h0 hd hk hn0 hn1 hp; obtain ⟨k, rfl⟩ : ∃ m, k = m + 1 := ⟨k - 1, by omega⟩; rw [r06_Length.l0, if_neg (by omega)]
    congr 1
    rcases Nat.eq_zero_or_pos (pilesOf l).length with h | h
    · omega
    · rcases hp ((pilesOf l).length - 1) (by omega) with h1 | ⟨x, hx, h1⟩
      · omega
      · have := (pat l).range hx; omega
  | succ d ih =>
    intro k i n h0 hd hk hn0 hn1 hp; obtain ⟨k, rfl⟩ : ∃ m, k = m + 1 := ⟨k - 1, by omega⟩; rw [r06_Length.l0, if_pos (by omega), if_pos h0, if_pos (by omega), w1 h0 (by omega)]
    have hle : rd (endsOf l) i ≤ (pilesOf l).length ∧ ∀ q : Nat, i ∈ (pilesOf l).getD q [] → rd (endsOf l) i = q + 1 := by
      by_cases hneg : rd l i < 0
      (rw [ends_neg h0 hneg]; exact ⟨by omega, fun q hq => by have := (pat l).pos q i hq; omega⟩); (obtain ⟨q, hq⟩ := (pat l).all i h0 (by omega) (by omega); have := mem_lt hq; exact ⟨by rw [ends_mem hq]; omega, fun q2 hq2 => ends_mem hq2⟩)
    have hmx : mx n (rd (endsOf l) i) = if n < rd (endsOf l) i then rd (endsOf l) i else n := rfl
    refine ih k (i + 1) _ (by omega) (by omega) (by omega) ?_ ?_ ?_; (rw [hmx]; split <;> omega); (rw [hmx]; split <;> omega)
    · intro p hpl
      rcases hp p hpl with h1 | ⟨x, hx, h1⟩
      · left; rw [hmx]; split <;> omega
      · by_cases hxi : x = i
        · subst hxi
          left
          have := hle.2 p hx
          rw [hmx]; split <;> omega
        · exact .inr ⟨x, hx, by omega⟩
theorem refLength (l : List Int) (hn : l.length ≤ 1000000) (k : Nat) (hk : K1 l ≤ k) (hk2 : l.length < k) : r06_Length.f k l = some ((pilesOf l).length : Int) := by
  unfold r06_Length.f; rw [refEnds l hn k hk]; simp only [Option.bind_some]; rw [ends_len]; refine refLength_l0 l hn l.length k 0 0 (by omega) (by omega) hk2 (by omega) (by omega) (fun p hp => .inr ?_); have := (pat l).nonempty (show p < (pilesOf l).length by omega); refine ⟨rd ((pilesOf l).getD p []) (((pilesOf l).getD p []).length - 1), rd_last_mem _ this, ?_⟩; have := (pat l).range (rd_last_mem _ this); omega
/-- The reference's scan for the last place of pile q below the limit z. -/
theorem refLongest_l1 (l out : List Int) (hn : l.length ≤ 1000000) (q : Nat) (z : Int) (hz : z ≤ l.length) (c : Int) (hc : c ∈ (pilesOf l).getD q []) (hcz : c < z) (hlast : ∀ y, y ∈ (pilesOf l).getD q [] → y < z → y ≤ c)
    (hout : out.length ≤ 1000000) (d : Nat) : ∀ (k : Nat) (j a : Int), 0 ≤ j → z - j = d → d < k → (a < 0 ∧ (∀ y, y ∈ (pilesOf l).getD q [] → j ≤ y) ∨ a ∈ (pilesOf l).getD q [] ∧ a < j ∧ ∀ y, y ∈ (pilesOf l).getD q [] → y < j → y ≤ a) →
    ∃ m, d + m + 1 = k ∧ r06_Longest.l1 k l (endsOf l) out ((q : Int) + 1) a z j = r06_Longest.l0 m l (endsOf l) (c :: out) c q := by
  have hel := ends_len l; have hcr := (pat l).range hc; have hql := mem_lt hc; have hps := (pat l).inv.psl
  induction d with
  | zero =>
    intro k j a h0 hd hk ha; obtain ⟨k, rfl⟩ : ∃ m, k = m + 1 := ⟨k - 1, by omega⟩
    have hac : a = c := by
      rcases ha with ⟨_, h2⟩ | ⟨h1, h2, h3⟩
      (have := h2 c hc; omega); (have := h3 c hc (by omega); have := hlast a h1 (by omega); omega)
    subst hac; refine ⟨k, by omega, ?_⟩; rw [r06_Longest.l1, if_neg (by omega), if_neg (by omega)]; simp only [Option.bind_some]; rw [if_pos (by simp only [List.length_cons, List.length_nil]; omega), w0 (by omega) (by omega), show (q : Int) + 1 - 1 = (q : Int) by omega]; rfl
  | succ d ih =>
    intro k j a h0 hd hk ha; obtain ⟨k, rfl⟩ : ∃ m, k = m + 1 := ⟨k - 1, by omega⟩
    have go : ∀ a2, (a2 < 0 ∧ (∀ y, y ∈ (pilesOf l).getD q [] → j + 1 ≤ y) ∨ a2 ∈ (pilesOf l).getD q [] ∧ a2 < j + 1 ∧ ∀ y, y ∈ (pilesOf l).getD q [] → y < j + 1 → y ≤ a2) →
        ∃ m, d + 1 + m + 1 = k + 1 ∧ r06_Longest.l1 k l (endsOf l) out ((q : Int) + 1) a2 z (j + 1) = r06_Longest.l0 m l (endsOf l) (c :: out) c q := fun a2 h => by
      obtain ⟨m, h1, h2⟩ := ih k (j + 1) a2 (by omega) (by omega) (by omega) h
      exact ⟨m, by omega, h2⟩
    rw [r06_Longest.l1, if_pos (by omega), if_pos h0, if_pos (by omega), w1 h0 (by omega)]
    by_cases c1 : rd (endsOf l) j = (q : Int) + 1
    · rw [if_pos c1]
      have hj : j ∈ (pilesOf l).getD q [] := by
        by_cases hneg : rd l j < 0
        · rw [ends_neg h0 hneg] at c1; omega
        · obtain ⟨p, hp⟩ := (pat l).all j h0 (by omega) (by omega)
          have := ends_mem hp
          have hpq : p = q := by omega
          rwa [hpq] at hp
      by_cases c2 : a < 0
      · rw [if_pos c2]
        exact go j (.inr ⟨hj, by omega, fun y _ hy => by omega⟩)
      · rw [if_neg c2]
        obtain ⟨h1, h2, h3⟩ : a ∈ (pilesOf l).getD q [] ∧ a < j ∧ ∀ y, y ∈ (pilesOf l).getD q [] → y < j → y ≤ a := by
          rcases ha with h | h
          (omega); (exact h)
        have har := (pat l).range h1
        have hdown : rd l j ≤ rd l a := by
          have hD := (pat l).down q; obtain ⟨s, hs, e1⟩ := List.getElem_of_mem h1; obtain ⟨t, ht, e2⟩ := List.getElem_of_mem hj
          have hst : s < t := by
            rcases Nat.lt_trichotomy s t with h | h | h
            (exact h); (subst h; omega); (have := (List.pairwise_iff_getElem.1 hD t s ht hs h).1; omega)
          have := (List.pairwise_iff_getElem.1 hD s t hs ht hst).2; rwa [e1, e2] at this
        rw [if_pos (by omega), if_pos (by omega), if_pos (by omega), if_pos hdown]
        exact go j (.inr ⟨hj, by omega, fun y _ hy => by omega⟩)
    · rw [if_neg c1]
      have hj : j ∉ (pilesOf l).getD q [] := fun h => c1 (ends_mem h)
      refine go a ?_
      rcases ha with ⟨h1, h2⟩ | ⟨h1, h2, h3⟩
      · exact .inl ⟨h1, fun y hy => by
          have := h2 y hy
          have : y ≠ j := fun e => hj (e ▸ hy)
          omega⟩
      · exact .inr ⟨h1, by omega, fun y hy hyj => by
          have : y ≠ j := fun e => hj (e ▸ hy)
          exact h3 y hy (by omega)⟩
theorem refLongest_l0 (l : List Int) (hn : l.length ≤ 1000000) : ∀ (q k : Nat) (z : Int), q ≤ (pilesOf l).length → q * (l.length + 3) < k → (q = (pilesOf l).length → z = l.length) → (q < (pilesOf l).length → z = rd (longestOf l) q) →
    r06_Longest.l0 k l (endsOf l) ((longestOf l).drop q) z q = some (longestOf l) := by
  have hll := longest_len l; have hps := (pat l).inv.psl; intro q
  induction q with
  | zero =>
    intro k z hq hk _ _; obtain ⟨k, rfl⟩ : ∃ m, k = m + 1 := ⟨k - 1, by omega⟩; rw [r06_Longest.l0, if_neg (by omega), List.drop_zero]
  | succ q ih =>
    intro k z hq hk hz1 hz2
    have hmul : (q + 1) * (l.length + 3) = q * (l.length + 3) + l.length + 3 := by rw [Nat.succ_mul]; omega
    obtain ⟨k, rfl⟩ : ∃ m, k = m + 1 := ⟨k - 1, by omega⟩; obtain ⟨a1, a2, a3⟩ := longest_at l q (by omega); have hr := (pat l).range a1
    -- the limit, and that this is the last one below it
    have hlim : rd (longestOf l) q < z ∧ z ≤ l.length ∧ ∀ y, y ∈ (pilesOf l).getD q [] → y < z → y ≤ rd (longestOf l) q := by
      by_cases he : q + 1 = (pilesOf l).length
      (rw [hz1 he]; exact ⟨hr.2, by omega, fun y hy _ => by rw [a2 he]; exact ((pat l).top hy).1⟩); (obtain ⟨b1, _, _⟩ := longest_at l (q + 1) (by omega); obtain ⟨c1, c2, c3, c4⟩ := (pat l).back q _ b1; have e := a3 (by omega); rw [show (q : Int) + 1 = ((q + 1 : Nat) : Int) by omega] at e; have hz := hz2 (by omega); rw [hz, e]; have := (pat l).range b1; exact ⟨c2, by omega, c4⟩)
    rw [r06_Longest.l0, if_pos (by omega), show ((q + 1 : Nat) : Int) = (q : Int) + 1 by omega]; obtain ⟨d, hd⟩ := Int.eq_ofNat_of_zero_le (show 0 ≤ z by omega)
    obtain ⟨m, hm, he⟩ := refLongest_l1 l ((longestOf l).drop (q + 1)) hn q z hlim.2.1 (rd (longestOf l) q) a1 hlim.1 hlim.2.2 (by rw [List.length_drop]; omega) d k 0 (-1) (by omega) (by omega) (by omega)
      (.inl ⟨by omega, fun y hy => ((pat l).range hy).1⟩)
    rw [he]
    have hd2 : rd (longestOf l) q :: (longestOf l).drop (q + 1) = (longestOf l).drop q := by
      rw [List.drop_eq_getElem_cons (show q < (longestOf l).length by omega)]; unfold rd; rw [List.getD_eq_getElem?_getD, Int.toNat_natCast, List.getElem?_eq_getElem (by omega)]; rfl
    rw [hd2]; exact ih m _ (by omega) (by omega) (fun h => by omega) (fun _ => rfl)
theorem refLongest (l : List Int) (hn : l.length ≤ 1000000) (k : Nat) (hk : K1 l ≤ k) (hk2 : l.length < k) : r06_Longest.f k l = some (longestOf l) := by
  unfold r06_Longest.f; rw [refEnds l hn k hk, refLength l hn k hk hk2]; simp only [Option.bind_some]
  have h := refLongest_l0 l hn (pilesOf l).length k l.length (Nat.le_refl _) (by
    have := (pat l).inv.psl; have := Nat.mul_le_mul_right (l.length + 3) this
    unfold K1 at hk; omega) (fun _ => rfl) (fun h => by omega)
  rw [List.drop_of_length_le (by rw [longest_len]; exact Nat.le_refl _)] at h; exact h
end Go.Proofs.Ytpekchebllobmaa.Lis
namespace Go.Proofs.Ytpekchebllobmaa.Pure
open Go.RowKit Go.Proofs.Ytpekchebllobmaa.G Go.Proofs.YtpekchebllobmaaW.PrintWords Go.Proofs.YtpekchebllobmaaW.PrintLast
set_option linter.unusedVariables false
/-- How many steps of the rest move something kept. -/
def mv (l : List S46) : List S46 → Int
  | [] => 0
  | y :: ys => (if y.f1 ≥ 0 then 1 else 0) + mv l ys
theorem drp46 (xs : List S46) (i : Int) (h0 : 0 ≤ i) (hi : i < xs.length) : xs.drop i.toNat = rd_T46 xs i :: xs.drop (i + 1).toNat := by
  obtain ⟨n, rfl⟩ := Int.eq_ofNat_of_zero_le h0
  have hn : n < xs.length := by omega
  rw [show ((n : Int) + 1).toNat = n + 1 by omega, Int.toNat_natCast, List.drop_eq_getElem_cons hn]; unfold rd_T46; rw [List.getD_eq_getElem?_getD, Int.toNat_natCast, List.getElem?_eq_getElem hn]; rfl
theorem moves_l0 (l : List S46) (hl : (l.length : Int) ≤ 1000000) (d : Nat) : ∀ i x : Int, 0 ≤ i → (l.length : Int) - i = d → 0 ≤ x → x ≤ i → Ev (fun k => kids_Moves.l0 k x l l.length i) (x + mv l (l.drop i.toNat)) := by
  induction d with
  | zero =>
    intro i x h0 hd x0 x1; rw [List.drop_eq_nil_of_le (by omega), mv, Int.add_zero]; exact (Ev.pure _).step (fun k => by rw [kids_Moves.l0, if_neg (by omega)])
  | succ d ih =>
    intro i x h0 hd x0 x1
    have hi : i < (l.length : Int) := by omega
    rw [drp46 l i h0 hi, mv]
    by_cases c : (rd_T46 l i).f1 ≥ 0
    (rw [if_pos c, ← Int.add_assoc]; exact (ih (i + 1) (x + 1) (by omega) (by omega) (by omega) (by omega)).step (fun k => by rw [kids_Moves.l0, if_pos hi, if_pos h0, if_pos hi, if_pos c, w1 (by omega) (by omega), w1 (by omega) (by omega)])); (rw [if_neg c, Int.zero_add]; exact (ih (i + 1) x (by omega) (by omega) (by omega) (by omega)).step (fun k => by rw [kids_Moves.l0, if_pos hi, if_pos h0, if_pos hi, if_neg c, w1 (by omega) (by omega)]))
theorem moves_ev (a b : List Int) (l : List S46) (hl : (l.length : Int) ≤ 1000000) : Ev (fun k => kids_Moves.f k a b l) (mv l l) := by
  have := moves_l0 l hl l.length 0 0 (by omega) (by omega) (by omega) (by omega); rw [Int.zero_add] at this; exact this
/-- How many numbers below one are so. -/
def cn (p : Nat → Bool) : Nat → Nat
  | 0 => 0
  | i + 1 => cn p i + if p i = true then 1 else 0
theorem cn_le (p : Nat → Bool) : ∀ n, cn p n ≤ n
  | 0 => Nat.le_refl _
  | n + 1 => by
    have := cn_le p n
    rw [cn]
    split <;> omega
theorem cn_all (p : Nat → Bool) : ∀ n, (∀ j, j < n → p j = true) → cn p n = n
  | 0, _ => rfl
  | n + 1, h => by rw [cn, cn_all p n (fun j hj => h j (by omega)), if_pos (h n (by omega))]
/-- Those behind a place. -/
def idx (p : Nat → Bool) (lo d : Nat) : List Nat := (List.range d).filter (fun x => p (lo + x))
theorem cn_add (p : Nat → Bool) (lo : Nat) : ∀ d, cn p (lo + d) = cn p lo + (idx p lo d).length
  | 0 => by simp [idx]
  | d + 1 => by
    rw [← Nat.add_assoc, cn, cn_add p lo d]
    unfold idx
    rw [List.range_succ, List.filter_append, List.length_append, List.filter_cons]
    split <;> simp <;> omega
theorem idx_le (p : Nat → Bool) (lo d : Nat) : (idx p lo d).length ≤ d := by
  unfold idx; have := List.length_filter_le (fun x => p (lo + x)) (List.range d); rw [List.length_range] at this; exact this
theorem idx_all (p : Nat → Bool) (lo d : Nat) (h : ∀ x, x < d → p (lo + x) = true) : (idx p lo d).length = d := by
  unfold idx; rw [List.filter_eq_self.2 (fun x hx => h x (List.mem_range.1 hx)), List.length_range]
theorem idx_sorted (p : Nat → Bool) (lo d : Nat) : (idx p lo d).Pairwise (· < ·) := by
  unfold idx; exact List.Pairwise.filter _ List.pairwise_lt_range
theorem sortedN_uniq : ∀ (X Y : List Nat), X.Pairwise (· < ·) → Y.Pairwise (· < ·) → (∀ x, x ∈ X ↔ x ∈ Y) → X = Y
  | [], [], _, _, _ => rfl
  | [], y :: Y, _, _, h => by have := (h y).2 (by simp); cases this
  | x :: X, [], _, _, h => by have := (h x).1 (by simp); cases this
  | x :: X, y :: Y, hx, hy, h => by
    rw [List.pairwise_cons] at hx hy
    have e : x = y := by
      rcases List.mem_cons.1 ((h x).1 (by simp)) with h1 | h1
      · exact h1
      · rcases List.mem_cons.1 ((h y).2 (by simp)) with h2 | h2
        · exact h2.symm
        · have a := hy.1 x h1
          have b := hx.1 y h2
          omega
    subst e
    rw [sortedN_uniq X Y hx.2 hy.2 (fun z => ?_)]
    constructor
    · intro hz
      rcases List.mem_cons.1 ((h z).1 (by simp [hz])) with rfl | h1
      · have := hx.1 z hz; omega
      · exact h1
    · intro hz
      rcases List.mem_cons.1 ((h z).2 (by simp [hz])) with rfl | h1
      · have := hy.1 z hz; omega
      · exact h1
/-- Labels that are kept in their order are no more than the longest choice. -/
theorem choice_idx (a b : List S50) (f g : Nat) (hfg : f + g ≤ b.length) (U : Nat → Bool) (h0 : ∀ j, j < b.length → U j = true → 0 ≤ kp a b j) (hm : ∀ j1 j2, j1 < j2 → j2 < b.length → U j1 = true → U j2 = true → kp a b j1 < kp a b j2) : (idx U f (b.length - g - f)).length ≤ (longestOf (midL a b f g)).length := by
  rw [longest_len]; have hml := mid_len a b f g
  have hc : Choice (midL a b f g) ((idx U f (b.length - g - f)).map (fun x : Nat => (x : Int))) := by
    intro j j0 j1; obtain ⟨t, rfl⟩ := Int.eq_ofNat_of_zero_le j0; rw [List.length_map] at j1
    have get : ∀ q : Nat, q < (idx U f (b.length - g - f)).length → ∃ x : Nat, rd ((idx U f (b.length - g - f)).map (fun x : Nat => (x : Int))) (q : Int) = (x : Int) ∧ (idx U f (b.length - g - f))[q]? = some x ∧ x < b.length - g - f ∧ U (f + x) = true := fun q hq => by
      have hmem := List.getElem_mem hq; obtain ⟨h1, h2⟩ := List.mem_filter.1 (show (idx U f (b.length - g - f))[q] ∈ (List.range (b.length - g - f)).filter (fun x => U (f + x)) from hmem); refine ⟨(idx U f (b.length - g - f))[q], ?_, List.getElem?_eq_getElem hq, List.mem_range.1 h1, h2⟩; unfold rd; rw [List.getD_eq_getElem?_getD, Int.toNat_natCast, List.getElem?_map, List.getElem?_eq_getElem hq]; rfl
    obtain ⟨x, x1, x2, x3, x4⟩ := get t (by omega); refine ⟨by rw [x1]; omega, by rw [x1]; omega, ?_, fun hp => ?_⟩; (rw [x1, rd_mid a b f g x (by omega)]; exact h0 _ (by omega) x4); (obtain ⟨s, rfl⟩ : ∃ s, t = s + 1 := ⟨t - 1, by omega⟩; obtain ⟨y, y1, y2, y3, y4⟩ := get s (by omega); rw [show (((s + 1 : Nat) : Int) - 1) = (s : Int) by omega, x1, y1, rd_mid a b f g x (by omega), rd_mid a b f g y (by omega)]; have hs := idx_sorted U f (b.length - g - f); rw [List.pairwise_iff_getElem] at hs; obtain ⟨q1, q2⟩ := List.getElem?_eq_some_iff.1 x2; obtain ⟨q3, q4⟩ := List.getElem?_eq_some_iff.1 y2; have := hs s (s + 1) q3 q1 (by omega); rw [q2, q4] at this; exact ⟨by omega, hm (f + y) (f + x) (by omega) (by omega) y4 x4⟩)
  have := choice_le hc; rw [List.length_map] at this; exact this
/-- The middle ones that stay are the longest choice. -/
theorem stay_idx (a b : List S50) (f g : Nat) (hfg : f + g ≤ b.length) : (idx (ST a b f g) f (b.length - g - f)).length = (longestOf (midL a b f g)).length := by
  have hml := mid_len a b f g; have hch := longest_choice (midL a b f g)
  have get : ∀ t : Nat, ∀ ht : t < (longestOf (midL a b f g)).length, rd (longestOf (midL a b f g)) (t : Int) = (longestOf (midL a b f g))[t] := fun t ht => by
    unfold rd; rw [List.getD_eq_getElem?_getD, Int.toNat_natCast, List.getElem?_eq_getElem ht]; rfl
  have e : idx (ST a b f g) f (b.length - g - f) = (longestOf (midL a b f g)).map Int.toNat := by
    refine sortedN_uniq _ _ (idx_sorted _ _ _) ?_ (fun x => ?_); (rw [List.pairwise_map, List.pairwise_iff_getElem]; intro i j h1 h2 h3; have := (hch.mono i (j - i - 1) (by omega)).1; rw [show i + (j - i - 1) + 1 = j by omega, get i h1, get j h2] at this; obtain ⟨s1, _⟩ := hch (i : Int) (by omega) (by omega); rw [get i h1] at s1; omega)
    · unfold idx
      rw [List.mem_filter, List.mem_range, List.mem_map]
      constructor
      · rintro ⟨h1, h2⟩
        unfold ST at h2
        rw [decide_eq_false (show ¬ f + x < f by omega), decide_eq_false (show ¬ b.length - g ≤ f + x by omega)] at h2
        simp only [Bool.or_self, Bool.false_or] at h2
        obtain ⟨y, hy, hye⟩ := List.any_eq_true.1 h2
        have hye := beq_iff_eq.1 hye
        exact ⟨y, hy, by omega⟩
      · rintro ⟨y, hy, rfl⟩
        obtain ⟨t, ht, hte⟩ := List.getElem_of_mem hy
        obtain ⟨s1, s2, _⟩ := hch (t : Int) (by omega) (by omega)
        rw [get t ht, hte] at s1 s2
        refine ⟨by omega, ?_⟩
        unfold ST
        rw [Bool.or_eq_true]
        exact .inr (List.any_eq_true.2 ⟨y, hy, by rw [beq_iff_eq]; omega⟩)
  rw [e, List.length_map]
/-- No order keeps more. -/
theorem most (a b : List S50) (f g : Nat) (hfg : f + g ≤ b.length) (U : Nat → Bool) (h0 : ∀ j, j < b.length → U j = true → 0 ≤ kp a b j) (hm : ∀ j1 j2, j1 < j2 → j2 < b.length → U j1 = true → U j2 = true → kp a b j1 < kp a b j2) : cn U b.length ≤ cn (ST a b f g) b.length := by
  have e : b.length = f + (b.length - g - f) + g := by omega
  have e2 : f + (b.length - g - f) = b.length - g := by omega
  have hU1 := cn_add U f (b.length - g - f); have hS1 := cn_add (ST a b f g) f (b.length - g - f); have hU2 := cn_add U (b.length - g) g; have hS2 := cn_add (ST a b f g) (b.length - g) g; rw [e2] at hU1 hS1; rw [show b.length - g + g = b.length by omega] at hU2 hS2; have h1 := cn_le U f; have h2 := idx_le U (b.length - g) g; have h3 := cn_all (ST a b f g) f (fun j hj => by unfold ST; simp [hj]); have h4 := idx_all (ST a b f g) (b.length - g) g (fun x hx => by unfold ST; simp); have h5 := choice_idx a b f g hfg U h0 hm; have h6 := stay_idx a b f g hfg; omega
theorem mv_stp (a b : List S50) (S : Nat → Bool) (L : List S46) : ∀ i, mv L (stp a b S i) = (cn (fun j => !S j && decide (0 ≤ kp a b j)) i : Int)
  | 0 => by simp [stp, mv, cn]
  | i + 1 => by
    have ih := mv_stp a b S L i
    rw [stp, cn]
    by_cases c : S i = true
    · rw [if_pos c, List.nil_append, ih, c]; simp
    · have c2 : S i = false := by simpa using c
      rw [if_neg c, List.cons_append, List.nil_append, mv, ih, c2]
      by_cases d : kp a b i ≥ 0
      · have d2 : (0 : Int) ≤ kp a b i := d
        simp [d2]; omega
      · have d2 : ¬ (0 : Int) ≤ kp a b i := d
        simp [d2]
/-- A place lies on a pile. -/
def On (l : List Int) (k : Nat) (x : Int) : Prop := x ∈ (pilesOf l).getD k []
theorem On.nn {l : List Int} {k : Nat} {x : Int} (h : On l k x) : 0 ≤ x ∧ x < l.length ∧ 0 ≤ rd l x := by
  have := (pat l).range h; exact ⟨this.1, by omega, (pat l).pos _ _ h⟩
theorem On.ex {l : List Int} {x : Int} (h0 : 0 ≤ x) (h1 : x < l.length) (h2 : 0 ≤ rd l x) : ∃ k, On l k x := (pat l).all x h0 h1 h2
theorem On.uniq {l : List Int} {j k : Nat} {x : Int} (h : On l j x) (h' : On l k x) : j = k := (pat l).one _ _ _ h h'
theorem On.cross {l : List Int} {j k : Nat} {x y : Int} (h : On l j x) (h' : On l k y) (h1 : x < y) (h2 : rd l x < rd l y) : j < k := (pat l).cross _ _ _ _ h h' h1 h2
theorem On.back {l : List Int} {k : Nat} {y : Int} (h : On l (k + 1) y) : ∃ x, On l k x ∧ x < y ∧ rd l x < rd l y := by
  obtain ⟨a, b, c, _⟩ := (pat l).back k y h; exact ⟨_, a, b, c⟩
theorem On.le {l : List Int} : ∀ (k : Nat) (x : Int), On l k x → (k : Int) ≤ x
  | 0, x, h => h.nn.1
  | k + 1, x, h => by
    obtain ⟨y, h1, h2, _⟩ := h.back
    have := On.le k y h1
    omega
theorem On.lt {l : List Int} {k : Nat} {x : Int} (h : On l k x) : k < (pilesOf l).length := mem_lt h
theorem pile_ex {l : List Int} {k : Nat} (h : k < (pilesOf l).length) : ∃ x, On l k x := by
  have := (pat l).nonempty h; exact ⟨_, List.getElem_mem this⟩
/-- The longest choice, pile by pile. -/
theorem chain_max (l : List Int) (q : Nat) (h : q < (pilesOf l).length) : On l q (rd (longestOf l) q) ∧ (q + 1 < (pilesOf l).length → rd (longestOf l) q < rd (longestOf l) ((q + 1 : Nat) : Int)) ∧ ∀ y, On l q y → (q + 1 < (pilesOf l).length → y < rd (longestOf l) ((q + 1 : Nat) : Int)) → y ≤ rd (longestOf l) q := by
  obtain ⟨a1, a2, a3⟩ := longest_at l q h
  by_cases c : q + 1 < (pilesOf l).length
  (have e := a3 c; obtain ⟨b1, _, _⟩ := longest_at l (q + 1) c; rw [show (q : Int) + 1 = ((q + 1 : Nat) : Int) by omega] at e; obtain ⟨c1, c2, c3, c4⟩ := (pat l).back q _ b1; exact ⟨a1, fun _ => by rw [e]; exact c2, fun y hy hl => by rw [e]; exact c4 y hy (hl c)⟩); (have e := a2 (by omega); exact ⟨a1, fun h => absurd h c, fun y hy _ => by rw [e]; exact ((pat l).top hy).1⟩)
/-- A list whose ends stand as_ they do. -/
structure Mid (K M : List Int) (f g top : Nat) : Prop where
  len : K.length = f + M.length + g
  front : ∀ j : Nat, j < f → rd K (j : Int) = (j : Int)
  mid : ∀ x : Nat, x < M.length → rd K ((f + x : Nat) : Int) = rd M (x : Int)
  lo : ∀ x : Nat, x < M.length → 0 ≤ rd M (x : Int) → (f : Int) ≤ rd M (x : Int) ∧ rd M (x : Int) < top
  back : ∀ j : Nat, j < g → rd K ((f + M.length + j : Nat) : Int) = (top : Int) + j
  ft : f ≤ top
theorem Mid.onFront {K M : List Int} {f g top : Nat} (H : Mid K M f g top) : ∀ j : Nat, j < f → On K j (j : Int)
  | 0, hj => by
    have hl := H.len
    obtain ⟨k, hk⟩ := On.ex (l := K) (x := ((0 : Nat) : Int)) (by omega) (by omega) (by rw [H.front 0 hj]; omega)
    have := On.le k _ hk
    obtain rfl : k = 0 := by omega
    exact hk
  | j + 1, hj => by
    have hl := H.len
    have ih := Mid.onFront H j (by omega)
    obtain ⟨k, hk⟩ := On.ex (l := K) (x := ((j + 1 : Nat) : Int)) (by omega) (by omega) (by rw [H.front _ hj]; omega)
    have h1 := On.le k _ hk
    have h2 := ih.cross hk (by omega) (by rw [H.front _ (by omega), H.front _ hj]; omega)
    obtain rfl : k = j + 1 := by omega
    exact hk
theorem Mid.onMid {K M : List Int} {f g top : Nat} (H : Mid K M f g top) (d : Nat) : ∀ (x q : Nat), x = d → On M q (x : Int) → On K (f + q) ((f + x : Nat) : Int) := by
  induction d using Nat.strongRecOn with
  | _ d ih =>
    intro x q hx hq; have hl := H.len; obtain ⟨n1, n2, n3⟩ := hq.nn
    have hxl : x < M.length := by omega
    obtain ⟨l1, l2⟩ := H.lo x hxl n3; obtain ⟨r, hr⟩ := On.ex (l := K) (x := ((f + x : Nat) : Int)) (by omega) (by omega) (by rw [H.mid x hxl]; omega)
    have ge : f + q ≤ r := by
      cases q with
      | zero =>
        rcases Nat.eq_zero_or_pos f with h0 | h0
        (omega); (have := (H.onFront (f - 1) (by omega)).cross hr (by omega) (by rw [H.front _ (by omega), H.mid x hxl]; omega); omega)
      | succ q =>
        obtain ⟨y, y1, y2, y3⟩ := hq.back; obtain ⟨yn, hyn⟩ := Int.eq_ofNat_of_zero_le y1.nn.1; subst hyn; have h1 := ih yn (by omega) yn q rfl y1; have := h1.cross hr (by omega) (by rw [H.mid x hxl, H.mid yn (by omega)]; exact y3); omega
    have le : r ≤ f + q := by
      apply Nat.le_of_not_lt; intro hlt; obtain ⟨r', rfl⟩ : ∃ r', r = r' + 1 := ⟨r - 1, by omega⟩; obtain ⟨y, y1, y2, y3⟩ := hr.back; obtain ⟨yn, hyn⟩ := Int.eq_ofNat_of_zero_le y1.nn.1; subst hyn
      by_cases c : yn < f
      · have := (H.onFront yn c).uniq y1
        omega
      · obtain ⟨z, hz⟩ : ∃ z, yn = f + z := ⟨yn - f, by omega⟩
        subst hz
        have hzl : z < M.length := by omega
        rw [H.mid x hxl, H.mid z hzl] at y3
        have hz0 : 0 ≤ rd M (z : Int) := by have := y1.nn.2.2; rwa [H.mid z hzl] at this
        obtain ⟨qz, hqz⟩ := On.ex (l := M) (x := (z : Int)) (by omega) (by omega) hz0
        have h1 := ih z (by omega) z qz rfl hqz
        have h2 := h1.uniq y1
        have h3 := hqz.cross hq (by omega) y3
        omega
    obtain rfl : r = f + q := by omega
    exact hr
theorem Mid.onBack {K M : List Int} {f g top : Nat} (H : Mid K M f g top) (d : Nat) : ∀ j : Nat, j = d → j < g → On K (f + (pilesOf M).length + j) ((f + M.length + j : Nat) : Int) := by
  induction d using Nat.strongRecOn with
  | _ d ih =>
    intro j hj hg; have hl := H.len; have hft := H.ft; obtain ⟨r, hr⟩ := On.ex (l := K) (x := ((f + M.length + j : Nat) : Int)) (by omega) (by omega) (by rw [H.back j hg]; omega)
    have ge : f + (pilesOf M).length + j ≤ r := by
      cases j with
      | zero =>
        rcases Nat.eq_zero_or_pos (pilesOf M).length with h0 | h0
        · rcases Nat.eq_zero_or_pos f with h1 | h1
          · omega
          · have := (H.onFront (f - 1) (by omega)).cross hr (by omega) (by rw [H.front _ (by omega), H.back 0 hg]; omega)
            omega
        · obtain ⟨x, hx⟩ := pile_ex (l := M) (k := (pilesOf M).length - 1) (by omega)
          obtain ⟨xn, hxn⟩ := Int.eq_ofNat_of_zero_le hx.nn.1; subst hxn; obtain ⟨_, n2, n3⟩ := hx.nn; have h1 := H.onMid xn xn _ rfl hx; have := h1.cross hr (by omega) (by rw [H.mid xn (by omega), H.back 0 hg]; have := (H.lo xn (by omega) n3).2; omega); omega
      | succ j =>
        have h1 := ih j (by omega) j rfl (by omega); have := h1.cross hr (by omega) (by rw [H.back j (by omega), H.back (j + 1) hg]; omega); omega
    have le : r ≤ f + (pilesOf M).length + j := by
      apply Nat.le_of_not_lt; intro hlt; obtain ⟨r', rfl⟩ : ∃ r', r = r' + 1 := ⟨r - 1, by omega⟩; obtain ⟨y, y1, y2, y3⟩ := hr.back; obtain ⟨yn, hyn⟩ := Int.eq_ofNat_of_zero_le y1.nn.1; subst hyn
      by_cases c : yn < f
      · have := (H.onFront yn c).uniq y1
        omega
      · by_cases c2 : yn < f + M.length
        · obtain ⟨z, hz⟩ : ∃ z, yn = f + z := ⟨yn - f, by omega⟩
          subst hz
          have hzl : z < M.length := by omega
          have hz0 : 0 ≤ rd M (z : Int) := by have := y1.nn.2.2; rwa [H.mid z hzl] at this
          obtain ⟨qz, hqz⟩ := On.ex (l := M) (x := (z : Int)) (by omega) (by omega) hz0
          have h2 := (H.onMid z z qz rfl hqz).uniq y1
          have h3 := hqz.lt
          omega
        · obtain ⟨z, hz⟩ : ∃ z, yn = f + M.length + z := ⟨yn - f - M.length, by omega⟩
          subst hz
          have := (ih z (by omega) z rfl (by omega)).uniq y1
          omega
    obtain rfl : r = f + (pilesOf M).length + j := by omega
    exact hr
/-- What lies on a pile. -/
theorem Mid.cases {K M : List Int} {f g top : Nat} (H : Mid K M f g top) {k : Nat} {y : Int} (h : On K k y) : (k < f ∧ y = k) ∨ (∃ q x : Nat, k = f + q ∧ y = ((f + x : Nat) : Int) ∧ On M q (x : Int)) ∨ (∃ j : Nat, j < g ∧ k = f + (pilesOf M).length + j ∧ y = ((f + M.length + j : Nat) : Int)) := by
  obtain ⟨n1, n2, n3⟩ := h.nn; have hl := H.len; obtain ⟨yn, hyn⟩ := Int.eq_ofNat_of_zero_le n1; subst hyn
  by_cases c : yn < f
  · have := (H.onFront yn c).uniq h
    exact .inl ⟨by omega, by omega⟩
  · by_cases c2 : yn < f + M.length
    · obtain ⟨z, hz⟩ : ∃ z, yn = f + z := ⟨yn - f, by omega⟩
      subst hz
      have hzl : z < M.length := by omega
      rw [H.mid z hzl] at n3
      obtain ⟨qz, hqz⟩ := On.ex (l := M) (x := (z : Int)) (by omega) (by omega) n3
      have h2 := (H.onMid z z qz rfl hqz).uniq h
      exact .inr (.inl ⟨qz, z, h2.symm, rfl, hqz⟩)
    · obtain ⟨z, hz⟩ : ∃ z, yn = f + M.length + z := ⟨yn - f - M.length, by omega⟩
      subst hz
      have := (H.onBack z z rfl (by omega)).uniq h
      exact .inr (.inr ⟨z, by omega, this.symm, rfl⟩)
theorem Mid.count {K M : List Int} {f g top : Nat} (H : Mid K M f g top) : (pilesOf K).length = f + (pilesOf M).length + g := by
  have up : (pilesOf K).length ≤ f + (pilesOf M).length + g := by
    apply Nat.le_of_not_lt; intro hlt; obtain ⟨x, hx⟩ := pile_ex (l := K) (k := f + (pilesOf M).length + g) hlt
    rcases H.cases hx with ⟨h, _⟩ | ⟨q, x, h, _, h2⟩ | ⟨j, h, h1, _⟩
    (omega); (have := h2.lt; omega); (omega)
  have lo : f + (pilesOf M).length + g ≤ (pilesOf K).length := by
    rcases Nat.eq_zero_or_pos g with h0 | h0
    · rcases Nat.eq_zero_or_pos (pilesOf M).length with h1 | h1
      · rcases Nat.eq_zero_or_pos f with h2 | h2
        · omega
        · have := (H.onFront (f - 1) (by omega)).lt; omega
      · obtain ⟨x, hx⟩ := pile_ex (l := M) (k := (pilesOf M).length - 1) (by omega)
        obtain ⟨xn, hxn⟩ := Int.eq_ofNat_of_zero_le hx.nn.1
        subst hxn
        have := (H.onMid xn xn _ rfl hx).lt
        omega
    · have := (H.onBack (g - 1) (g - 1) rfl (by omega)).lt
      omega
  omega
/-- The longest choice, end by end. -/
theorem Mid.chain {K M : List Int} {f g top : Nat} (H : Mid K M f g top) (d : Nat) : ∀ q : Nat, q + d + 1 = (pilesOf K).length → rd (longestOf K) (q : Int) = if q < f then (q : Int) else if q < f + (pilesOf M).length then (f : Int) + rd (longestOf M) ((q - f : Nat) : Int) else ((M.length + q - (pilesOf M).length : Nat) : Int) := by
  have hc := H.count
  induction d with
  | zero =>
    intro q hq; obtain ⟨a1, a2, a3⟩ := chain_max K q (by omega)
    rcases H.cases a1 with ⟨h, h1⟩ | ⟨r, x, h, h1, h2⟩ | ⟨j, h, h1, h2⟩
    (rw [if_pos h, h1]); (have hr := h2.lt; rw [if_neg (by omega), if_pos (by omega), h1]; obtain ⟨b1, b2, b3⟩ := chain_max M r hr; obtain ⟨w, hw⟩ := Int.eq_ofNat_of_zero_le b1.nn.1; have h4 := b3 (x : Int) h2 (fun hh => by omega); rw [hw] at b1 h4; have h5 := a3 ((f + w : Nat) : Int) (by rw [h]; exact H.onMid w w r rfl b1) (fun hh => by omega); rw [show q - f = r by omega, hw]; omega); (rw [if_neg (by omega), if_neg (by omega), h2]; omega)
  | succ d ih =>
    intro q hq; have hn := ih (q + 1) (by omega); obtain ⟨a1, a2, a3⟩ := chain_max K q (by omega)
    rcases H.cases a1 with ⟨h, h1⟩ | ⟨r, x, h, h1, h2⟩ | ⟨j, h, h1, h2⟩
    · rw [if_pos h, h1]
    · have hr := h2.lt
      rw [if_neg (by omega), if_pos (by omega), h1]
      obtain ⟨b1, b2, b3⟩ := chain_max M r hr
      obtain ⟨w, hw⟩ := Int.eq_ofNat_of_zero_le b1.nn.1
      have hwl := b1.nn.2.1
      have hxl := h2.nn.2.1
      have key : (q + 1 < (pilesOf K).length → ((f + w : Nat) : Int) < rd (longestOf K) ((q + 1 : Nat) : Int)) ∧ (r + 1 < (pilesOf M).length → (x : Int) < rd (longestOf M) ((r + 1 : Nat) : Int)) := by
        by_cases c : r + 1 < (pilesOf M).length
        (rw [if_neg (by omega), if_pos (by omega), show q + 1 - f = r + 1 by omega] at hn; have e1 := b2 c; have e2 := a2 (by omega); rw [hn, h1] at e2; rw [hw] at e1; exact ⟨fun _ => by rw [hn]; omega, fun _ => by omega⟩); (rw [if_neg (by omega), if_neg (by omega)] at hn; exact ⟨fun _ => by rw [hn]; omega, fun hh => absurd hh c⟩)
      have h4 := b3 (x : Int) h2 key.2
      rw [hw] at b1 h4
      have h5 := a3 ((f + w : Nat) : Int) (by rw [h]; exact H.onMid w w r rfl b1) key.1
      rw [show q - f = r by omega, hw]
      omega
    · rw [if_neg (by omega), if_neg (by omega), h2]
      omega
end Go.Proofs.Ytpekchebllobmaa.Pure
