/- What the claim LawKidsPlan rests on, part 1 of 6: the kit's words, the printed walks, the walks by hand, the plain laws. -/
import Derived.Test.YtpekchebllobmaaB0
import Derived.WalkMore
import Derived.Laws.EntriesVeiled
import Derived.Laws.Bits64b
import Derived.BigQuiet
namespace Go.Proofs.Ytpekchebllobmaa.G
open Go.RowKit Go.Proofs.YtpekchebllobmaaW.PrintWords Go.Proofs.YtpekchebllobmaaW.PrintLast Go.Proofs.YtpekchebllobmaaW.PrintMore
attribute [local go_sem] max2_int min2_int max_two min_two max_three min_three max_four min_four
set_option linter.unusedVariables false
set_option linter.unusedSimpArgs false
mutual
def r06_Ends.l0 : Nat → List Int → List Int → Int → Int → Option (List Int)
 | 0, _, _, _, _ => none
 | k + 1, x0, x3, x8, x9 => if x9 < x8 then (if 0 ≤ x9 then (if x9 < (x0.length : Int) then (if (rd x0 x9) ≥ 0 then (r06_Ends.j1 k x0 x3 x9 1 x8 x9) else (r06_Ends.j1 k x0 x3 x9 0 x8 x9)) else (none)) else (none)) else (some x3)
def r06_Ends.j1 : Nat → List Int → List Int → Int → Int → Int → Int → Option (List Int)
 | 0, _, _, _, _, _, _ => none
 | k + 1, x0, x3, x4, x5, x8, x9 => r06_Ends.l1 k x0 x3 x4 x5 x8 x9 x4 0
def r06_Ends.l1 : Nat → List Int → List Int → Int → Int → Int → Int → Int → Int → Option (List Int)
 | 0, _, _, _, _, _, _, _, _ => none
 | k + 1, x0, x3, x4, x5, x8, x9, x17, x18 => if x18 < x17 then (if 0 ≤ x4 then (if x4 < (x0.length : Int) then (if (rd x0 x4) ≥ 0 then (if 0 ≤ x18 then (if x18 < (x0.length : Int) then (if (rd x0 x18) ≥ 0 then (if (rd x0 x18) < (rd x0 x4) then (if x18 < (x3.length : Int) then (if (wrap64 ((rd x3 x18) + 1)) > x5 then (r06_Ends.l1 k x0 x3 x4 (wrap64 ((rd x3 x18) + 1)) x8 x9 x17 (wrap64 (x18 + 1))) else (r06_Ends.l1 k x0 x3 x4 x5 x8 x9 x17 (wrap64 (x18 + 1)))) else (none)) else (r06_Ends.l1 k x0 x3 x4 x5 x8 x9 x17 (wrap64 (x18 + 1)))) else (r06_Ends.l1 k x0 x3 x4 x5 x8 x9 x17 (wrap64 (x18 + 1)))) else (none)) else (none)) else (r06_Ends.l1 k x0 x3 x4 x5 x8 x9 x17 (wrap64 (x18 + 1)))) else (none)) else (none)) else (if x3.length < 17592186044416 then (r06_Ends.l0 k x0 (x3 ++ [x5]) x8 (wrap64 (x9 + 1))) else (none))
end
def r06_Ends.f (k : Nat) (l0 : List Int) : Option (List Int) := r06_Ends.l0 k l0 ([] : List Int) (l0.length : Int) 0
set_option maxHeartbeats 8000000 in
set_option maxRecDepth 100000 in
theorem r06_Ends.calls (k : Nat) (A0 : Option Addr) (c0 : Nat) (l0 : List Int) (r : List Int) (w : World) (hr0 : Kd.C (Kd.int .i64) w A0 l0.length l0) (hc0 : l0.length ≤ c0) (h : r06_Ends.f k l0 = some r) :
  Calls Try.prog 39 #[.slice A0 l0.length c0] w fun e w' => ∃ v0_ : Value, e = .returned (v0_) ∧ Kd.R (Kd.int .i64) 3 w' w.heap.size (fun _ => True) v0_ r ∧ Below w.heap.size w w' := by
 have HR0 := zk hr0
 have HC0 := zk hc0
 clear hr0 hc0
 have HB := zk (Below.refl w.heap.size w)
 have H : (r06_Ends.l0 k l0 ([] : List Int) (l0.length : Int) 0) = some r := h
 clear h
 have H' := zk H
 clear H
 go_enter Try.func39, Try.ntmps39
 go_wp2
 repeat (go_quiet (fail); try go_wp2)
 go_loopg [3, 9] k (fun kq v3 v9 w' => ∃ (x3_1 : List Int) (x9_1 : Int), v9 = .int .i64 x9_1 ∧ Aside0 (r06_Ends.l0 kq l0 x3_1 (l0.length : Int) x9_1 = some r) ∧ Aside0 (kq ≤ k) ∧ Aside0 (Kd.R (Kd.int .i64) 3 w' w.heap.size (fun _ => True) v3 x3_1) ∧ Aside0 (Below w.heap.size w w'))
 case atStart => exact ⟨(([] : List Int)), (0), (by first | rfl | (simp; done) | (simp [*]; done)), H', ⟨Nat.le_refl _⟩, ⟨by first | exact Kd.R_nil _ _ _ _ _ | exact Kd.N_nil _ _ _ _ _ | exact Kd.V_nil _ _ _ _ _ | exact Kd.Q_nil _ _ _ _ _ | exact Kd.S_nil _ _ _ _ _⟩, ⟨by with_reducible repeat first | exact HB.out | apply zA | apply zN | apply zD⟩⟩
 case round =>
  clear H'; obtain ⟨x3_1, x9_1, rfl, HA, HK1, HO_3, HB⟩ := hrel
  cases gk with
  | zero => exact absurd HA.out (by simp [r06_Ends.l0])
  | succ k1 =>
   have H := HA.out; clear HA; simp only [r06_Ends.l0] at H
   by_cases c2 : x9_1 < (l0.length : Int)
   ·
    rw [if_pos c2] at H; have c2b0 := decide_eq_true c2; clear c2
    by_cases c3 : 0 ≤ x9_1
    ·
     rw [if_pos c3] at H; have c3b0 := decide_eq_true c3; clear c3
     by_cases c4 : x9_1 < (l0.length : Int)
     ·
      rw [if_pos c4] at H; have c4b0 := decide_eq_true c4; clear c4; have HC5 := zk H; clear H; have p224 : 0 ≤ (x9_1 : Int) := zo (by assumption); have q224 : x9_1 < (l0.length : Int) := zo (by assumption); obtain ⟨ad224, e224, hx224_0⟩ := Kd.at_int HR0.out x9_1 p224 q224; cases e224; replace hx224_0 := zB HB hx224_0; replace p224 := eq_true p224; replace q224 := eq_true q224
      go_upto_if 16 with (fail)
      repeat (go_quiet (fail); go_upto_if 16 with (fail))
      go_cut [5] (fun v5 wc => ∃ (kq : Nat) (x5_4 : Int), v5 = .int .i64 x5_4 ∧ Aside0 (r06_Ends.j1 kq l0 x3_1 x9_1 x5_4 (l0.length : Int) x9_1 = some r) ∧ Aside0 (kq ≤ k1) ∧ Aside0 (Kd.R (Kd.int .i64) 3 wc w.heap.size (fun _ => True) u3 x3_1) ∧ Aside0 (Below w.heap.size w wc))
      case first =>
       have H := HC5.out; clear HC5
       by_cases c6 : (rd l0 x9_1) ≥ 0
       ·
        rw [if_pos c6] at H; have c6b0 : decide (0 ≤ (rd l0 x9_1)) = true := decide_eq_true c6; clear c6
        (first | rw [c6b0] | (simp only [i64_w, i32_w]; rw [c6b0]) | skip)
        have H' := zk H; clear H; go_wp2
        repeat (go_quiet (fail); try go_wp2)
        go_meet
        case rel => exact ⟨_, (1), (by first | rfl | (simp; done) | (simp [*]; done)), H', ⟨by have := HK1.out; first | omega | exact Nat.le_refl _⟩, ⟨by (with_reducible repeat (first | apply Kd.R_alloc | apply Kd.R_drewN | apply Kd.R_drew)); exact HO_3.out⟩, ⟨by with_reducible repeat first | exact HB.out | apply zA | apply zN | apply zD⟩⟩
       ·
        rw [if_neg c6] at H; have c6b0 : decide (0 ≤ (rd l0 x9_1)) = false := decide_eq_false c6; clear c6
        (first | rw [c6b0] | (simp only [i64_w, i32_w]; rw [c6b0]) | skip)
        have H' := zk H; clear H; go_wp2
        repeat (go_quiet (fail); try go_wp2)
        go_meet
        case rel => exact ⟨_, (0), (by first | rfl | (simp; done) | (simp [*]; done)), H', ⟨by have := HK1.out; first | omega | exact Nat.le_refl _⟩, ⟨by (with_reducible repeat (first | apply Kd.R_alloc | apply Kd.R_drewN | apply Kd.R_drew)); exact HO_3.out⟩, ⟨by with_reducible repeat first | exact HB.out | apply zA | apply zN | apply zD⟩⟩
      case rest =>
       clear HC5; (try clear c2); (try clear c2b0); (try clear p2); (try clear q2); (try clear hx2); (try clear c3); (try clear c3b0); (try clear c4); (try clear c4b0); (try clear c6); (try clear c6b0); (try clear hx224_0); (try clear p224); (try clear q224); obtain ⟨kq, x5_4, rfl, HA, HJ4, HO_3, HB⟩ := hcut
       cases kq with
       | zero => exact absurd HA.out (by simp [r06_Ends.j1])
       | succ kj4 =>
        have H := HA.out; clear HA; simp only [r06_Ends.j1] at H; have H' := zk H; clear H; go_wp2
        repeat (go_quiet (fail); try go_wp2)
        go_loopg [5, 18] kj4 (fun kq v5 v18 w' => ∃ (x5_3 : Int) (x18_3 : Int), v5 = .int .i64 x5_3 ∧ v18 = .int .i64 x18_3 ∧ Aside0 (r06_Ends.l1 kq l0 x3_1 x9_1 x5_3 (l0.length : Int) x9_1 x9_1 x18_3 = some r) ∧ Aside0 (kq ≤ kj4) ∧ Aside0 (Kd.R (Kd.int .i64) 3 w' w.heap.size (fun _ => True) u3 x3_1) ∧ Aside0 (Below w.heap.size w w'))
        case atStart => exact ⟨(x5_4), (0), (by first | rfl | (simp; done) | (simp [*]; done)), (by first | rfl | (simp; done) | (simp [*]; done)), H', ⟨Nat.le_refl _⟩, ⟨by (with_reducible repeat (first | apply Kd.R_alloc | apply Kd.R_drewN | apply Kd.R_drew)); exact HO_3.out⟩, ⟨by with_reducible repeat first | exact HB.out | apply zA | apply zN | apply zD⟩⟩
        case round =>
         clear H'; (try clear c2); (try clear c2b0); (try clear p2); (try clear q2); (try clear hx2); (try clear c3); (try clear c3b0); (try clear c4); (try clear c4b0); (try clear c6); (try clear c6b0); (try clear hx224_0); (try clear p2); (try clear p224); (try clear q2); (try clear q224); obtain ⟨x5_3, x18_3, rfl, rfl, HA, HK3, HO_3, HB⟩ := hrel
         cases gk with
         | zero => exact absurd HA.out (by simp [r06_Ends.l1])
         | succ k3 =>
          have H := HA.out; clear HA; simp only [r06_Ends.l1] at H
          by_cases c7 : x18_3 < x9_1
          ·
           rw [if_pos c7] at H; have c7b0 : decide (x18_3 < x9_1) = true := decide_eq_true c7; clear c7
           by_cases c8 : 0 ≤ x9_1
           ·
            rw [if_pos c8] at H; have c8b0 := decide_eq_true c8; clear c8
            by_cases c9 : x9_1 < (l0.length : Int)
            ·
             rw [if_pos c9] at H; have c9b0 := decide_eq_true c9; clear c9
             by_cases c10 : (rd l0 x9_1) ≥ 0
             ·
              rw [if_pos c10] at H; have c10b0 : decide (0 ≤ (rd l0 x9_1)) = true := decide_eq_true c10; clear c10
              by_cases c11 : 0 ≤ x18_3
              ·
               rw [if_pos c11] at H; have c11b0 := decide_eq_true c11; clear c11
               by_cases c12 : x18_3 < (l0.length : Int)
               ·
                rw [if_pos c12] at H; have c12b0 := decide_eq_true c12; clear c12
                by_cases c13 : (rd l0 x18_3) ≥ 0
                ·
                 rw [if_pos c13] at H; have c13b0 : decide (0 ≤ (rd l0 x18_3)) = true := decide_eq_true c13; clear c13
                 by_cases c14 : (rd l0 x18_3) < (rd l0 x9_1)
                 ·
                  rw [if_pos c14] at H; have c14b0 := decide_eq_true c14; clear c14
                  by_cases c15 : x18_3 < (x3_1.length : Int)
                  ·
                   rw [if_pos c15] at H; have c15b0 := decide_eq_true c15; clear c15
                   by_cases c16 : (wrap64 ((rd x3_1 x18_3) + 1)) > x5_3
                   ·
                    rw [if_pos c16] at H; have c16b0 : decide (x5_3 < (wrap64 ((rd x3_1 x18_3) + 1))) = true := decide_eq_true c16; clear c16; have H' := zk H; clear H; have p225 : 0 ≤ (x9_1 : Int) := zo (by assumption); have q225 : x9_1 < (l0.length : Int) := zo (by assumption); obtain ⟨ad225, e225, hx225_0⟩ := Kd.at_int HR0.out x9_1 p225 q225; obtain rfl : ad224 = ad225 := (by injection e225); replace hx225_0 := zB HB hx225_0; replace p225 := eq_true p225; replace q225 := eq_true q225; have p226 : 0 ≤ (x18_3 : Int) := zo (by assumption); have q226 : x18_3 < (l0.length : Int) := zo (by assumption); obtain ⟨ad226, e226, hx226_0⟩ := Kd.at_int HR0.out x18_3 p226 q226; obtain rfl : ad224 = ad226 := (by injection e226); replace hx226_0 := zB HB hx226_0; replace p226 := eq_true p226; replace q226 := eq_true q226; have p227 : 0 ≤ (x18_3 : Int) := zo (by assumption); have q227 : x18_3 < (l0.length : Int) := zo (by assumption); obtain ⟨ad227, e227, hx227_0⟩ := Kd.at_int HR0.out x18_3 p227 q227; obtain rfl : ad224 = ad227 := (by injection e227); replace hx227_0 := zB HB hx227_0; replace p227 := eq_true p227; replace q227 := eq_true q227; have p228 : 0 ≤ (x9_1 : Int) := zo (by assumption); have q228 : x9_1 < (l0.length : Int) := zo (by assumption); obtain ⟨ad228, e228, hx228_0⟩ := Kd.at_int HR0.out x9_1 p228 q228; obtain rfl : ad224 = ad228 := (by injection e228); replace hx228_0 := zB HB hx228_0; replace p228 := eq_true p228; replace q228 := eq_true q228; obtain ⟨Ao17, co17, eo17⟩ := Kd.R_slice HO_3.out; subst eo17; have p229 : 0 ≤ (x18_3 : Int) := zo (by assumption); have q229 : x18_3 < (x3_1.length : Int) := zo (by assumption); obtain ⟨ad229, e229, hx229_0⟩ := Kd.at_int (Kd.R_reads' HO_3.out).2.2 x18_3 p229 q229; cases e229; replace p229 := eq_true p229; replace q229 := eq_true q229; have p230 : 0 ≤ (x18_3 : Int) := zo (by assumption); have q230 : x18_3 < (x3_1.length : Int) := zo (by assumption); obtain ⟨ad230, e230, hx230_0⟩ := Kd.at_int (Kd.R_reads' HO_3.out).2.2 x18_3 p230 q230; obtain rfl : ad229 = ad230 := (by injection e230); replace p230 := eq_true p230; replace q230 := eq_true q230; go_wp2
                    repeat (go_quiet (fail); try go_wp2)
                    go_roundg k3
                    case measure => have := HK1.out; have := HJ4.out; have := HK3.out; omega
                    case rel => exact ⟨(wrap64 ((rd x3_1 x18_3) + 1)), (wrap64 (x18_3 + 1)), (by first | rfl | (simp; done) | (simp [*]; done)), (by first | rfl | (simp; done) | (simp [*]; done)), H', ⟨by have := HK1.out; have := HJ4.out; have := HK3.out; omega⟩, ⟨by (with_reducible repeat (first | apply Kd.R_alloc | apply Kd.R_drewN | apply Kd.R_drew)); exact HO_3.out⟩, ⟨by with_reducible repeat first | exact HB.out | apply zA | apply zN | apply zD⟩⟩
                   ·
                    rw [if_neg c16] at H; have c16b0 : decide (x5_3 < (wrap64 ((rd x3_1 x18_3) + 1))) = false := decide_eq_false c16; clear c16; have H' := zk H; clear H; have p225 : 0 ≤ (x9_1 : Int) := zo (by assumption); have q225 : x9_1 < (l0.length : Int) := zo (by assumption); obtain ⟨ad225, e225, hx225_0⟩ := Kd.at_int HR0.out x9_1 p225 q225; obtain rfl : ad224 = ad225 := (by injection e225); replace hx225_0 := zB HB hx225_0; replace p225 := eq_true p225; replace q225 := eq_true q225; have p226 : 0 ≤ (x18_3 : Int) := zo (by assumption); have q226 : x18_3 < (l0.length : Int) := zo (by assumption); obtain ⟨ad226, e226, hx226_0⟩ := Kd.at_int HR0.out x18_3 p226 q226; obtain rfl : ad224 = ad226 := (by injection e226); replace hx226_0 := zB HB hx226_0; replace p226 := eq_true p226; replace q226 := eq_true q226; have p227 : 0 ≤ (x18_3 : Int) := zo (by assumption); have q227 : x18_3 < (l0.length : Int) := zo (by assumption); obtain ⟨ad227, e227, hx227_0⟩ := Kd.at_int HR0.out x18_3 p227 q227; obtain rfl : ad224 = ad227 := (by injection e227); replace hx227_0 := zB HB hx227_0; replace p227 := eq_true p227; replace q227 := eq_true q227; have p228 : 0 ≤ (x9_1 : Int) := zo (by assumption); have q228 : x9_1 < (l0.length : Int) := zo (by assumption); obtain ⟨ad228, e228, hx228_0⟩ := Kd.at_int HR0.out x9_1 p228 q228; obtain rfl : ad224 = ad228 := (by injection e228); replace hx228_0 := zB HB hx228_0; replace p228 := eq_true p228; replace q228 := eq_true q228; obtain ⟨Ao18, co18, eo18⟩ := Kd.R_slice HO_3.out; subst eo18; have p229 : 0 ≤ (x18_3 : Int) := zo (by assumption); have q229 : x18_3 < (x3_1.length : Int) := zo (by assumption); obtain ⟨ad229, e229, hx229_0⟩ := Kd.at_int (Kd.R_reads' HO_3.out).2.2 x18_3 p229 q229; cases e229; replace p229 := eq_true p229; replace q229 := eq_true q229; go_wp2
                    repeat (go_quiet (fail); try go_wp2)
                    go_roundg k3
                    case measure => have := HK1.out; have := HJ4.out; have := HK3.out; omega
                    case rel => exact ⟨(x5_3), (wrap64 (x18_3 + 1)), (by first | rfl | (simp; done) | (simp [*]; done)), (by first | rfl | (simp; done) | (simp [*]; done)), H', ⟨by have := HK1.out; have := HJ4.out; have := HK3.out; omega⟩, ⟨by (with_reducible repeat (first | apply Kd.R_alloc | apply Kd.R_drewN | apply Kd.R_drew)); exact HO_3.out⟩, ⟨by with_reducible repeat first | exact HB.out | apply zA | apply zN | apply zD⟩⟩
                  ·
                   rw [if_neg c15] at H; exact absurd H (by simp)
                 ·
                  rw [if_neg c14] at H; have c14b0 := decide_eq_false c14; clear c14; have H' := zk H; clear H; have p225 : 0 ≤ (x9_1 : Int) := zo (by assumption); have q225 : x9_1 < (l0.length : Int) := zo (by assumption); obtain ⟨ad225, e225, hx225_0⟩ := Kd.at_int HR0.out x9_1 p225 q225; obtain rfl : ad224 = ad225 := (by injection e225); replace hx225_0 := zB HB hx225_0; replace p225 := eq_true p225; replace q225 := eq_true q225; have p226 : 0 ≤ (x18_3 : Int) := zo (by assumption); have q226 : x18_3 < (l0.length : Int) := zo (by assumption); obtain ⟨ad226, e226, hx226_0⟩ := Kd.at_int HR0.out x18_3 p226 q226; obtain rfl : ad224 = ad226 := (by injection e226); replace hx226_0 := zB HB hx226_0; replace p226 := eq_true p226; replace q226 := eq_true q226; have p227 : 0 ≤ (x18_3 : Int) := zo (by assumption); have q227 : x18_3 < (l0.length : Int) := zo (by assumption); obtain ⟨ad227, e227, hx227_0⟩ := Kd.at_int HR0.out x18_3 p227 q227; obtain rfl : ad224 = ad227 := (by injection e227); replace hx227_0 := zB HB hx227_0; replace p227 := eq_true p227; replace q227 := eq_true q227; have p228 : 0 ≤ (x9_1 : Int) := zo (by assumption); have q228 : x9_1 < (l0.length : Int) := zo (by assumption); obtain ⟨ad228, e228, hx228_0⟩ := Kd.at_int HR0.out x9_1 p228 q228; obtain rfl : ad224 = ad228 := (by injection e228); replace hx228_0 := zB HB hx228_0; replace p228 := eq_true p228; replace q228 := eq_true q228; go_wp2
                  repeat (go_quiet (fail); try go_wp2)
                  go_roundg k3
                  case measure => have := HK1.out; have := HJ4.out; have := HK3.out; omega
                  case rel => exact ⟨(x5_3), (wrap64 (x18_3 + 1)), (by first | rfl | (simp; done) | (simp [*]; done)), (by first | rfl | (simp; done) | (simp [*]; done)), H', ⟨by have := HK1.out; have := HJ4.out; have := HK3.out; omega⟩, ⟨by (with_reducible repeat (first | apply Kd.R_alloc | apply Kd.R_drewN | apply Kd.R_drew)); exact HO_3.out⟩, ⟨by with_reducible repeat first | exact HB.out | apply zA | apply zN | apply zD⟩⟩
                ·
                 rw [if_neg c13] at H; have c13b0 : decide (0 ≤ (rd l0 x18_3)) = false := decide_eq_false c13; clear c13; have H' := zk H; clear H; have p225 : 0 ≤ (x9_1 : Int) := zo (by assumption); have q225 : x9_1 < (l0.length : Int) := zo (by assumption); obtain ⟨ad225, e225, hx225_0⟩ := Kd.at_int HR0.out x9_1 p225 q225; obtain rfl : ad224 = ad225 := (by injection e225); replace hx225_0 := zB HB hx225_0; replace p225 := eq_true p225; replace q225 := eq_true q225; have p226 : 0 ≤ (x18_3 : Int) := zo (by assumption); have q226 : x18_3 < (l0.length : Int) := zo (by assumption); obtain ⟨ad226, e226, hx226_0⟩ := Kd.at_int HR0.out x18_3 p226 q226; obtain rfl : ad224 = ad226 := (by injection e226); replace hx226_0 := zB HB hx226_0; replace p226 := eq_true p226; replace q226 := eq_true q226; go_wp2
                 repeat (go_quiet (fail); try go_wp2)
                 go_roundg k3
                 case measure => have := HK1.out; have := HJ4.out; have := HK3.out; omega
                 case rel => exact ⟨(x5_3), (wrap64 (x18_3 + 1)), (by first | rfl | (simp; done) | (simp [*]; done)), (by first | rfl | (simp; done) | (simp [*]; done)), H', ⟨by have := HK1.out; have := HJ4.out; have := HK3.out; omega⟩, ⟨by (with_reducible repeat (first | apply Kd.R_alloc | apply Kd.R_drewN | apply Kd.R_drew)); exact HO_3.out⟩, ⟨by with_reducible repeat first | exact HB.out | apply zA | apply zN | apply zD⟩⟩
               ·
                rw [if_neg c12] at H; exact absurd H (by simp)
              ·
               rw [if_neg c11] at H; exact absurd H (by simp)
             ·
              rw [if_neg c10] at H; have c10b0 : decide (0 ≤ (rd l0 x9_1)) = false := decide_eq_false c10; clear c10; have H' := zk H; clear H; have p225 : 0 ≤ (x9_1 : Int) := zo (by assumption); have q225 : x9_1 < (l0.length : Int) := zo (by assumption); obtain ⟨ad225, e225, hx225_0⟩ := Kd.at_int HR0.out x9_1 p225 q225; obtain rfl : ad224 = ad225 := (by injection e225); replace hx225_0 := zB HB hx225_0; replace p225 := eq_true p225; replace q225 := eq_true q225; go_wp2
              repeat (go_quiet (fail); try go_wp2)
              go_roundg k3
              case measure => have := HK1.out; have := HJ4.out; have := HK3.out; omega
              case rel => exact ⟨(x5_3), (wrap64 (x18_3 + 1)), (by first | rfl | (simp; done) | (simp [*]; done)), (by first | rfl | (simp; done) | (simp [*]; done)), H', ⟨by have := HK1.out; have := HJ4.out; have := HK3.out; omega⟩, ⟨by (with_reducible repeat (first | apply Kd.R_alloc | apply Kd.R_drewN | apply Kd.R_drew)); exact HO_3.out⟩, ⟨by with_reducible repeat first | exact HB.out | apply zA | apply zN | apply zD⟩⟩
            ·
             rw [if_neg c9] at H; exact absurd H (by simp)
           ·
            rw [if_neg c8] at H; exact absurd H (by simp)
          ·
           rw [if_neg c7] at H; have c7b0 : decide (x18_3 < x9_1) = false := decide_eq_false c7; clear c7
           by_cases c19 : x3_1.length < 17592186044416
           ·
            rw [if_pos c19] at H; have LMc19 := zk c19; clear c19; obtain ⟨y231, hy231⟩ : ∃ y_ : List Int, y_ = (x3_1 ++ [x5_3]) := ⟨_, rfl⟩
            replace H : (r06_Ends.l0 k3 l0 y231 (l0.length : Int) (wrap64 (x9_1 + 1))) = some r := by first | (rw [hy231]; with_reducible exact H) | (have H2_ := (Option.bind_some _ _).symm.trans H; rw [hy231]; with_reducible exact H2_) | (have H2_ := (Option.bind_some _ _).symm.trans H; with_reducible exact H2_) | with_reducible exact H | (rw [hy231]; exact H) | exact H
            have Ny231 := zk hy231; clear hy231; have H' := zk H; clear H
            go_wp2_with (first | ((with_reducible refine gn (b := .append) (xs := #[.tmp 59, .tmp 61]) rfl ?_); at_builtin; refine Kd.R_append (Kd.int .i64) (w0 := w) w.heap.size rfl (.tmp 59) (.tmp 61) 27 3 (.int .i64 0) 8 rfl Try.underlying27 info3 rfl (by decide) (by omega) u3 x3_1 x5_3 [.int .i64 x5_3] (fun _ => True) (fun _ => False) rfl rfl ?aP (fun _ hk => hk.elim) ?aF ?aO ?aB ?aS ?aL ?_; (case aP => exact rfl); (case aB => exact (by with_reducible repeat first | exact HB.out | apply zA | apply zN | apply zD)); (case aF => exact (fun _ _ => trivial)); (case aO => exact (by (with_reducible repeat (first | apply Kd.R_alloc | apply Kd.R_drewN | apply Kd.R_drew)); exact HO_3.out)); (case aS => exact (zq (by with_reducible repeat first | exact HB.out | apply zA | apply zN | apply zD))); (case aL => have := LMc19.out; omega); intro v232 w20 ho hb hg hat; rw [← Ny231.out] at ho; have n0_ := zk (hb); have n1_ := zk (ho); clear HB; clear HO_3; have HB := n0_; have HO233 := n1_; clear n0_ n1_; clear ho hb hg hat))
            repeat (go_quiet (first | ((with_reducible refine gn (b := .append) (xs := #[.tmp 59, .tmp 61]) rfl ?_); at_builtin; refine Kd.R_append (Kd.int .i64) (w0 := w) w.heap.size rfl (.tmp 59) (.tmp 61) 27 3 (.int .i64 0) 8 rfl Try.underlying27 info3 rfl (by decide) (by omega) u3 x3_1 x5_3 [.int .i64 x5_3] (fun _ => True) (fun _ => False) rfl rfl ?aP (fun _ hk => hk.elim) ?aF ?aO ?aB ?aS ?aL ?_; (case aP => exact rfl); (case aB => exact (by with_reducible repeat first | exact HB.out | apply zA | apply zN | apply zD)); (case aF => exact (fun _ _ => trivial)); (case aO => exact (by (with_reducible repeat (first | apply Kd.R_alloc | apply Kd.R_drewN | apply Kd.R_drew)); exact HO_3.out)); (case aS => exact (zq (by with_reducible repeat first | exact HB.out | apply zA | apply zN | apply zD))); (case aL => have := LMc19.out; omega); intro v232 w20 ho hb hg hat; rw [← Ny231.out] at ho; have n0_ := zk (hb); have n1_ := zk (ho); clear HB; clear HO_3; have HB := n0_; have HO233 := n1_; clear n0_ n1_; clear ho hb hg hat)); try go_wp2_with (first | ((with_reducible refine gn (b := .append) (xs := #[.tmp 59, .tmp 61]) rfl ?_); at_builtin; refine Kd.R_append (Kd.int .i64) (w0 := w) w.heap.size rfl (.tmp 59) (.tmp 61) 27 3 (.int .i64 0) 8 rfl Try.underlying27 info3 rfl (by decide) (by omega) u3 x3_1 x5_3 [.int .i64 x5_3] (fun _ => True) (fun _ => False) rfl rfl ?aP (fun _ hk => hk.elim) ?aF ?aO ?aB ?aS ?aL ?_; (case aP => exact rfl); (case aB => exact (by with_reducible repeat first | exact HB.out | apply zA | apply zN | apply zD)); (case aF => exact (fun _ _ => trivial)); (case aO => exact (by (with_reducible repeat (first | apply Kd.R_alloc | apply Kd.R_drewN | apply Kd.R_drew)); exact HO_3.out)); (case aS => exact (zq (by with_reducible repeat first | exact HB.out | apply zA | apply zN | apply zD))); (case aL => have := LMc19.out; omega); intro v232 w20 ho hb hg hat; rw [← Ny231.out] at ho; have n0_ := zk (hb); have n1_ := zk (ho); clear HB; clear HO_3; have HB := n0_; have HO233 := n1_; clear n0_ n1_; clear ho hb hg hat)))
            go_roundg k3
            case measure => have := HK1.out; have := HJ4.out; have := HK3.out; omega
            case rel => exact ⟨(y231), (wrap64 (x9_1 + 1)), (by first | rfl | (simp; done) | (simp [*]; done)), H', ⟨by have := HK1.out; have := HJ4.out; have := HK3.out; omega⟩, ⟨by (with_reducible repeat (first | apply Kd.R_alloc | apply Kd.R_drewN | apply Kd.R_drew)); exact HO233.out⟩, ⟨by with_reducible repeat first | exact HB.out | apply zA | apply zN | apply zD⟩⟩
           ·
            rw [if_neg c19] at H; exact absurd H (by simp)
     ·
      rw [if_neg c4] at H; exact absurd H (by simp)
    ·
     rw [if_neg c3] at H; exact absurd H (by simp)
   ·
    rw [if_neg c2] at H; have c2b0 := decide_eq_false c2; clear c2; obtain rfl := Option.some.inj H; go_wp2
    repeat (go_quiet (fail); try go_wp2)
    go_ret; exact ⟨_, by first | rfl | (simp [wN, wS] <;> rfl) | (simp [*, wN, wS] <;> rfl), by (with_reducible repeat (first | apply Kd.R_alloc | apply Kd.R_drewN | apply Kd.R_drew)); exact HO_3.out, by with_reducible repeat first | exact HB.out | apply zA | apply zN | apply zD⟩
def r06_Length.l0 : Nat → Int → List Int → Int → Int → Option (Int)
  | 0, _, _, _, _ => none
  | k + 1, x3, x4, x9, x10 => if x10 < x9 then (if 0 ≤ x10 then (if x10 < (x4.length : Int) then (r06_Length.l0 k (mx x3 (rd x4 x10)) x4 x9 (wrap64 (x10 + 1))) else (none)) else (none)) else (some x3)
def r06_Length.f (k : Nat) (l0 : List Int) : Option (Int) := (r06_Ends.f k l0).bind fun t234 => (r06_Length.l0 k 0 t234 (t234.length : Int) 0)
set_option maxHeartbeats 8000000 in
set_option maxRecDepth 100000 in
theorem r06_Length.calls (k : Nat) (A0 : Option Addr) (c0 : Nat) (l0 : List Int) (r : Int) (w : World) (hr0 : Kd.C (Kd.int .i64) w A0 l0.length l0) (hc0 : l0.length ≤ c0) (h : r06_Length.f k l0 = some r) :
    Calls Try.prog 40 #[.slice A0 l0.length c0] w fun e w' => e = .returned (.int .i64 r) ∧ Below w.heap.size w w' := by
  have HR0 := zk hr0; have HC0 := zk hc0; clear hr0 hc0; have HB := zk (Below.refl w.heap.size w); have H : ((r06_Ends.f k l0).bind fun t234 => (r06_Length.l0 k 0 t234 (t234.length : Int) 0)) = some r := h; clear h; replace H := Option.bind_eq_some_iff.mp H; obtain ⟨t234, A20, H⟩ := H; replace H : (r06_Length.l0 k 0 t234 (t234.length : Int) 0) = some r := H; have A2 := zk A20; clear A20; have H' := zk H; clear H
  go_enter Try.func40, Try.ntmps40
  go_wp2_with (first | ((with_reducible refine gk (f := 39) rfl ?_); refine gl (some 7) rfl rfl Try.func39 (by kernel_rfl) rfl #[.slice A0 l0.length c0] rfl (by (try simp only [List.map_toArray, List.map_cons, List.map_nil]); first | done | rfl | (simp only [List.length_drop, List.length_take]; rfl)) ?_; (with_reducible refine (r06_Ends.calls k _ _ l0 t234 _ ?side1 ?side2 A2.out).mono ?_); (case side1 => repeat (first | exact HR0.out | (with_reducible refine Kd.C_alloc ?_ _) | (with_reducible refine Kd.C_drewN ?_ _) | (with_reducible refine Kd.C_drew ?_))); (case side2 => exact HC0.out); rintro e w3 ⟨v235, rfl, ho0, hb⟩; refine ⟨_, rfl, ?_⟩; have n0_ := zk (Kd.R_lower ho0 (zq (by with_reducible repeat first | exact HB.out | apply zA | apply zN | apply zD))); have n1_ := zk (zs (by with_reducible repeat first | exact HB.out | apply zA | apply zN | apply zD) hb); clear HB; have HO236 := n0_; have HB := n1_; clear n0_ n1_; (try clear hb); (try clear hb2); (try clear hk); (try clear hi); (try clear ho0); obtain ⟨Ao4, co4, eo4⟩ := Kd.R_slice HO236.out; subst eo4))
  go_loopg [3, 10] k (fun kq v3 v10 w' => ∃ (x3_1 : Int) (x10_1 : Int), v3 = .int .i64 x3_1 ∧ v10 = .int .i64 x10_1 ∧ Aside0 (r06_Length.l0 kq x3_1 t234 (t234.length : Int) x10_1 = some r) ∧ Aside0 (kq ≤ k) ∧ Aside0 (Kd.R (Kd.int .i64) 3 w' w.heap.size (fun _ => True) (.slice Ao4 t234.length co4) t234) ∧ Aside0 (Below w.heap.size w w'))
  case atStart => exact ⟨(0), (0), (by first | rfl | (simp; done) | (simp [*]; done)), (by first | rfl | (simp; done) | (simp [*]; done)), H', ⟨Nat.le_refl _⟩, ⟨by (with_reducible repeat (first | apply Kd.R_alloc | apply Kd.R_drewN | apply Kd.R_drew)); exact HO236.out⟩, ⟨by with_reducible repeat first | exact HB.out | apply zA | apply zN | apply zD⟩⟩
  case round =>
    clear H'; (try clear p2); (try clear c3); (try clear c4); obtain ⟨x3_1, x10_1, rfl, rfl, HA, HK1, HO_4, HB⟩ := hrel
    cases gk with
    | zero => exact absurd HA.out (by simp [r06_Length.l0])
    | succ k1 =>
      have H := HA.out; clear HA; simp only [r06_Length.l0] at H
      by_cases c5 : x10_1 < (t234.length : Int)
      · rw [if_pos c5] at H
        have c5b0 := decide_eq_true c5
        clear c5
        by_cases c6 : 0 ≤ x10_1
        · rw [if_pos c6] at H
          have c6b0 : decide (0 ≤ x10_1) = true := decide_eq_true c6
          clear c6
          by_cases c7 : x10_1 < (t234.length : Int)
          · rw [if_pos c7] at H
            have c7b0 : decide (x10_1 < (t234.length : Int)) = true := decide_eq_true c7
            clear c7
            obtain ⟨ji8, hji8⟩ : ∃ j_ : Int, (mx x3_1 (rd t234 x10_1)) = j_ := ⟨_, rfl⟩
            replace H : (r06_Length.l0 k1 ji8 t234 (t234.length : Int) (wrap64 (x10_1 + 1))) = some r := by first | (rw [hji8] at H; exact H) | (simp only [hji8] at H ⊢; exact H)
            have hji8_ : (if x3_1 < (rd t234 x10_1) then (rd t234 x10_1) else x3_1) = ji8 := hji8
            have H' := zk H
            clear H
            have p237 : 0 ≤ (x10_1 : Int) := zo (by assumption)
            have q237 : x10_1 < (t234.length : Int) := zo (by assumption)
            obtain ⟨ad237, e237, hx237_0⟩ := Kd.at_int (Kd.R_reads' HO_4.out).2.2 x10_1 p237 q237
            cases e237
            replace p237 := eq_true p237
            replace q237 := eq_true q237
            go_wp2
            go_roundg k1
            case measure => have := HK1.out; omega
            case rel => exact ⟨(ji8), (wrap64 (x10_1 + 1)), (by first | rfl | (simp; done) | (simp only [← hji8] <;> (first | rfl | simp)) | (simp [*]; done)), (by first | rfl | (simp; done) | (simp [*]; done)), H', ⟨by have := HK1.out; omega⟩, ⟨by (with_reducible repeat (first | apply Kd.R_alloc | apply Kd.R_drewN | apply Kd.R_drew)); exact HO_4.out⟩, ⟨by with_reducible repeat first | exact HB.out | apply zA | apply zN | apply zD⟩⟩
          · rw [if_neg c7] at H
            exact absurd H (by simp)
        · rw [if_neg c6] at H
          exact absurd H (by simp)
      · rw [if_neg c5] at H
        have c5b0 := decide_eq_false c5; clear c5; obtain rfl := Option.some.inj H; go_wp2; go_ret; exact ⟨by first | rfl | (simp [wN, wS] <;> rfl) | (simp [*, wN, wS] <;> rfl), by with_reducible repeat first | exact HB.out | apply zA | apply zN | apply zD⟩
mutual
def r06_Longest.l0 : Nat → List Int → List Int → List Int → Int → Int → Option (List Int)
 | 0, _, _, _, _, _ => none
 | k + 1, x0, x3, x4, x5, x6 => if x6 > 0 then (r06_Longest.l1 k x0 x3 x4 x6 (-1) x5 0) else (some x4)
def r06_Longest.l1 : Nat → List Int → List Int → List Int → Int → Int → Int → Int → Option (List Int)
 | 0, _, _, _, _, _, _, _ => none
 | k + 1, x0, x3, x4, x6, x7, x19, x20 => if x20 < x19 then (if 0 ≤ x20 then (if x20 < (x3.length : Int) then (if (rd x3 x20) = x6 then (if x7 < 0 then (r06_Longest.l1 k x0 x3 x4 x6 x20 x19 (wrap64 (x20 + 1))) else (if x20 < (x0.length : Int) then (if 0 ≤ x7 then (if x7 < (x0.length : Int) then (if (rd x0 x20) ≤ (rd x0 x7) then (r06_Longest.l1 k x0 x3 x4 x6 x20 x19 (wrap64 (x20 + 1))) else (r06_Longest.l1 k x0 x3 x4 x6 x7 x19 (wrap64 (x20 + 1)))) else (none)) else (none)) else (none))) else (r06_Longest.l1 k x0 x3 x4 x6 x7 x19 (wrap64 (x20 + 1)))) else (none)) else (none)) else (if x7 < 0 then (some ([] : List Int)) else ((some (([x7] : List Int) : List Int)).bind fun y245 => (if y245.length + x4.length < 17592186044416 then (r06_Longest.l0 k x0 x3 (y245 ++ x4) x7 (wrap64 (x6 - 1))) else (none))))
end
def r06_Longest.f (k : Nat) (l0 : List Int) : Option (List Int) := (r06_Ends.f k l0).bind fun t238 => ((r06_Length.f k l0).bind fun t241 => (r06_Longest.l0 k l0 t238 ([] : List Int) (l0.length : Int) t241))
set_option maxHeartbeats 8000000 in
set_option maxRecDepth 100000 in
theorem r06_Longest.calls (k : Nat) (A0 : Option Addr) (c0 : Nat) (l0 : List Int) (r : List Int) (w : World) (hr0 : Kd.C (Kd.int .i64) w A0 l0.length l0) (hc0 : l0.length ≤ c0) (h : r06_Longest.f k l0 = some r) :
  Calls Try.prog 33 #[.slice A0 l0.length c0] w fun e w' => ∃ v0_ : Value, e = .returned (v0_) ∧ Kd.R (Kd.int .i64) 3 w' w.heap.size (fun _ => True) v0_ r ∧ Below w.heap.size w w' := by
 have HR0 := zk hr0
 have HC0 := zk hc0
 clear hr0 hc0
 have HB := zk (Below.refl w.heap.size w)
 have H : ((r06_Ends.f k l0).bind fun t238 => ((r06_Length.f k l0).bind fun t241 => (r06_Longest.l0 k l0 t238 ([] : List Int) (l0.length : Int) t241))) = some r := h
 clear h
 replace H := Option.bind_eq_some_iff.mp H
 obtain ⟨t238, A20, H⟩ := H
 replace H : ((r06_Length.f k l0).bind fun t241 => (r06_Longest.l0 k l0 t238 ([] : List Int) (l0.length : Int) t241)) = some r := H
 have A2 := zk A20
 clear A20
 replace H := Option.bind_eq_some_iff.mp H
 obtain ⟨t241, A30, H⟩ := H
 replace H : (r06_Longest.l0 k l0 t238 ([] : List Int) (l0.length : Int) t241) = some r := H
 have A3 := zk A30
 clear A30
 have H' := zk H
 clear H
 go_enter Try.func33, Try.ntmps33
 go_wp2_with (first | (go_at_call 39; (with_reducible refine (r06_Ends.calls k _ _ l0 t238 _ ?side1 ?side2 A2.out).mono ?_); (case side1 => repeat (first | exact HR0.out | (with_reducible refine Kd.C_alloc ?_ _) | (with_reducible refine Kd.C_drewN ?_ _) | (with_reducible refine Kd.C_drew ?_))); (case side2 => exact HC0.out); rintro e w4 ⟨v239, rfl, ho0, hb⟩; have n0_ := zk (Kd.R_lower ho0 (zq (by with_reducible repeat first | exact HB.out | apply zA | apply zN | apply zD))); have n1_ := zk (zs (by with_reducible repeat first | exact HB.out | apply zA | apply zN | apply zD) hb); clear HB; have HO240 := n0_; have HB := n1_; clear n0_ n1_; (try clear hb); (try clear hb2); (try clear hk); (try clear hi); (try clear ho0)) | (go_at_call 40; (with_reducible refine (r06_Length.calls k _ _ l0 t241 _ ?side1 ?side2 A3.out).mono ?_); (case side1 => repeat (first | exact (Kd.C_below HR0.out HB.out) | (with_reducible refine Kd.C_alloc ?_ _) | (with_reducible refine Kd.C_drewN ?_ _) | (with_reducible refine Kd.C_drew ?_))); (case side2 => exact HC0.out); rintro e w5 ⟨rfl, hb⟩; have n0_ := zk (Kd.R_below (by (with_reducible repeat (first | apply Kd.R_alloc | apply Kd.R_drewN | apply Kd.R_drew)); exact HO240.out) hb); have n1_ := zk (zs (by with_reducible repeat first | exact HB.out | apply zA | apply zN | apply zD) hb); clear HO240; clear HB; have HO240 := n0_; have HB := n1_; clear n0_ n1_; (try clear hb); (try clear hb2); (try clear hk); (try clear hi)))
 repeat (go_quiet (first | (go_at_call 39; (with_reducible refine (r06_Ends.calls k _ _ l0 t238 _ ?side1 ?side2 A2.out).mono ?_); (case side1 => repeat (first | exact HR0.out | (with_reducible refine Kd.C_alloc ?_ _) | (with_reducible refine Kd.C_drewN ?_ _) | (with_reducible refine Kd.C_drew ?_))); (case side2 => exact HC0.out); rintro e w4 ⟨v239, rfl, ho0, hb⟩; have n0_ := zk (Kd.R_lower ho0 (zq (by with_reducible repeat first | exact HB.out | apply zA | apply zN | apply zD))); have n1_ := zk (zs (by with_reducible repeat first | exact HB.out | apply zA | apply zN | apply zD) hb); clear HB; have HO240 := n0_; have HB := n1_; clear n0_ n1_; (try clear hb); (try clear hb2); (try clear hk); (try clear hi); (try clear ho0)) | (go_at_call 40; (with_reducible refine (r06_Length.calls k _ _ l0 t241 _ ?side1 ?side2 A3.out).mono ?_); (case side1 => repeat (first | exact (Kd.C_below HR0.out HB.out) | (with_reducible refine Kd.C_alloc ?_ _) | (with_reducible refine Kd.C_drewN ?_ _) | (with_reducible refine Kd.C_drew ?_))); (case side2 => exact HC0.out); rintro e w5 ⟨rfl, hb⟩; have n0_ := zk (Kd.R_below (by (with_reducible repeat (first | apply Kd.R_alloc | apply Kd.R_drewN | apply Kd.R_drew)); exact HO240.out) hb); have n1_ := zk (zs (by with_reducible repeat first | exact HB.out | apply zA | apply zN | apply zD) hb); clear HO240; clear HB; have HO240 := n0_; have HB := n1_; clear n0_ n1_; (try clear hb); (try clear hb2); (try clear hk); (try clear hi))); try go_wp2_with (first | (go_at_call 39; (with_reducible refine (r06_Ends.calls k _ _ l0 t238 _ ?side1 ?side2 A2.out).mono ?_); (case side1 => repeat (first | exact HR0.out | (with_reducible refine Kd.C_alloc ?_ _) | (with_reducible refine Kd.C_drewN ?_ _) | (with_reducible refine Kd.C_drew ?_))); (case side2 => exact HC0.out); rintro e w4 ⟨v239, rfl, ho0, hb⟩; have n0_ := zk (Kd.R_lower ho0 (zq (by with_reducible repeat first | exact HB.out | apply zA | apply zN | apply zD))); have n1_ := zk (zs (by with_reducible repeat first | exact HB.out | apply zA | apply zN | apply zD) hb); clear HB; have HO240 := n0_; have HB := n1_; clear n0_ n1_; (try clear hb); (try clear hb2); (try clear hk); (try clear hi); (try clear ho0)) | (go_at_call 40; (with_reducible refine (r06_Length.calls k _ _ l0 t241 _ ?side1 ?side2 A3.out).mono ?_); (case side1 => repeat (first | exact (Kd.C_below HR0.out HB.out) | (with_reducible refine Kd.C_alloc ?_ _) | (with_reducible refine Kd.C_drewN ?_ _) | (with_reducible refine Kd.C_drew ?_))); (case side2 => exact HC0.out); rintro e w5 ⟨rfl, hb⟩; have n0_ := zk (Kd.R_below (by (with_reducible repeat (first | apply Kd.R_alloc | apply Kd.R_drewN | apply Kd.R_drew)); exact HO240.out) hb); have n1_ := zk (zs (by with_reducible repeat first | exact HB.out | apply zA | apply zN | apply zD) hb); clear HO240; clear HB; have HO240 := n0_; have HB := n1_; clear n0_ n1_; (try clear hb); (try clear hb2); (try clear hk); (try clear hi))))
 go_loopg [4, 5, 6] k (fun kq v4 v5 v6 w' => ∃ (x4_1 : List Int) (x5_1 : Int) (x6_1 : Int), v5 = .int .i64 x5_1 ∧ v6 = .int .i64 x6_1 ∧ Aside0 (r06_Longest.l0 kq l0 t238 x4_1 x5_1 x6_1 = some r) ∧ Aside0 (kq ≤ k) ∧ Aside0 (Kd.R (Kd.int .i64) 3 w' w.heap.size (fun k_ => some k_ ≠ (v4 : Value).ownBlock) v239 t238) ∧ Aside0 (Kd.R (Kd.int .i64) 3 w' w.heap.size (fun k_ => some k_ ≠ (v239 : Value).ownBlock) v4 x4_1) ∧ Aside0 (Below w.heap.size w w'))
 case atStart => exact ⟨(([] : List Int)), ((l0.length : Int)), (t241), (by first | rfl | (simp; done) | (simp [*]; done)), (by first | rfl | (simp; done) | (simp [*]; done)), H', ⟨Nat.le_refl _⟩, ⟨by (with_reducible repeat (first | apply Kd.R_alloc | apply Kd.R_drewN | apply Kd.R_drew)); exact Kd.R_mono HO240.out (fun _ hk => (by simp [Value.ownBlock]))⟩, ⟨by first | exact Kd.R_nil _ _ _ _ _ | exact Kd.N_nil _ _ _ _ _ | exact Kd.V_nil _ _ _ _ _ | exact Kd.Q_nil _ _ _ _ _ | exact Kd.S_nil _ _ _ _ _⟩, ⟨by with_reducible repeat first | exact HB.out | apply zA | apply zN | apply zD⟩⟩
 case round =>
  clear H'; (try clear p2); (try clear c3); obtain ⟨x4_1, x5_1, x6_1, rfl, rfl, HA, HK1, HO_3, HO_4, HB⟩ := hrel
  cases gk with
  | zero => exact absurd HA.out (by simp [r06_Longest.l0])
  | succ k1 =>
   have H := HA.out; clear HA; simp only [r06_Longest.l0] at H
   by_cases c6 : x6_1 > 0
   ·
    rw [if_pos c6] at H; have c6b0 : decide (0 < x6_1) = true := decide_eq_true c6; clear c6; have H' := zk H; clear H; go_wp2
    repeat (go_quiet (fail); try go_wp2)
    go_loopg [7, 20] k1 (fun kq v7 v20 w' => ∃ (x7_2 : Int) (x20_2 : Int), v7 = .int .i64 x7_2 ∧ v20 = .int .i64 x20_2 ∧ Aside0 (r06_Longest.l1 kq l0 t238 x4_1 x6_1 x7_2 x5_1 x20_2 = some r) ∧ Aside0 (kq ≤ k1) ∧ Aside0 (Kd.R (Kd.int .i64) 3 w' w.heap.size (fun k_ => some k_ ≠ (u4 : Value).ownBlock) v239 t238) ∧ Aside0 (Kd.R (Kd.int .i64) 3 w' w.heap.size (fun k_ => some k_ ≠ (v239 : Value).ownBlock) u4 x4_1) ∧ Aside0 (Below w.heap.size w w'))
    case atStart => exact ⟨((-1)), (0), (by first | rfl | (simp; done) | (simp [*]; done)), (by first | rfl | (simp; done) | (simp [*]; done)), H', ⟨Nat.le_refl _⟩, ⟨by (with_reducible repeat (first | apply Kd.R_alloc | apply Kd.R_drewN | apply Kd.R_drew)); exact HO_3.out⟩, ⟨by (with_reducible repeat (first | apply Kd.R_alloc | apply Kd.R_drewN | apply Kd.R_drew)); exact HO_4.out⟩, ⟨by with_reducible repeat first | exact HB.out | apply zA | apply zN | apply zD⟩⟩
    case round =>
     clear H'; (try clear p2); (try clear c3); (try clear c6); (try clear c6b0); (try clear p2); obtain ⟨x7_2, x20_2, rfl, rfl, HA, HK2, HO_3, HO_4, HB⟩ := hrel
     cases gk with
     | zero => exact absurd HA.out (by simp [r06_Longest.l1])
     | succ k2 =>
      have H := HA.out; clear HA; simp only [r06_Longest.l1] at H
      by_cases c7 : x20_2 < x5_1
      ·
       rw [if_pos c7] at H; have c7b0 : decide (x20_2 < x5_1) = true := decide_eq_true c7; clear c7
       by_cases c8 : 0 ≤ x20_2
       ·
        rw [if_pos c8] at H; have c8b0 : decide (0 ≤ x20_2) = true := decide_eq_true c8; clear c8
        by_cases c9 : x20_2 < (t238.length : Int)
        ·
         rw [if_pos c9] at H; have c9b0 : decide (x20_2 < (t238.length : Int)) = true := decide_eq_true c9; clear c9
         by_cases c10 : (rd t238 x20_2) = x6_1
         ·
          rw [if_pos c10] at H; have c10b0 : ((rd t238 x20_2) == x6_1) = true := beq_iff_eq.mpr c10; have c10b1 : ((rd t238 x20_2) != x6_1) = false := bne_eq_false_iff_eq.mpr c10; clear c10
          by_cases c11 : x7_2 < 0
          ·
           rw [if_pos c11] at H; have c11b0 : decide (x7_2 < 0) = true := decide_eq_true c11; clear c11; have H' := zk H; clear H; obtain ⟨Ao12, co12, eo12⟩ := Kd.R_slice HO_3.out; subst eo12; have p242 : 0 ≤ (x20_2 : Int) := zo (by assumption); have q242 : x20_2 < (t238.length : Int) := zo (by assumption); obtain ⟨ad242, e242, hx242_0⟩ := Kd.at_int (Kd.R_reads' HO_3.out).2.2 x20_2 p242 q242; cases e242; replace p242 := eq_true p242; replace q242 := eq_true q242; go_wp2
           repeat (go_quiet (fail); try go_wp2)
           go_roundg k2
           case measure => have := HK1.out; have := HK2.out; omega
           case rel => exact ⟨(x20_2), (wrap64 (x20_2 + 1)), (by first | rfl | (simp; done) | (simp [*]; done)), (by first | rfl | (simp; done) | (simp [*]; done)), H', ⟨by have := HK1.out; have := HK2.out; omega⟩, ⟨by (with_reducible repeat (first | apply Kd.R_alloc | apply Kd.R_drewN | apply Kd.R_drew)); exact HO_3.out⟩, ⟨by (with_reducible repeat (first | apply Kd.R_alloc | apply Kd.R_drewN | apply Kd.R_drew)); exact HO_4.out⟩, ⟨by with_reducible repeat first | exact HB.out | apply zA | apply zN | apply zD⟩⟩
          ·
           rw [if_neg c11] at H; have c11b0 : decide (x7_2 < 0) = false := decide_eq_false c11; clear c11
           by_cases c13 : x20_2 < (l0.length : Int)
           ·
            rw [if_pos c13] at H; have c13b0 := decide_eq_true c13; clear c13
            by_cases c14 : 0 ≤ x7_2
            ·
             rw [if_pos c14] at H; have c14b0 := decide_eq_true c14; clear c14
             by_cases c15 : x7_2 < (l0.length : Int)
             ·
              rw [if_pos c15] at H; have c15b0 := decide_eq_true c15; clear c15
              by_cases c16 : (rd l0 x20_2) ≤ (rd l0 x7_2)
              ·
               rw [if_pos c16] at H; have c16b0 : decide ((rd l0 x20_2) ≤ (rd l0 x7_2)) = true := decide_eq_true c16; clear c16; have H' := zk H; clear H; obtain ⟨Ao17, co17, eo17⟩ := Kd.R_slice HO_3.out; subst eo17; have p242 : 0 ≤ (x20_2 : Int) := zo (by assumption); have q242 : x20_2 < (t238.length : Int) := zo (by assumption); obtain ⟨ad242, e242, hx242_0⟩ := Kd.at_int (Kd.R_reads' HO_3.out).2.2 x20_2 p242 q242; cases e242; replace p242 := eq_true p242; replace q242 := eq_true q242; have p243 : 0 ≤ (x20_2 : Int) := zo (by assumption); have q243 : x20_2 < (l0.length : Int) := zo (by assumption); obtain ⟨ad243, e243, hx243_0⟩ := Kd.at_int HR0.out x20_2 p243 q243; cases e243; replace hx243_0 := zB HB hx243_0; replace p243 := eq_true p243; replace q243 := eq_true q243; have p244 : 0 ≤ (x7_2 : Int) := zo (by assumption); have q244 : x7_2 < (l0.length : Int) := zo (by assumption); obtain ⟨ad244, e244, hx244_0⟩ := Kd.at_int HR0.out x7_2 p244 q244; obtain rfl : ad243 = ad244 := (by injection e244); replace hx244_0 := zB HB hx244_0; replace p244 := eq_true p244; replace q244 := eq_true q244; go_wp2
               repeat (go_quiet (fail); try go_wp2)
               go_roundg k2
               case measure => have := HK1.out; have := HK2.out; omega
               case rel => exact ⟨(x20_2), (wrap64 (x20_2 + 1)), (by first | rfl | (simp; done) | (simp [*]; done)), (by first | rfl | (simp; done) | (simp [*]; done)), H', ⟨by have := HK1.out; have := HK2.out; omega⟩, ⟨by (with_reducible repeat (first | apply Kd.R_alloc | apply Kd.R_drewN | apply Kd.R_drew)); exact HO_3.out⟩, ⟨by (with_reducible repeat (first | apply Kd.R_alloc | apply Kd.R_drewN | apply Kd.R_drew)); exact HO_4.out⟩, ⟨by with_reducible repeat first | exact HB.out | apply zA | apply zN | apply zD⟩⟩
              ·
               rw [if_neg c16] at H; have c16b0 : decide ((rd l0 x20_2) ≤ (rd l0 x7_2)) = false := decide_eq_false c16; clear c16; have H' := zk H; clear H; obtain ⟨Ao18, co18, eo18⟩ := Kd.R_slice HO_3.out; subst eo18; have p242 : 0 ≤ (x20_2 : Int) := zo (by assumption); have q242 : x20_2 < (t238.length : Int) := zo (by assumption); obtain ⟨ad242, e242, hx242_0⟩ := Kd.at_int (Kd.R_reads' HO_3.out).2.2 x20_2 p242 q242; cases e242; replace p242 := eq_true p242; replace q242 := eq_true q242; have p243 : 0 ≤ (x20_2 : Int) := zo (by assumption); have q243 : x20_2 < (l0.length : Int) := zo (by assumption); obtain ⟨ad243, e243, hx243_0⟩ := Kd.at_int HR0.out x20_2 p243 q243; cases e243; replace hx243_0 := zB HB hx243_0; replace p243 := eq_true p243; replace q243 := eq_true q243; have p244 : 0 ≤ (x7_2 : Int) := zo (by assumption); have q244 : x7_2 < (l0.length : Int) := zo (by assumption); obtain ⟨ad244, e244, hx244_0⟩ := Kd.at_int HR0.out x7_2 p244 q244; obtain rfl : ad243 = ad244 := (by injection e244); replace hx244_0 := zB HB hx244_0; replace p244 := eq_true p244; replace q244 := eq_true q244; go_wp2
               repeat (go_quiet (fail); try go_wp2)
               go_roundg k2
               case measure => have := HK1.out; have := HK2.out; omega
               case rel => exact ⟨(x7_2), (wrap64 (x20_2 + 1)), (by first | rfl | (simp; done) | (simp [*]; done)), (by first | rfl | (simp; done) | (simp [*]; done)), H', ⟨by have := HK1.out; have := HK2.out; omega⟩, ⟨by (with_reducible repeat (first | apply Kd.R_alloc | apply Kd.R_drewN | apply Kd.R_drew)); exact HO_3.out⟩, ⟨by (with_reducible repeat (first | apply Kd.R_alloc | apply Kd.R_drewN | apply Kd.R_drew)); exact HO_4.out⟩, ⟨by with_reducible repeat first | exact HB.out | apply zA | apply zN | apply zD⟩⟩
             ·
              rw [if_neg c15] at H; exact absurd H (by simp)
            ·
             rw [if_neg c14] at H; exact absurd H (by simp)
           ·
            rw [if_neg c13] at H; exact absurd H (by simp)
         ·
          rw [if_neg c10] at H; have c10b0 : ((rd t238 x20_2) == x6_1) = false := beq_eq_false_iff_ne.mpr c10; have c10b1 : ((rd t238 x20_2) != x6_1) = true := bne_iff_ne.mpr c10; have H' := zk H; clear H; obtain ⟨Ao19, co19, eo19⟩ := Kd.R_slice HO_3.out; subst eo19; have p242 : 0 ≤ (x20_2 : Int) := zo (by assumption); have q242 : x20_2 < (t238.length : Int) := zo (by assumption); obtain ⟨ad242, e242, hx242_0⟩ := Kd.at_int (Kd.R_reads' HO_3.out).2.2 x20_2 p242 q242; cases e242; replace p242 := eq_true p242; replace q242 := eq_true q242; go_wp2
          repeat (go_quiet (fail); try go_wp2)
          go_roundg k2
          case measure => have := HK1.out; have := HK2.out; omega
          case rel => exact ⟨(x7_2), (wrap64 (x20_2 + 1)), (by first | rfl | (simp; done) | (simp [*]; done)), (by first | rfl | (simp; done) | (simp [*]; done)), H', ⟨by have := HK1.out; have := HK2.out; omega⟩, ⟨by (with_reducible repeat (first | apply Kd.R_alloc | apply Kd.R_drewN | apply Kd.R_drew)); exact HO_3.out⟩, ⟨by (with_reducible repeat (first | apply Kd.R_alloc | apply Kd.R_drewN | apply Kd.R_drew)); exact HO_4.out⟩, ⟨by with_reducible repeat first | exact HB.out | apply zA | apply zN | apply zD⟩⟩
        ·
         rw [if_neg c9] at H; exact absurd H (by simp)
       ·
        rw [if_neg c8] at H; exact absurd H (by simp)
      ·
       rw [if_neg c7] at H; have c7b0 : decide (x20_2 < x5_1) = false := decide_eq_false c7; clear c7
       by_cases c20 : x7_2 < 0
       ·
        rw [if_pos c20] at H; have c20b0 := decide_eq_true c20; clear c20; obtain rfl := Option.some.inj H; go_wp2
        repeat (go_quiet (fail); try go_wp2)
        go_ret; exact ⟨_, by first | rfl | (simp [wN, wS] <;> rfl) | (simp [*, wN, wS] <;> rfl), by first | exact Kd.R_nil _ _ _ _ _ | exact Kd.N_nil _ _ _ _ _ | exact Kd.V_nil _ _ _ _ _ | exact Kd.Q_nil _ _ _ _ _ | exact Kd.S_nil _ _ _ _ _, by with_reducible repeat first | exact HB.out | apply zA | apply zN | apply zD⟩
       ·
        rw [if_neg c20] at H; have c20b0 := decide_eq_false c20; clear c20; obtain ⟨y245, hy245⟩ : ∃ y_ : List Int, y_ = (([x7_2] : List Int)) := ⟨_, rfl⟩
        replace H : (if y245.length + x4_1.length < 17592186044416 then (r06_Longest.l0 k2 l0 t238 (y245 ++ x4_1) x7_2 (wrap64 (x6_1 - 1))) else (none)) = some r := by first | (rw [hy245]; with_reducible exact H) | (have H2_ := (Option.bind_some _ _).symm.trans H; rw [hy245]; with_reducible exact H2_) | (have H2_ := (Option.bind_some _ _).symm.trans H; with_reducible exact H2_) | with_reducible exact H | (rw [hy245]; exact H) | exact H
        have Ny245 := zk hy245; clear hy245
        by_cases c21 : y245.length + x4_1.length < 17592186044416
        ·
         rw [if_pos c21] at H; have LMc21 := zk c21; clear c21; obtain ⟨y248, hy248⟩ : ∃ y_ : List Int, y_ = (y245 ++ x4_1) := ⟨_, rfl⟩
         replace H : (r06_Longest.l0 k2 l0 t238 y248 x7_2 (wrap64 (x6_1 - 1))) = some r := by first | (rw [hy248]; with_reducible exact H) | (have H2_ := (Option.bind_some _ _).symm.trans H; rw [hy248]; with_reducible exact H2_) | (have H2_ := (Option.bind_some _ _).symm.trans H; with_reducible exact H2_) | with_reducible exact H | (rw [hy248]; exact H) | exact H
         have Ny248 := zk hy248; clear hy248; have H' := zk H; clear H
         go_wp2_with (first | ((with_reducible refine gd (N := 49) rfl ?_); refine Kd.R_lit (Kd.int .i64) _ 3 ?hg (N := 49) ?hd (xs := ([x7_2] : List Int)) (inner := [.int .i64 x7_2]) (ok := fun _ => True) (okp := fun _ => True) ?hr ?hp (fun _ hk => hk) trivial (Below.refl _ _) (Nat.le_refl _) (by simp) ?_; (case hd => rfl); (case hg => rfl); (case hr => go_simp; first | done | rfl); (case hp => exact (Reps.one (show Kd.M (Kd.int .i64) _ _ _ x7_2 [.int .i64 x7_2] from rfl) (Reps.none _ _))); intro v246 w22 ho23 hb hg_ hnew_; clear hg_ hnew_; (first | rw [← Ny245.out] at ho23 | (simp only [Int.reduceToNat] at ho23; rw [← Ny245.out] at ho23)); have n0_ := zk (Kd.R_elder' (by (with_reducible repeat (first | apply Kd.R_alloc | apply Kd.R_drewN | apply Kd.R_drew)); exact HO_3.out) (Kd.R_base ho23) hb); have n1_ := zk (Kd.R_elder' (by (with_reducible repeat (first | apply Kd.R_alloc | apply Kd.R_drewN | apply Kd.R_drew)); exact HO_4.out) (Kd.R_base ho23) hb); have n2_ := zk (Kd.R_lower (Kd.R_new' (Kd.R_new' ho23 (Kd.R_lt (by (with_reducible repeat (first | apply Kd.R_alloc | apply Kd.R_drewN | apply Kd.R_drew)); exact HO_3.out))) (Kd.R_lt (by (with_reducible repeat (first | apply Kd.R_alloc | apply Kd.R_drewN | apply Kd.R_drew)); exact HO_4.out))) (zq (by with_reducible repeat first | exact HB.out | apply zA | apply zN | apply zD))); have n3_ := zk (zs (by with_reducible repeat first | exact HB.out | apply zA | apply zN | apply zD) hb); clear HO_3; clear HO_4; clear HB; have HO_3 := n0_; have HO_4 := n1_; have HO247 := n2_; have HB := n3_; clear n0_ n1_ n2_ n3_; clear hb ho23; obtain ⟨Ao25, co25, eo25⟩ := Kd.R_slice HO_4.out; subst eo25) | ((with_reducible refine gn (b := .append) (xs := #[.tmp 49, .tmp 50]) rfl ?_); at_builtin; refine Kd.R_append_rows (Kd.int .i64) (w0 := w) w.heap.size rfl (.tmp 49) (.tmp 50) 27 3 (.int .i64 0) 8 rfl Try.underlying27 info3 rfl (by decide) (by omega) v246 y245 x4_1 _ _ _ (fun k_ => some k_ ≠ (v239 : Value).ownBlock ∧ some k_ ≠ (.slice Ao25 x4_1.length co25 : Value).ownBlock) (fun _ => False) rfl rfl ?aO ?aR (fun _ _ h => h) (fun _ h => h.elim) ?aF ?aB ?aS ?aL ?_; (case aR => repeat (first | exact (Kd.R_reads' HO_4.out).2.2 | (with_reducible refine Kd.C_alloc ?_ _) | (with_reducible refine Kd.C_drewN ?_ _) | (with_reducible refine Kd.C_drew ?_))); (case aB => exact (by with_reducible repeat first | exact HB.out | apply zA | apply zN | apply zD)); (case aF => exact (fun k_ hk => ⟨Kd.fresh' (Kd.R_lt (by (with_reducible repeat (first | apply Kd.R_alloc | apply Kd.R_drewN | apply Kd.R_drew)); exact HO_3.out)) k_ hk, Kd.fresh' (Kd.R_lt (by (with_reducible repeat (first | apply Kd.R_alloc | apply Kd.R_drewN | apply Kd.R_drew)); exact HO_4.out)) k_ hk⟩)); (case aO => exact (by (with_reducible repeat (first | apply Kd.R_alloc | apply Kd.R_drewN | apply Kd.R_drew)); exact Kd.R_mono HO247.out (fun _ hk => ⟨hk.1.2, hk.2⟩))); (case aS => exact (zq (by with_reducible repeat first | exact HB.out | apply zA | apply zN | apply zD))); (case aL => have := LMc21.out; omega); intro v249 w24 ho hb hg hat; rw [← Ny248.out] at ho; have n0_ := zk (Kd.R_after (ok := (fun k_ => some k_ ≠ (.slice Ao25 x4_1.length co25 : Value).ownBlock)) (by (with_reducible repeat (first | apply Kd.R_alloc | apply Kd.R_drewN | apply Kd.R_drew)); exact HO_3.out) hg hat); have n1_ := zk (Kd.R_after (ok := (fun k_ => some k_ ≠ (v239 : Value).ownBlock)) (by (with_reducible repeat (first | apply Kd.R_alloc | apply Kd.R_drewN | apply Kd.R_drew)); exact HO_4.out) hg hat); have n2_ := zk (hb); have n3_ := zk (ho); clear HO_3; clear HO_4; clear HB; clear HO247; have HO_3 := n0_; have HO_4 := n1_; have HB := n2_; have HO250 := n3_; clear n0_ n1_ n2_ n3_; clear ho hb hg hat))
         repeat (go_quiet (first | ((with_reducible refine gd (N := 49) rfl ?_); refine Kd.R_lit (Kd.int .i64) _ 3 ?hg (N := 49) ?hd (xs := ([x7_2] : List Int)) (inner := [.int .i64 x7_2]) (ok := fun _ => True) (okp := fun _ => True) ?hr ?hp (fun _ hk => hk) trivial (Below.refl _ _) (Nat.le_refl _) (by simp) ?_; (case hd => rfl); (case hg => rfl); (case hr => go_simp; first | done | rfl); (case hp => exact (Reps.one (show Kd.M (Kd.int .i64) _ _ _ x7_2 [.int .i64 x7_2] from rfl) (Reps.none _ _))); intro v246 w22 ho23 hb hg_ hnew_; clear hg_ hnew_; (first | rw [← Ny245.out] at ho23 | (simp only [Int.reduceToNat] at ho23; rw [← Ny245.out] at ho23)); have n0_ := zk (Kd.R_elder' (by (with_reducible repeat (first | apply Kd.R_alloc | apply Kd.R_drewN | apply Kd.R_drew)); exact HO_3.out) (Kd.R_base ho23) hb); have n1_ := zk (Kd.R_elder' (by (with_reducible repeat (first | apply Kd.R_alloc | apply Kd.R_drewN | apply Kd.R_drew)); exact HO_4.out) (Kd.R_base ho23) hb); have n2_ := zk (Kd.R_lower (Kd.R_new' (Kd.R_new' ho23 (Kd.R_lt (by (with_reducible repeat (first | apply Kd.R_alloc | apply Kd.R_drewN | apply Kd.R_drew)); exact HO_3.out))) (Kd.R_lt (by (with_reducible repeat (first | apply Kd.R_alloc | apply Kd.R_drewN | apply Kd.R_drew)); exact HO_4.out))) (zq (by with_reducible repeat first | exact HB.out | apply zA | apply zN | apply zD))); have n3_ := zk (zs (by with_reducible repeat first | exact HB.out | apply zA | apply zN | apply zD) hb); clear HO_3; clear HO_4; clear HB; have HO_3 := n0_; have HO_4 := n1_; have HO247 := n2_; have HB := n3_; clear n0_ n1_ n2_ n3_; clear hb ho23; obtain ⟨Ao25, co25, eo25⟩ := Kd.R_slice HO_4.out; subst eo25) | ((with_reducible refine gn (b := .append) (xs := #[.tmp 49, .tmp 50]) rfl ?_); at_builtin; refine Kd.R_append_rows (Kd.int .i64) (w0 := w) w.heap.size rfl (.tmp 49) (.tmp 50) 27 3 (.int .i64 0) 8 rfl Try.underlying27 info3 rfl (by decide) (by omega) v246 y245 x4_1 _ _ _ (fun k_ => some k_ ≠ (v239 : Value).ownBlock ∧ some k_ ≠ (.slice Ao25 x4_1.length co25 : Value).ownBlock) (fun _ => False) rfl rfl ?aO ?aR (fun _ _ h => h) (fun _ h => h.elim) ?aF ?aB ?aS ?aL ?_; (case aR => repeat (first | exact (Kd.R_reads' HO_4.out).2.2 | (with_reducible refine Kd.C_alloc ?_ _) | (with_reducible refine Kd.C_drewN ?_ _) | (with_reducible refine Kd.C_drew ?_))); (case aB => exact (by with_reducible repeat first | exact HB.out | apply zA | apply zN | apply zD)); (case aF => exact (fun k_ hk => ⟨Kd.fresh' (Kd.R_lt (by (with_reducible repeat (first | apply Kd.R_alloc | apply Kd.R_drewN | apply Kd.R_drew)); exact HO_3.out)) k_ hk, Kd.fresh' (Kd.R_lt (by (with_reducible repeat (first | apply Kd.R_alloc | apply Kd.R_drewN | apply Kd.R_drew)); exact HO_4.out)) k_ hk⟩)); (case aO => exact (by (with_reducible repeat (first | apply Kd.R_alloc | apply Kd.R_drewN | apply Kd.R_drew)); exact Kd.R_mono HO247.out (fun _ hk => ⟨hk.1.2, hk.2⟩))); (case aS => exact (zq (by with_reducible repeat first | exact HB.out | apply zA | apply zN | apply zD))); (case aL => have := LMc21.out; omega); intro v249 w24 ho hb hg hat; rw [← Ny248.out] at ho; have n0_ := zk (Kd.R_after (ok := (fun k_ => some k_ ≠ (.slice Ao25 x4_1.length co25 : Value).ownBlock)) (by (with_reducible repeat (first | apply Kd.R_alloc | apply Kd.R_drewN | apply Kd.R_drew)); exact HO_3.out) hg hat); have n1_ := zk (Kd.R_after (ok := (fun k_ => some k_ ≠ (v239 : Value).ownBlock)) (by (with_reducible repeat (first | apply Kd.R_alloc | apply Kd.R_drewN | apply Kd.R_drew)); exact HO_4.out) hg hat); have n2_ := zk (hb); have n3_ := zk (ho); clear HO_3; clear HO_4; clear HB; clear HO247; have HO_3 := n0_; have HO_4 := n1_; have HB := n2_; have HO250 := n3_; clear n0_ n1_ n2_ n3_; clear ho hb hg hat)); try go_wp2_with (first | ((with_reducible refine gd (N := 49) rfl ?_); refine Kd.R_lit (Kd.int .i64) _ 3 ?hg (N := 49) ?hd (xs := ([x7_2] : List Int)) (inner := [.int .i64 x7_2]) (ok := fun _ => True) (okp := fun _ => True) ?hr ?hp (fun _ hk => hk) trivial (Below.refl _ _) (Nat.le_refl _) (by simp) ?_; (case hd => rfl); (case hg => rfl); (case hr => go_simp; first | done | rfl); (case hp => exact (Reps.one (show Kd.M (Kd.int .i64) _ _ _ x7_2 [.int .i64 x7_2] from rfl) (Reps.none _ _))); intro v246 w22 ho23 hb hg_ hnew_; clear hg_ hnew_; (first | rw [← Ny245.out] at ho23 | (simp only [Int.reduceToNat] at ho23; rw [← Ny245.out] at ho23)); have n0_ := zk (Kd.R_elder' (by (with_reducible repeat (first | apply Kd.R_alloc | apply Kd.R_drewN | apply Kd.R_drew)); exact HO_3.out) (Kd.R_base ho23) hb); have n1_ := zk (Kd.R_elder' (by (with_reducible repeat (first | apply Kd.R_alloc | apply Kd.R_drewN | apply Kd.R_drew)); exact HO_4.out) (Kd.R_base ho23) hb); have n2_ := zk (Kd.R_lower (Kd.R_new' (Kd.R_new' ho23 (Kd.R_lt (by (with_reducible repeat (first | apply Kd.R_alloc | apply Kd.R_drewN | apply Kd.R_drew)); exact HO_3.out))) (Kd.R_lt (by (with_reducible repeat (first | apply Kd.R_alloc | apply Kd.R_drewN | apply Kd.R_drew)); exact HO_4.out))) (zq (by with_reducible repeat first | exact HB.out | apply zA | apply zN | apply zD))); have n3_ := zk (zs (by with_reducible repeat first | exact HB.out | apply zA | apply zN | apply zD) hb); clear HO_3; clear HO_4; clear HB; have HO_3 := n0_; have HO_4 := n1_; have HO247 := n2_; have HB := n3_; clear n0_ n1_ n2_ n3_; clear hb ho23; obtain ⟨Ao25, co25, eo25⟩ := Kd.R_slice HO_4.out; subst eo25) | ((with_reducible refine gn (b := .append) (xs := #[.tmp 49, .tmp 50]) rfl ?_); at_builtin; refine Kd.R_append_rows (Kd.int .i64) (w0 := w) w.heap.size rfl (.tmp 49) (.tmp 50) 27 3 (.int .i64 0) 8 rfl Try.underlying27 info3 rfl (by decide) (by omega) v246 y245 x4_1 _ _ _ (fun k_ => some k_ ≠ (v239 : Value).ownBlock ∧ some k_ ≠ (.slice Ao25 x4_1.length co25 : Value).ownBlock) (fun _ => False) rfl rfl ?aO ?aR (fun _ _ h => h) (fun _ h => h.elim) ?aF ?aB ?aS ?aL ?_; (case aR => repeat (first | exact (Kd.R_reads' HO_4.out).2.2 | (with_reducible refine Kd.C_alloc ?_ _) | (with_reducible refine Kd.C_drewN ?_ _) | (with_reducible refine Kd.C_drew ?_))); (case aB => exact (by with_reducible repeat first | exact HB.out | apply zA | apply zN | apply zD)); (case aF => exact (fun k_ hk => ⟨Kd.fresh' (Kd.R_lt (by (with_reducible repeat (first | apply Kd.R_alloc | apply Kd.R_drewN | apply Kd.R_drew)); exact HO_3.out)) k_ hk, Kd.fresh' (Kd.R_lt (by (with_reducible repeat (first | apply Kd.R_alloc | apply Kd.R_drewN | apply Kd.R_drew)); exact HO_4.out)) k_ hk⟩)); (case aO => exact (by (with_reducible repeat (first | apply Kd.R_alloc | apply Kd.R_drewN | apply Kd.R_drew)); exact Kd.R_mono HO247.out (fun _ hk => ⟨hk.1.2, hk.2⟩))); (case aS => exact (zq (by with_reducible repeat first | exact HB.out | apply zA | apply zN | apply zD))); (case aL => have := LMc21.out; omega); intro v249 w24 ho hb hg hat; rw [← Ny248.out] at ho; have n0_ := zk (Kd.R_after (ok := (fun k_ => some k_ ≠ (.slice Ao25 x4_1.length co25 : Value).ownBlock)) (by (with_reducible repeat (first | apply Kd.R_alloc | apply Kd.R_drewN | apply Kd.R_drew)); exact HO_3.out) hg hat); have n1_ := zk (Kd.R_after (ok := (fun k_ => some k_ ≠ (v239 : Value).ownBlock)) (by (with_reducible repeat (first | apply Kd.R_alloc | apply Kd.R_drewN | apply Kd.R_drew)); exact HO_4.out) hg hat); have n2_ := zk (hb); have n3_ := zk (ho); clear HO_3; clear HO_4; clear HB; clear HO247; have HO_3 := n0_; have HO_4 := n1_; have HB := n2_; have HO250 := n3_; clear n0_ n1_ n2_ n3_; clear ho hb hg hat)))
         go_roundg k2
         case measure => have := HK1.out; have := HK2.out; omega
         case rel => exact ⟨(y248), (x7_2), (wrap64 (x6_1 - 1)), (by first | rfl | (simp; done) | (simp [*]; done)), (by first | rfl | (simp; done) | (simp [*]; done)), H', ⟨by have := HK1.out; have := HK2.out; omega⟩, ⟨by (with_reducible repeat (first | apply Kd.R_alloc | apply Kd.R_drewN | apply Kd.R_drew)); exact Kd.R_mono HO_3.out (fun _ hk => hk.2)⟩, ⟨by (with_reducible repeat (first | apply Kd.R_alloc | apply Kd.R_drewN | apply Kd.R_drew)); exact Kd.R_mono HO250.out (fun _ hk => hk.1)⟩, ⟨by with_reducible repeat first | exact HB.out | apply zA | apply zN | apply zD⟩⟩
        ·
         rw [if_neg c21] at H; exact absurd H (by simp)
   ·
    rw [if_neg c6] at H; have c6b0 : decide (0 < x6_1) = false := decide_eq_false c6; clear c6; obtain rfl := Option.some.inj H; go_wp2
    repeat (go_quiet (fail); try go_wp2)
    go_ret; exact ⟨_, by first | rfl | (simp [wN, wS] <;> rfl) | (simp [*, wN, wS] <;> rfl), by (with_reducible repeat (first | apply Kd.R_alloc | apply Kd.R_drewN | apply Kd.R_drew)); exact Kd.R_mono HO_4.out (fun _ hk => trivial), by with_reducible repeat first | exact HB.out | apply zA | apply zN | apply zD⟩
mutual
def r08_Stay.l0 : Nat → List Int → List Bool → Int → Int → Option (List Bool)
  | 0, _, _, _, _ => none
  | k + 1, x3, x4, x11, x12 => if x12 < x11 then (r08_Stay.l1 k x3 x4 x12 false x11 x12 (x3.length : Int) 0) else (some x4)
def r08_Stay.l1 : Nat → List Int → List Bool → Int → Bool → Int → Int → Int → Int → Option (List Bool)
  | 0, _, _, _, _, _, _, _, _ => none
  | k + 1, x3, x4, x5, x6, x11, x12, x16, x17 => if x17 < x16 then (if x6 = true then (r08_Stay.l1 k x3 x4 x5 true x11 x12 x16 (wrap64 (x17 + 1))) else (if 0 ≤ x17 then (if x17 < (x3.length : Int) then (r08_Stay.l1 k x3 x4 x5 ((rd x3 x17) == x5) x11 x12 x16 (wrap64 (x17 + 1))) else (none)) else (none))) else (if x4.length < 140737488355328 then (r08_Stay.l0 k x3 (x4 ++ [x6]) x11 (wrap64 (x12 + 1))) else (none))
end
def r08_Stay.f (k : Nat) (l0 : List Int) : Option (List Bool) := (r06_Longest.f k l0).bind fun t251 => (r08_Stay.l0 k t251 ([] : List Bool) (l0.length : Int) 0)
set_option maxHeartbeats 8000000 in
set_option maxRecDepth 100000 in
theorem r08_Stay.calls (k : Nat) (A0 : Option Addr) (c0 : Nat) (l0 : List Int) (r : List Bool) (w : World) (hr0 : Kd.C (Kd.int .i64) w A0 l0.length l0) (hc0 : l0.length ≤ c0) (h : r08_Stay.f k l0 = some r) :
    Calls Try.prog 28 #[.slice A0 l0.length c0] w fun e w' => ∃ v0_ : Value, e = .returned (v0_) ∧ Kd.R Kd.bool 4 w' w.heap.size (fun _ => True) v0_ r ∧ Below w.heap.size w w' := by
  have HR0 := zk hr0; have HC0 := zk hc0; clear hr0 hc0; have HB := zk (Below.refl w.heap.size w); have H : ((r06_Longest.f k l0).bind fun t251 => (r08_Stay.l0 k t251 ([] : List Bool) (l0.length : Int) 0)) = some r := h; clear h; replace H := Option.bind_eq_some_iff.mp H; obtain ⟨t251, A20, H⟩ := H; replace H : (r08_Stay.l0 k t251 ([] : List Bool) (l0.length : Int) 0) = some r := H; have A2 := zk A20; clear A20; have H' := zk H; clear H
  go_enter Try.func28, Try.ntmps28
  go_wp2_with (first | ((with_reducible refine gk (f := 33) rfl ?_); refine gl (some 9) rfl rfl Try.func33 (by kernel_rfl) rfl #[.slice A0 l0.length c0] rfl (by (try simp only [List.map_toArray, List.map_cons, List.map_nil]); first | done | rfl | (simp only [List.length_drop, List.length_take]; rfl)) ?_; (with_reducible refine (r06_Longest.calls k _ _ l0 t251 _ ?side1 ?side2 A2.out).mono ?_); (case side1 => repeat (first | exact HR0.out | (with_reducible refine Kd.C_alloc ?_ _) | (with_reducible refine Kd.C_drewN ?_ _) | (with_reducible refine Kd.C_drew ?_))); (case side2 => exact HC0.out); rintro e w3 ⟨v252, rfl, ho0, hb⟩; refine ⟨_, rfl, ?_⟩; have n0_ := zk (Kd.R_lower ho0 (zq (by with_reducible repeat first | exact HB.out | apply zA | apply zN | apply zD))); have n1_ := zk (zs (by with_reducible repeat first | exact HB.out | apply zA | apply zN | apply zD) hb); clear HB; have HO253 := n0_; have HB := n1_; clear n0_ n1_; (try clear hb); (try clear hb2); (try clear hk); (try clear hi); (try clear ho0)))
  go_loopg [4, 12] k (fun kq v4 v12 w' => ∃ (x4_1 : List Bool) (x12_1 : Int), v12 = .int .i64 x12_1 ∧ Aside0 (r08_Stay.l0 kq t251 x4_1 (l0.length : Int) x12_1 = some r) ∧ Aside0 (kq ≤ k) ∧ Aside0 (Kd.R (Kd.int .i64) 3 w' w.heap.size (fun _ => True) v252 t251) ∧ Aside0 (Kd.R Kd.bool 4 w' w.heap.size (fun _ => True) v4 x4_1) ∧ Aside0 (Below w.heap.size w w'))
  case atStart => exact ⟨(([] : List Bool)), (0), (by first | rfl | (simp; done) | (simp [*]; done)), H', ⟨Nat.le_refl _⟩, ⟨by (with_reducible repeat (first | apply Kd.R_alloc | apply Kd.R_drewN | apply Kd.R_drew)); exact HO253.out⟩, ⟨by first | exact Kd.R_nil _ _ _ _ _ | exact Kd.N_nil _ _ _ _ _ | exact Kd.V_nil _ _ _ _ _ | exact Kd.Q_nil _ _ _ _ _ | exact Kd.S_nil _ _ _ _ _⟩, ⟨by with_reducible repeat first | exact HB.out | apply zA | apply zN | apply zD⟩⟩
  case round =>
    clear H'; (try clear c2); (try clear p2); (try clear c3); obtain ⟨x4_1, x12_1, rfl, HA, HK1, HO_3, HO_4, HB⟩ := hrel
    cases gk with
    | zero => exact absurd HA.out (by simp [r08_Stay.l0])
    | succ k1 =>
      have H := HA.out; clear HA; simp only [r08_Stay.l0] at H
      by_cases c4 : x12_1 < (l0.length : Int)
      · rw [if_pos c4] at H
        have c4b0 : decide (x12_1 < (l0.length : Int)) = true := decide_eq_true c4
        clear c4
        have H' := zk H
        clear H
        obtain ⟨Ao5, co5, eo5⟩ := Kd.R_slice HO_3.out
        subst eo5
        go_wp2
        go_loopg [6, 17] k1 (fun kq v6 v17 w' => ∃ (x6_2 : Bool) (x17_2 : Int), v6 = .bool x6_2 ∧ v17 = .int .i64 x17_2 ∧ Aside0 (r08_Stay.l1 kq t251 x4_1 x12_1 x6_2 (l0.length : Int) x12_1 (t251.length : Int) x17_2 = some r) ∧ Aside0 (kq ≤ k1) ∧ Aside0 (Kd.R (Kd.int .i64) 3 w' w.heap.size (fun _ => True) (.slice Ao5 t251.length co5) t251) ∧ Aside0 (Kd.R Kd.bool 4 w' w.heap.size (fun _ => True) u4 x4_1) ∧ Aside0 (Below w.heap.size w w'))
        case atStart => exact ⟨(false), (0), (by first | rfl | (simp; done) | (simp [*]; done)), (by first | rfl | (simp; done) | (simp [*]; done)), H', ⟨Nat.le_refl _⟩, ⟨by (with_reducible repeat (first | apply Kd.R_alloc | apply Kd.R_drewN | apply Kd.R_drew)); exact HO_3.out⟩, ⟨by (with_reducible repeat (first | apply Kd.R_alloc | apply Kd.R_drewN | apply Kd.R_drew)); exact HO_4.out⟩, ⟨by with_reducible repeat first | exact HB.out | apply zA | apply zN | apply zD⟩⟩
        case round =>
          clear H'; (try clear c2); (try clear p2); (try clear c3); (try clear c4); (try clear c4b0); (try clear p2); obtain ⟨x6_2, x17_2, rfl, rfl, HA, HK2, HO_3, HO_4, HB⟩ := hrel
          cases gk with
          | zero => exact absurd HA.out (by simp [r08_Stay.l1])
          | succ k2 =>
            have H := HA.out; clear HA; simp only [r08_Stay.l1] at H
            by_cases c6 : x17_2 < (t251.length : Int)
            · rw [if_pos c6] at H
              have c6b0 : decide (x17_2 < (t251.length : Int)) = true := decide_eq_true c6
              clear c6
              by_cases c7 : x6_2 = true
              · subst c7
                have H1 : (r08_Stay.l1 k2 t251 x4_1 x12_1 true (l0.length : Int) x12_1 (t251.length : Int) (wrap64 (x17_2 + 1))) = some r := by rw [if_pos rfl] at H; exact H
                clear H
                have H := H1
                clear H1
                have H' := zk H
                clear H
                go_wp2
                go_roundg k2
                case measure => have := HK1.out; have := HK2.out; omega
                case rel => exact ⟨(true), (wrap64 (x17_2 + 1)), (by first | rfl | (simp; done) | (simp [*]; done)), (by first | rfl | (simp; done) | (simp [*]; done)), H', ⟨by have := HK1.out; have := HK2.out; omega⟩, ⟨by (with_reducible repeat (first | apply Kd.R_alloc | apply Kd.R_drewN | apply Kd.R_drew)); exact HO_3.out⟩, ⟨by (with_reducible repeat (first | apply Kd.R_alloc | apply Kd.R_drewN | apply Kd.R_drew)); exact HO_4.out⟩, ⟨by with_reducible repeat first | exact HB.out | apply zA | apply zN | apply zD⟩⟩
              · replace c7 := Bool.eq_false_iff.mpr c7
                subst c7
                have H1 : (if 0 ≤ x17_2 then (if x17_2 < (t251.length : Int) then (r08_Stay.l1 k2 t251 x4_1 x12_1 ((rd t251 x17_2) == x12_1) (l0.length : Int) x12_1 (t251.length : Int) (wrap64 (x17_2 + 1))) else (none)) else (none)) = some r := by rw [if_neg (show ¬ (false = true) by decide)] at H; exact H
                clear H
                have H := H1
                clear H1
                by_cases c8 : 0 ≤ x17_2
                · rw [if_pos c8] at H
                  have c8b0 : decide (0 ≤ x17_2) = true := decide_eq_true c8
                  clear c8
                  by_cases c9 : x17_2 < (t251.length : Int)
                  · rw [if_pos c9] at H
                    have c9b0 : decide (x17_2 < (t251.length : Int)) = true := decide_eq_true c9
                    clear c9
                    have H' := zk H
                    clear H
                    have p254 : 0 ≤ (x17_2 : Int) := zo (by assumption)
                    have q254 : x17_2 < (t251.length : Int) := zo (by assumption)
                    obtain ⟨ad254, e254, hx254_0⟩ := Kd.at_int (Kd.R_reads' HO_3.out).2.2 x17_2 p254 q254
                    cases e254
                    replace p254 := eq_true p254
                    replace q254 := eq_true q254
                    go_wp2
                    go_roundg k2
                    case measure => have := HK1.out; have := HK2.out; omega
                    case rel => exact ⟨(((rd t251 x17_2) == x12_1)), (wrap64 (x17_2 + 1)), (by first | rfl | (simp; done) | (simp [*]; done)), (by first | rfl | (simp; done) | (simp [*]; done)), H', ⟨by have := HK1.out; have := HK2.out; omega⟩, ⟨by (with_reducible repeat (first | apply Kd.R_alloc | apply Kd.R_drewN | apply Kd.R_drew)); exact HO_3.out⟩, ⟨by (with_reducible repeat (first | apply Kd.R_alloc | apply Kd.R_drewN | apply Kd.R_drew)); exact HO_4.out⟩, ⟨by with_reducible repeat first | exact HB.out | apply zA | apply zN | apply zD⟩⟩
                  · rw [if_neg c9] at H
                    exact absurd H (by simp)
                · rw [if_neg c8] at H
                  exact absurd H (by simp)
            · rw [if_neg c6] at H
              have c6b0 : decide (x17_2 < (t251.length : Int)) = false := decide_eq_false c6
              clear c6
              by_cases c10 : x4_1.length < 140737488355328
              · rw [if_pos c10] at H
                have LMc10 := zk c10
                clear c10
                obtain ⟨y255, hy255⟩ : ∃ y_ : List Bool, y_ = (x4_1 ++ [x6_2]) := ⟨_, rfl⟩
                replace H : (r08_Stay.l0 k2 t251 y255 (l0.length : Int) (wrap64 (x12_1 + 1))) = some r := by first | (rw [hy255]; with_reducible exact H) | (have H2_ := (Option.bind_some _ _).symm.trans H; rw [hy255]; with_reducible exact H2_) | (have H2_ := (Option.bind_some _ _).symm.trans H; with_reducible exact H2_) | with_reducible exact H | (rw [hy255]; exact H) | exact H
                have Ny255 := zk hy255
                clear hy255
                have H' := zk H
                clear H
                go_wp2_with (first | ((with_reducible refine gn (b := .append) (xs := #[.tmp 30, .tmp 32]) rfl ?_); at_builtin; refine Kd.R_append Kd.bool (w0 := w) w.heap.size rfl (.tmp 30) (.tmp 32) 52 4 (.bool false) 1 rfl Try.underlying52 info4 rfl (by decide) (by omega) u4 x4_1 x6_2 [.bool x6_2] (fun _ => True) (fun _ => False) rfl rfl ?aP (fun _ hk => hk.elim) ?aF ?aO ?aB ?aS ?aL ?_; (case aP => exact rfl); (case aB => exact (by with_reducible repeat first | exact HB.out | apply zA | apply zN | apply zD)); (case aF => exact (fun _ _ => trivial)); (case aO => exact (by (with_reducible repeat (first | apply Kd.R_alloc | apply Kd.R_drewN | apply Kd.R_drew)); exact HO_4.out)); (case aS => exact (zq (by with_reducible repeat first | exact HB.out | apply zA | apply zN | apply zD))); (case aL => have := LMc10.out; omega); intro v256 w11 ho hb hg hat; rw [← Ny255.out] at ho; have n0_ := zk (Kd.R_over' (by (with_reducible repeat (first | apply Kd.R_alloc | apply Kd.R_drewN | apply Kd.R_drew)); exact HO_3.out) (Kd.R_typed (by (with_reducible repeat (first | apply Kd.R_alloc | apply Kd.R_drewN | apply Kd.R_drew)); exact HO_4.out)) (by decide) hg); have n1_ := zk (hb); have n2_ := zk (ho); clear HO_3; clear HB; clear HO_4; have HO_3 := n0_; have HB := n1_; have HO257 := n2_; clear n0_ n1_ n2_; clear ho hb hg hat))
                go_roundg k2
                case measure => have := HK1.out; have := HK2.out; omega
                case rel => exact ⟨(y255), (wrap64 (x12_1 + 1)), (by first | rfl | (simp; done) | (simp [*]; done)), H', ⟨by have := HK1.out; have := HK2.out; omega⟩, ⟨by (with_reducible repeat (first | apply Kd.R_alloc | apply Kd.R_drewN | apply Kd.R_drew)); exact HO_3.out⟩, ⟨by (with_reducible repeat (first | apply Kd.R_alloc | apply Kd.R_drewN | apply Kd.R_drew)); exact HO257.out⟩, ⟨by with_reducible repeat first | exact HB.out | apply zA | apply zN | apply zD⟩⟩
              · rw [if_neg c10] at H
                exact absurd H (by simp)
      · rw [if_neg c4] at H
        have c4b0 : decide (x12_1 < (l0.length : Int)) = false := decide_eq_false c4; clear c4; obtain rfl := Option.some.inj H; go_wp2; go_ret; exact ⟨_, by first | rfl | (simp [wN, wS] <;> rfl) | (simp [*, wN, wS] <;> rfl), by (with_reducible repeat (first | apply Kd.R_alloc | apply Kd.R_drewN | apply Kd.R_drew)); exact HO_4.out, by with_reducible repeat first | exact HB.out | apply zA | apply zN | apply zD⟩
def r08_Plan.l0 : Nat → List Int → List (S58) → List Bool → Int → Option ((List (S58)))
 | 0, _, _, _, _ => none
 | k + 1, x0, x3, x4, x5 => if x5 ≥ 0 then (if 0 ≤ x5 then (if x5 < (x4.length : Int) then (if rdOf false x4 x5 = true then (r08_Plan.l0 k x0 x3 x4 (wrap64 (x5 - 1))) else (if x5 = (wrap64 ((x0.length : Int) - 1)) then (if x3.length < 8796093022208 then (r08_Plan.l0 k x0 (x3 ++ [(⟨x5, (-1)⟩ : S58)]) x4 (wrap64 (x5 - 1))) else (none)) else (if x3.length < 8796093022208 then (r08_Plan.l0 k x0 (x3 ++ [(⟨x5, wrap64 (x5 + 1)⟩ : S58)]) x4 (wrap64 (x5 - 1))) else (none)))) else (none)) else (none)) else (some x3)
def r08_Plan.f (k : Nat) (l0 : List Int) : Option ((List (S58))) := (r08_Stay.f k l0).bind fun t258 => (r08_Plan.l0 k l0 ([] : List (S58)) t258 (wrap64 ((l0.length : Int) - 1)))
set_option maxHeartbeats 8000000 in
set_option maxRecDepth 100000 in
theorem r08_Plan.calls (k : Nat) (A0 : Option Addr) (c0 : Nat) (l0 : List Int) (r : List (S58)) (w : World) (hr0 : Kd.C (Kd.int .i64) w A0 l0.length l0) (hc0 : l0.length ≤ c0) (h : r08_Plan.f k l0 = some r) :
  Calls Try.prog 27 #[.slice A0 l0.length c0] w fun e w' => ∃ v0_ : Value, e = .returned (v0_) ∧ Kd.R k58 58 w' w.heap.size (fun _ => True) v0_ r ∧ Below w.heap.size w w' := by
 have hu58 := Try.underlying58
 have HR0 := zk hr0
 have HC0 := zk hc0
 clear hr0 hc0
 have HB := zk (Below.refl w.heap.size w)
 have H : ((r08_Stay.f k l0).bind fun t258 => (r08_Plan.l0 k l0 ([] : List (S58)) t258 (wrap64 ((l0.length : Int) - 1)))) = some r := h
 clear h
 replace H := Option.bind_eq_some_iff.mp H
 obtain ⟨t258, A20, H⟩ := H
 replace H : (r08_Plan.l0 k l0 ([] : List (S58)) t258 (wrap64 ((l0.length : Int) - 1))) = some r := H
 have A2 := zk A20
 clear A20
 have H' := zk H
 clear H
 go_enter Try.func27, Try.ntmps27
 go_wp2_with (first | ((with_reducible refine gk (f := 28) rfl ?_); refine gl (some 8) rfl rfl Try.func28 (by kernel_rfl) rfl #[.slice A0 l0.length c0] rfl (by (try simp only [List.map_toArray, List.map_cons, List.map_nil]); first | done | rfl | (simp only [List.length_drop, List.length_take]; rfl)) ?_; (with_reducible refine (r08_Stay.calls k _ _ l0 t258 _ ?side1 ?side2 A2.out).mono ?_); (case side1 => repeat (first | exact HR0.out | (with_reducible refine Kd.C_alloc ?_ _) | (with_reducible refine Kd.C_drewN ?_ _) | (with_reducible refine Kd.C_drew ?_))); (case side2 => exact HC0.out); rintro e w3 ⟨v259, rfl, ho0, hb⟩; refine ⟨_, rfl, ?_⟩; have n0_ := zk (Kd.R_lower ho0 (zq (by with_reducible repeat first | exact HB.out | apply zA | apply zN | apply zD))); have n1_ := zk (zs (by with_reducible repeat first | exact HB.out | apply zA | apply zN | apply zD) hb); clear HB; have HO260 := n0_; have HB := n1_; clear n0_ n1_; (try clear hb); (try clear hb2); (try clear hk); (try clear hi); (try clear ho0)))
 go_loopg [3, 5] k (fun kq v3 v5 w' => ∃ (x3_1 : List (S58)) (x5_1 : Int), v5 = .int .i64 x5_1 ∧ Aside0 (r08_Plan.l0 kq l0 x3_1 t258 x5_1 = some r) ∧ Aside0 (kq ≤ k) ∧ Aside0 (Kd.R k58 58 w' w.heap.size (fun _ => True) v3 x3_1) ∧ Aside0 (Kd.R Kd.bool 4 w' w.heap.size (fun _ => True) v259 t258) ∧ Aside0 (Below w.heap.size w w'))
 case atStart => exact ⟨(([] : List (S58))), (wrap64 ((l0.length : Int) - 1)), (by first | rfl | (simp; done) | (simp [*]; done)), H', ⟨Nat.le_refl _⟩, ⟨by first | exact Kd.R_nil _ _ _ _ _ | exact Kd.N_nil _ _ _ _ _ | exact Kd.V_nil _ _ _ _ _ | exact Kd.Q_nil _ _ _ _ _ | exact Kd.S_nil _ _ _ _ _⟩, ⟨by (with_reducible repeat (first | apply Kd.R_alloc | apply Kd.R_drewN | apply Kd.R_drew)); exact HO260.out⟩, ⟨by with_reducible repeat first | exact HB.out | apply zA | apply zN | apply zD⟩⟩
 case round =>
  clear H'; (try clear c2); (try clear p2); obtain ⟨x3_1, x5_1, rfl, HA, HK1, HO_3, HO_4, HB⟩ := hrel
  cases gk with
  | zero => exact absurd HA.out (by simp [r08_Plan.l0])
  | succ k1 =>
   have H := HA.out; clear HA; simp only [r08_Plan.l0] at H
   by_cases c4 : x5_1 ≥ 0
   ·
    rw [if_pos c4] at H; have c4b0 : decide (0 ≤ x5_1) = true := decide_eq_true c4; clear c4
    by_cases c5 : 0 ≤ x5_1
    ·
     rw [if_pos c5] at H; have c5b0 := decide_eq_true c5; clear c5
     by_cases c6 : x5_1 < (t258.length : Int)
     ·
      rw [if_pos c6] at H; have c6b0 : decide (x5_1 < (t258.length : Int)) = true := decide_eq_true c6; clear c6; obtain ⟨bq7, hbq7⟩ : ∃ b_ : Bool, b_ = (rdOf false t258 x5_1) := ⟨_, rfl⟩
      replace H : (if bq7 = true then (r08_Plan.l0 k1 l0 x3_1 t258 (wrap64 (x5_1 - 1))) else (if x5_1 = (wrap64 ((l0.length : Int) - 1)) then (if x3_1.length < 8796093022208 then (r08_Plan.l0 k1 l0 (x3_1 ++ [(⟨x5_1, (-1)⟩ : S58)]) t258 (wrap64 (x5_1 - 1))) else (none)) else (if x3_1.length < 8796093022208 then (r08_Plan.l0 k1 l0 (x3_1 ++ [(⟨x5_1, wrap64 (x5_1 + 1)⟩ : S58)]) t258 (wrap64 (x5_1 - 1))) else (none)))) = some r := by rw [← hbq7] at H; exact H
      have Nbq7 := zk hbq7; clear hbq7
      by_cases c8 : bq7 = true
      ·
       subst c8
       have H1 : (r08_Plan.l0 k1 l0 x3_1 t258 (wrap64 (x5_1 - 1))) = some r := by rw [if_pos rfl] at H; exact H
       clear H; have H := H1; clear H1; have H' := zk H; clear H; obtain ⟨Ao9, co9, eo9⟩ := Kd.R_slice HO_4.out; subst eo9; have p261 : 0 ≤ (x5_1 : Int) := zo (by assumption); have q261 : x5_1 < (t258.length : Int) := zo (by assumption); obtain ⟨ad261, e261, hx261_0⟩ := Kd.at_bool (Kd.R_reads' HO_4.out).2.2 x5_1 p261 q261
       (try rw [← Nbq7.out] at hx261_0)
       cases e261; replace p261 := eq_true p261; replace q261 := eq_true q261; go_wp2
       go_roundg k1
       case measure => have := HK1.out; omega
       case rel => exact ⟨(x3_1), (wrap64 (x5_1 - 1)), (by first | rfl | (simp; done) | (simp [*]; done)), H', ⟨by have := HK1.out; omega⟩, ⟨by (with_reducible repeat (first | apply Kd.R_alloc | apply Kd.R_drewN | apply Kd.R_drew)); exact HO_3.out⟩, ⟨by (with_reducible repeat (first | apply Kd.R_alloc | apply Kd.R_drewN | apply Kd.R_drew)); exact HO_4.out⟩, ⟨by with_reducible repeat first | exact HB.out | apply zA | apply zN | apply zD⟩⟩
      ·
       replace c8 := Bool.eq_false_iff.mpr c8; subst c8
       have H1 : (if x5_1 = (wrap64 ((l0.length : Int) - 1)) then (if x3_1.length < 8796093022208 then (r08_Plan.l0 k1 l0 (x3_1 ++ [(⟨x5_1, (-1)⟩ : S58)]) t258 (wrap64 (x5_1 - 1))) else (none)) else (if x3_1.length < 8796093022208 then (r08_Plan.l0 k1 l0 (x3_1 ++ [(⟨x5_1, wrap64 (x5_1 + 1)⟩ : S58)]) t258 (wrap64 (x5_1 - 1))) else (none))) = some r := by rw [if_neg (show ¬ (false = true) by decide)] at H; exact H
       clear H; have H := H1; clear H1
       by_cases c10 : x5_1 = (wrap64 ((l0.length : Int) - 1))
       ·
        rw [if_pos c10] at H; have c10b0 : (x5_1 == (wrap64 ((l0.length : Int) - 1))) = true := beq_iff_eq.mpr c10; have c10b1 : (x5_1 != (wrap64 ((l0.length : Int) - 1))) = false := bne_eq_false_iff_eq.mpr c10; clear c10
        by_cases c11 : x3_1.length < 8796093022208
        ·
         rw [if_pos c11] at H; have LMc11 := zk c11; clear c11; obtain ⟨y263, hy263⟩ : ∃ y_ : List (S58), y_ = (x3_1 ++ [(⟨x5_1, (-1)⟩ : S58)]) := ⟨_, rfl⟩
         replace H : (r08_Plan.l0 k1 l0 y263 t258 (wrap64 (x5_1 - 1))) = some r := by first | (rw [hy263]; with_reducible exact H) | (have H2_ := (Option.bind_some _ _).symm.trans H; rw [hy263]; with_reducible exact H2_) | (have H2_ := (Option.bind_some _ _).symm.trans H; with_reducible exact H2_) | with_reducible exact H | (rw [hy263]; exact H) | exact H
         have Ny263 := zk hy263; clear hy263; have H' := zk H; clear H; obtain ⟨Ao12, co12, eo12⟩ := Kd.R_slice HO_4.out; subst eo12; have p261 : 0 ≤ (x5_1 : Int) := zo (by assumption); have q261 : x5_1 < (t258.length : Int) := zo (by assumption); obtain ⟨ad261, e261, hx261_0⟩ := Kd.at_bool (Kd.R_reads' HO_4.out).2.2 x5_1 p261 q261
         (try rw [← Nbq7.out] at hx261_0)
         cases e261; replace p261 := eq_true p261; replace q261 := eq_true q261
         go_wp2_with (first | ((with_reducible refine gd (N := 6) rfl ?_); refine zb ?hg (N := 6) ?hd (cs := #[.int .i64 0, .int .i64 0]) (t := 58) ?hr ?_; (case hd => rfl); (case hg => rfl); (case hr => go_simp; first | done | rfl); intro gb262 hg w13 hbox hb; have n0_ := zk (Kd.R_below (Kd.R_elderB (by (with_reducible repeat (first | apply Kd.R_alloc | apply Kd.R_drewN | apply Kd.R_drew)); exact HO_3.out) gb262 (Nat.le_of_eq hg.symm)) hb); have n1_ := zk (Kd.R_below (by (with_reducible repeat (first | apply Kd.R_alloc | apply Kd.R_drewN | apply Kd.R_drew)); exact HO_4.out) hb); have n2_ := zk (zs (by with_reducible repeat first | exact HB.out | apply zA | apply zN | apply zD) hb); have n3_ := zk (hbox); have n4_ := zk ((by rw [hg]; exact (zq (by with_reducible repeat first | exact HB.out | apply zA | apply zN | apply zD)) : w.heap.size ≤ gb262)); have n5_ := n4_; clear HO_3; clear HO_4; clear HB; have HO_3 := n0_; have HO_4 := n1_; have HB := n2_; have BK262 := n3_; have GW262 := n4_; have GE262 := n5_; clear n0_ n1_ n2_ n3_ n4_ n5_; clear hb hbox hg; obtain ⟨hcz14_0, hcz14_1, hfz14_0, hfz14_1⟩ := zc2 BK262.out) | ((with_reducible refine gn (b := .append) (xs := #[.tmp 30, .tmp 32]) rfl ?_); at_builtin; refine Kd.R_append k58 (w0 := w) w.heap.size rfl (.tmp 30) (.tmp 32) 55 58 (.agg #[(.int .i64 0), (.int .i64 0)]) 16 rfl Try.underlying55 info58 rfl (by decide) (by omega) u3 x3_1 (⟨x5_1, (-1)⟩ : S58) [.int .i64 x5_1, .int .i64 (-1)] (fun k_ => k_ ≠ gb262) (fun _ => False) rfl (by first | (go_simp; done) | (go_simp; rfl)) ?aP (fun _ hk => hk.elim) ?aF ?aO ?aB ?aS ?aL ?_; (case aP => exact k58_mkM _ _ _ (⟨x5_1, (-1)⟩ : S58)); (case aB => exact (by with_reducible repeat first | exact HB.out | apply zA | apply zN | apply zD | refine zS ?_ GE262.out)); (case aF => exact (fun k_ hk => Kd.freshB (g := gb262) (o := .cells #[.int .i64 x5_1, .int .i64 (-1)] 58 (0, 0)) (by (with_reducible repeat first | apply zM | apply zE | apply zF); refine zP (cs := #[.int .i64 x5_1, .int .i64 (wrap64 (x5_1 + 1))]) ?_ 1 _ rfl; (with_reducible repeat first | apply zM | apply zE | apply zF); refine zP (cs := #[.int .i64 x5_1, .int .i64 0]) ?_ 1 _ rfl; (with_reducible repeat first | apply zM | apply zE | apply zF); refine zP (cs := #[.int .i64 0, .int .i64 0]) ?_ 0 _ rfl; (with_reducible repeat first | apply zM | apply zE | apply zF); exact BK262.out) k_ hk)); (case aO => exact (by (with_reducible repeat (first | apply Kd.R_alloc | apply Kd.R_drewN | apply Kd.R_drew)); exact Kd.R_mono (Kd.R_far (p := ⟨gb262, 1, none⟩) (Kd.R_far (p := ⟨gb262, 1, none⟩) (Kd.R_far (p := ⟨gb262, 0, none⟩) (Kd.R_mono HO_3.out (fun k_ hk => (⟨hk, hk.2⟩ : _ ∧ k_ ≠ gb262))) (fun _ hk => hk.2) (.int .i64 x5_1)) (fun _ hk => hk.2) (.int .i64 (wrap64 (x5_1 + 1)))) (fun _ hk => hk.2) (.int .i64 (-1))) (fun _ hk => hk.1.2))); (case aS => exact (zq (by with_reducible repeat first | exact HB.out | apply zA | apply zN | apply zD | refine zS ?_ GE262.out))); (case aL => have := LMc11.out; omega); intro v264 w15 ho hb hg hat; rw [← Ny263.out] at ho; have n0_ := zk (Kd.R_over' (by (with_reducible repeat (first | apply Kd.R_alloc | apply Kd.R_drewN | apply Kd.R_drew)); exact (Kd.R_mono (Kd.R_far (p := ⟨gb262, 1, none⟩) (Kd.R_far (p := ⟨gb262, 1, none⟩) (Kd.R_far (p := ⟨gb262, 0, none⟩) (Kd.R_types HO_4.out BK262.out (by decide)) (fun _ hk => hk.2) (.int .i64 x5_1)) (fun _ hk => hk.2) (.int .i64 (wrap64 (x5_1 + 1)))) (fun _ hk => hk.2) (.int .i64 (-1))) (fun _ h_ => h_.1))) (Kd.R_typed (by (with_reducible repeat (first | apply Kd.R_alloc | apply Kd.R_drewN | apply Kd.R_drew)); exact (Kd.R_mono (Kd.R_far (p := ⟨gb262, 1, none⟩) (Kd.R_far (p := ⟨gb262, 1, none⟩) (Kd.R_far (p := ⟨gb262, 0, none⟩) (Kd.R_mono HO_3.out (fun k_ hk => (⟨hk, hk.2⟩ : _ ∧ k_ ≠ gb262))) (fun _ hk => hk.2) (.int .i64 x5_1)) (fun _ hk => hk.2) (.int .i64 (wrap64 (x5_1 + 1)))) (fun _ hk => hk.2) (.int .i64 (-1))) (fun _ h_ => h_.1)))) (by decide) hg); have n1_ := zk (blk_grown (g := gb262) (o := .cells #[.int .i64 x5_1, .int .i64 (-1)] 58 (0, 0)) (by (with_reducible repeat first | apply zM | apply zE | apply zF); refine zP (cs := #[.int .i64 x5_1, .int .i64 (wrap64 (x5_1 + 1))]) ?_ 1 _ rfl; (with_reducible repeat first | apply zM | apply zE | apply zF); refine zP (cs := #[.int .i64 x5_1, .int .i64 0]) ?_ 1 _ rfl; (with_reducible repeat first | apply zM | apply zE | apply zF); refine zP (cs := #[.int .i64 0, .int .i64 0]) ?_ 0 _ rfl; (with_reducible repeat first | apply zM | apply zE | apply zF); exact BK262.out) hg (Kd.R_away HO_3.out (fun _ hk => hk.2))); have n2_ := zk (hb); have n3_ := zk (ho); clear HO_4; clear BK262; clear HB; clear HO_3; have HO_4 := n0_; have BK262 := n1_; have HB := n2_; have HO265 := n3_; clear n0_ n1_ n2_ n3_; clear ho hb hg hat))
         go_roundg k1
         case measure => have := HK1.out; omega
         case rel => exact ⟨(y263), (wrap64 (x5_1 - 1)), (by first | rfl | (simp; done) | (simp [*]; done)), H', ⟨by have := HK1.out; omega⟩, ⟨by (with_reducible repeat (first | apply Kd.R_alloc | apply Kd.R_drewN | apply Kd.R_drew)); exact Kd.R_mono HO265.out (fun _ hk => trivial)⟩, ⟨by (with_reducible repeat (first | apply Kd.R_alloc | apply Kd.R_drewN | apply Kd.R_drew)); exact HO_4.out⟩, ⟨by with_reducible repeat first | exact HB.out | apply zA | apply zN | apply zD | refine zS ?_ GE262.out⟩⟩
        ·
         rw [if_neg c11] at H; exact absurd H (by simp)
       ·
        rw [if_neg c10] at H; have c10b0 : (x5_1 == (wrap64 ((l0.length : Int) - 1))) = false := beq_eq_false_iff_ne.mpr c10; have c10b1 : (x5_1 != (wrap64 ((l0.length : Int) - 1))) = true := bne_iff_ne.mpr c10
        by_cases c16 : x3_1.length < 8796093022208
        ·
         rw [if_pos c16] at H; have LMc16 := zk c16; clear c16; obtain ⟨y266, hy266⟩ : ∃ y_ : List (S58), y_ = (x3_1 ++ [(⟨x5_1, wrap64 (x5_1 + 1)⟩ : S58)]) := ⟨_, rfl⟩
         replace H : (r08_Plan.l0 k1 l0 y266 t258 (wrap64 (x5_1 - 1))) = some r := by first | (rw [hy266]; with_reducible exact H) | (have H2_ := (Option.bind_some _ _).symm.trans H; rw [hy266]; with_reducible exact H2_) | (have H2_ := (Option.bind_some _ _).symm.trans H; with_reducible exact H2_) | with_reducible exact H | (rw [hy266]; exact H) | exact H
         have Ny266 := zk hy266; clear hy266; have H' := zk H; clear H; obtain ⟨Ao17, co17, eo17⟩ := Kd.R_slice HO_4.out; subst eo17; have p261 : 0 ≤ (x5_1 : Int) := zo (by assumption); have q261 : x5_1 < (t258.length : Int) := zo (by assumption); obtain ⟨ad261, e261, hx261_0⟩ := Kd.at_bool (Kd.R_reads' HO_4.out).2.2 x5_1 p261 q261
         (try rw [← Nbq7.out] at hx261_0)
         cases e261; replace p261 := eq_true p261; replace q261 := eq_true q261
         go_wp2_with (first | ((with_reducible refine gd (N := 6) rfl ?_); refine zb ?hg (N := 6) ?hd (cs := #[.int .i64 0, .int .i64 0]) (t := 58) ?hr ?_; (case hd => rfl); (case hg => rfl); (case hr => go_simp; first | done | rfl); intro gb262 hg w18 hbox hb; have n0_ := zk (Kd.R_below (Kd.R_elderB (by (with_reducible repeat (first | apply Kd.R_alloc | apply Kd.R_drewN | apply Kd.R_drew)); exact HO_3.out) gb262 (Nat.le_of_eq hg.symm)) hb); have n1_ := zk (Kd.R_below (by (with_reducible repeat (first | apply Kd.R_alloc | apply Kd.R_drewN | apply Kd.R_drew)); exact HO_4.out) hb); have n2_ := zk (zs (by with_reducible repeat first | exact HB.out | apply zA | apply zN | apply zD) hb); have n3_ := zk (hbox); have n4_ := zk ((by rw [hg]; exact (zq (by with_reducible repeat first | exact HB.out | apply zA | apply zN | apply zD)) : w.heap.size ≤ gb262)); have n5_ := n4_; clear HO_3; clear HO_4; clear HB; have HO_3 := n0_; have HO_4 := n1_; have HB := n2_; have BK262 := n3_; have GW262 := n4_; have GE262 := n5_; clear n0_ n1_ n2_ n3_ n4_ n5_; clear hb hbox hg; obtain ⟨hcz19_0, hcz19_1, hfz19_0, hfz19_1⟩ := zc2 BK262.out) | ((with_reducible refine gn (b := .append) (xs := #[.tmp 30, .tmp 32]) rfl ?_); at_builtin; refine Kd.R_append k58 (w0 := w) w.heap.size rfl (.tmp 30) (.tmp 32) 55 58 (.agg #[(.int .i64 0), (.int .i64 0)]) 16 rfl Try.underlying55 info58 rfl (by decide) (by omega) u3 x3_1 (⟨x5_1, wrap64 (x5_1 + 1)⟩ : S58) [.int .i64 x5_1, .int .i64 (wrap64 (x5_1 + 1))] (fun k_ => k_ ≠ gb262) (fun _ => False) rfl (by first | (go_simp; done) | (go_simp; rfl)) ?aP (fun _ hk => hk.elim) ?aF ?aO ?aB ?aS ?aL ?_; (case aP => exact k58_mkM _ _ _ (⟨x5_1, wrap64 (x5_1 + 1)⟩ : S58)); (case aB => exact (by with_reducible repeat first | exact HB.out | apply zA | apply zN | apply zD | refine zS ?_ GE262.out)); (case aF => exact (fun k_ hk => Kd.freshB (g := gb262) (o := .cells #[.int .i64 x5_1, .int .i64 (wrap64 (x5_1 + 1))] 58 (0, 0)) (by (with_reducible repeat first | apply zM | apply zE | apply zF); refine zP (cs := #[.int .i64 x5_1, .int .i64 0]) ?_ 1 _ rfl; (with_reducible repeat first | apply zM | apply zE | apply zF); refine zP (cs := #[.int .i64 0, .int .i64 0]) ?_ 0 _ rfl; (with_reducible repeat first | apply zM | apply zE | apply zF); exact BK262.out) k_ hk)); (case aO => exact (by (with_reducible repeat (first | apply Kd.R_alloc | apply Kd.R_drewN | apply Kd.R_drew)); exact Kd.R_mono (Kd.R_far (p := ⟨gb262, 1, none⟩) (Kd.R_far (p := ⟨gb262, 0, none⟩) (Kd.R_mono HO_3.out (fun k_ hk => (⟨hk, hk.2⟩ : _ ∧ k_ ≠ gb262))) (fun _ hk => hk.2) (.int .i64 x5_1)) (fun _ hk => hk.2) (.int .i64 (wrap64 (x5_1 + 1)))) (fun _ hk => hk.1.2))); (case aS => exact (zq (by with_reducible repeat first | exact HB.out | apply zA | apply zN | apply zD | refine zS ?_ GE262.out))); (case aL => have := LMc16.out; omega); intro v267 w20 ho hb hg hat; rw [← Ny266.out] at ho; have n0_ := zk (Kd.R_over' (by (with_reducible repeat (first | apply Kd.R_alloc | apply Kd.R_drewN | apply Kd.R_drew)); exact (Kd.R_mono (Kd.R_far (p := ⟨gb262, 1, none⟩) (Kd.R_far (p := ⟨gb262, 0, none⟩) (Kd.R_types HO_4.out BK262.out (by decide)) (fun _ hk => hk.2) (.int .i64 x5_1)) (fun _ hk => hk.2) (.int .i64 (wrap64 (x5_1 + 1)))) (fun _ h_ => h_.1))) (Kd.R_typed (by (with_reducible repeat (first | apply Kd.R_alloc | apply Kd.R_drewN | apply Kd.R_drew)); exact (Kd.R_mono (Kd.R_far (p := ⟨gb262, 1, none⟩) (Kd.R_far (p := ⟨gb262, 0, none⟩) (Kd.R_mono HO_3.out (fun k_ hk => (⟨hk, hk.2⟩ : _ ∧ k_ ≠ gb262))) (fun _ hk => hk.2) (.int .i64 x5_1)) (fun _ hk => hk.2) (.int .i64 (wrap64 (x5_1 + 1)))) (fun _ h_ => h_.1)))) (by decide) hg); have n1_ := zk (blk_grown (g := gb262) (o := .cells #[.int .i64 x5_1, .int .i64 (wrap64 (x5_1 + 1))] 58 (0, 0)) (by (with_reducible repeat first | apply zM | apply zE | apply zF); refine zP (cs := #[.int .i64 x5_1, .int .i64 0]) ?_ 1 _ rfl; (with_reducible repeat first | apply zM | apply zE | apply zF); refine zP (cs := #[.int .i64 0, .int .i64 0]) ?_ 0 _ rfl; (with_reducible repeat first | apply zM | apply zE | apply zF); exact BK262.out) hg (Kd.R_away HO_3.out (fun _ hk => hk.2))); have n2_ := zk (hb); have n3_ := zk (ho); clear HO_4; clear BK262; clear HB; clear HO_3; have HO_4 := n0_; have BK262 := n1_; have HB := n2_; have HO268 := n3_; clear n0_ n1_ n2_ n3_; clear ho hb hg hat))
         go_roundg k1
         case measure => have := HK1.out; omega
         case rel => exact ⟨(y266), (wrap64 (x5_1 - 1)), (by first | rfl | (simp; done) | (simp [*]; done)), H', ⟨by have := HK1.out; omega⟩, ⟨by (with_reducible repeat (first | apply Kd.R_alloc | apply Kd.R_drewN | apply Kd.R_drew)); exact Kd.R_mono HO268.out (fun _ hk => trivial)⟩, ⟨by (with_reducible repeat (first | apply Kd.R_alloc | apply Kd.R_drewN | apply Kd.R_drew)); exact HO_4.out⟩, ⟨by with_reducible repeat first | exact HB.out | apply zA | apply zN | apply zD | refine zS ?_ GE262.out⟩⟩
        ·
         rw [if_neg c16] at H; exact absurd H (by simp)
     ·
      rw [if_neg c6] at H; exact absurd H (by simp)
    ·
     rw [if_neg c5] at H; exact absurd H (by simp)
   ·
    rw [if_neg c4] at H; have c4b0 : decide (0 ≤ x5_1) = false := decide_eq_false c4; clear c4; obtain rfl := Option.some.inj H; go_wp2; go_ret; exact ⟨_, by first | rfl | (simp [wN, wS] <;> rfl) | (simp [*, wN, wS] <;> rfl), by (with_reducible repeat (first | apply Kd.R_alloc | apply Kd.R_drewN | apply Kd.R_drew)); exact HO_3.out, by with_reducible repeat first | exact HB.out | apply zA | apply zN | apply zD⟩
open List renaming setIfInBounds_toArray → zt, set_cons_zero → zu, set_cons_succ → zv
open Bool renaming true → T, false → F
def r32_Steps.l0 : Nat → List Int → List (S58) → List (S38) → Int → Int → Option ((List (S38)))
 | 0, _, _, _, _, _ => none
 | k + 1, x5, x6, x7, x15, x16 => if x16 < x15 then (if 0 ≤ x16 then (if x16 < (x6.length : Int) then (if 0 ≤ ((rd_T58 x6 x16).f0) then (if ((rd_T58 x6 x16).f0) < (x5.length : Int) then (if x7.length < 5864062014805 then (r32_Steps.l0 k x5 x6 (x7 ++ [(⟨(rd_T58 x6 x16).f0, rd x5 ((rd_T58 x6 x16).f0), (rd_T58 x6 x16).f1⟩ : S38)]) x15 (wrap64 (x16 + 1))) else (none)) else (none)) else (none)) else (none)) else (none)) else (some x7)
def r32_Steps.f (k : Nat) (l0 : List (S50)) (l1 : List (S50)) : Option ((List (S38))) := (r12_Kept.f k l0 l1).bind fun t269 => ((r08_Plan.f k t269).bind fun t272 => (r32_Steps.l0 k t269 t272 ([] : List (S38)) (t272.length : Int) 0))
def r32_Steps.T7 : Bool × List (List Nat × List Nat) := (true, [([], []), ([], []), ([], []), ([1, 2], [1, 2]), ([3], [3]), ([4], [4]), ([], []), ([], []), ([], []), ([7, 8], [7, 8]), ([9], [9]), ([10], [10]), ([6, 11], [6, 11]), ([12], [12]), ([], []), ([], []), ([14, 15], [14, 15]), ([16], [16]), ([17], [17]), ([5, 13, 18], [5, 13, 18]), ([19], [19]), ([0, 20], [0, 20]), ([21, 21, 0, 1, 2, 3, 4, 5, 6, 7, 8, 9, 10, 11, 12, 13, 14, 15, 16, 17, 18, 19, 20, 21], [0, 21])])
def r32_Steps.B7 : List Nat := [0, 0, 0, 6, 14, 30, 0, 0, 0, 384, 896, 1920, 4032, 8128, 0, 0, 49152, 114688, 245760, 524286, 1048574, 2097151, 4194303]
theorem r32_Steps.tab7 : rtab .any (opsOf Try.f14 7) = r32_Steps.T7 := by kernel_rfl
theorem r32_Steps.bits7 : waitsOk r32_Steps.T7.2 r32_Steps.B7 = true := by kernel_rfl
set_option maxHeartbeats 8000000 in
set_option maxRecDepth 100000 in
theorem r32_Steps.calls (k : Nat) (A0 : Option Addr) (c0 : Nat) (l0 : List (S50)) (A1 : Option Addr) (c1 : Nat) (l1 : List (S50)) (r : List (S38)) (w : World) (hr0 : Kd.C k50 w A0 l0.length l0) (hc0 : l0.length ≤ c0) (hr1 : Kd.C k50 w A1 l1.length l1) (hc1 : l1.length ≤ c1) (h : r32_Steps.f k l0 l1 = some r) :
  Calls Try.prog 14 #[.slice A0 l0.length c0, .slice A1 l1.length c1] w fun e w' => ∃ v0_ : Value, e = .returned (v0_) ∧ Kd.R k38 38 w' w.heap.size (fun _ => True) v0_ r ∧ Below w.heap.size w w' := by
 have hu38 := Try.underlying38
 have HR0 := zk hr0
 have HC0 := zk hc0
 clear hr0 hc0
 have HR1 := zk hr1
 have HC1 := zk hc1
 clear hr1 hc1
 have HB := zk (Below.refl w.heap.size w)
 have H : ((r12_Kept.f k l0 l1).bind fun t269 => ((r08_Plan.f k t269).bind fun t272 => (r32_Steps.l0 k t269 t272 ([] : List (S38)) (t272.length : Int) 0))) = some r := h
 clear h
 replace H := Option.bind_eq_some_iff.mp H
 obtain ⟨t269, A30, H⟩ := H
 replace H : ((r08_Plan.f k t269).bind fun t272 => (r32_Steps.l0 k t269 t272 ([] : List (S38)) (t272.length : Int) 0)) = some r := H
 have A3 := zk A30
 clear A30
 replace H := Option.bind_eq_some_iff.mp H
 obtain ⟨t272, A40, H⟩ := H
 replace H : (r32_Steps.l0 k t269 t272 ([] : List (S38)) (t272.length : Int) 0) = some r := H
 have A4 := zk A40
 clear A40
 have H' := zk H
 clear H
 go_enter Try.func14, Try.ntmps14
 go_wp2_with (first | ((with_reducible refine gk (f := 16) rfl ?_); refine gl (some 11) rfl rfl Try.func16 (by kernel_rfl) rfl #[.slice A0 l0.length c0, .slice A1 l1.length c1] rfl (by (try simp only [List.map_toArray, List.map_cons, List.map_nil]); first | done | rfl | (simp only [List.length_drop, List.length_take]; rfl)) ?_; (with_reducible refine (r12_Kept.calls k _ _ l0 _ _ l1 t269 _ ?side1 ?side2 ?side3 ?side4 A3.out).mono ?_); (case side1 => repeat (first | exact HR0.out | (with_reducible refine Kd.C_alloc ?_ _) | (with_reducible refine Kd.C_drewN ?_ _) | (with_reducible refine Kd.C_drew ?_))); (case side2 => exact HC0.out); (case side3 => repeat (first | exact HR1.out | (with_reducible refine Kd.C_alloc ?_ _) | (with_reducible refine Kd.C_drewN ?_ _) | (with_reducible refine Kd.C_drew ?_))); (case side4 => exact HC1.out); rintro e w5 ⟨v270, rfl, ho0, hb⟩; refine ⟨_, rfl, ?_⟩; have n0_ := zk (Kd.R_lower ho0 (zq (by with_reducible repeat first | exact HB.out | apply zA | apply zN | apply zD))); have n1_ := zk (zs (by with_reducible repeat first | exact HB.out | apply zA | apply zN | apply zD) hb); clear HB; have HO271 := n0_; have HB := n1_; clear n0_ n1_; (try clear hb); (try clear hb2); (try clear hk); (try clear hi); (try clear ho0); obtain ⟨Ao6, co6, eo6⟩ := Kd.R_slice HO271.out; subst eo6) | ((with_reducible refine gk (f := 27) rfl ?_); refine gl (some 13) rfl rfl Try.func27 (by kernel_rfl) rfl #[.slice Ao6 t269.length co6] rfl (by (try simp only [List.map_toArray, List.map_cons, List.map_nil]); first | done | rfl | (simp only [List.length_drop, List.length_take]; rfl)) ?_; (with_reducible refine (r08_Plan.calls k _ _ t269 t272 _ ?side1 ?side2 A4.out).mono ?_); (case side1 => repeat (first | exact (Kd.R_reads' HO271.out).2.2 | (with_reducible refine Kd.C_alloc ?_ _) | (with_reducible refine Kd.C_drewN ?_ _) | (with_reducible refine Kd.C_drew ?_))); (case side2 => exact (Kd.R_reads' HO271.out).2.1); rintro e w7 ⟨v273, rfl, ho0, hb⟩; refine ⟨_, rfl, ?_⟩; have n0_ := zk (Kd.R_below (by (with_reducible repeat (first | apply Kd.R_alloc | apply Kd.R_drewN | apply Kd.R_drew)); exact HO271.out) hb); have n1_ := zk (Kd.R_lower ho0 (zq (by with_reducible repeat first | exact HB.out | apply zA | apply zN | apply zD))); have n2_ := zk (zs (by with_reducible repeat first | exact HB.out | apply zA | apply zN | apply zD) hb); clear HO271; clear HB; have HO271 := n0_; have HO274 := n1_; have HB := n2_; clear n0_ n1_ n2_; (try clear hb); (try clear hb2); (try clear hk); (try clear hi); (try clear ho0); obtain ⟨Ao8, co8, eo8⟩ := Kd.R_slice HO274.out; subst eo8))
 go_loopg [7, 16] k (fun kq v7 v16 w' => ∃ (x7_1 : List (S38)) (x16_1 : Int), v16 = .int .i64 x16_1 ∧ Aside0 (r32_Steps.l0 kq t269 t272 x7_1 (t272.length : Int) x16_1 = some r) ∧ Aside0 (kq ≤ k) ∧ Aside0 (Kd.R (Kd.int .i64) 3 w' w.heap.size (fun _ => True) (.slice Ao6 t269.length co6) t269) ∧ Aside0 (Kd.R k58 58 w' w.heap.size (fun _ => True) (.slice Ao8 t272.length co8) t272) ∧ Aside0 (Kd.R k38 38 w' w.heap.size (fun _ => True) v7 x7_1) ∧ Aside0 (Below w.heap.size w w'))
 case atStart => exact ⟨(([] : List (S38))), (0), (by first | rfl | (simp; done) | (simp [*]; done)), H', ⟨Nat.le_refl _⟩, ⟨by (with_reducible repeat (first | apply Kd.R_alloc | apply Kd.R_drewN | apply Kd.R_drew)); exact HO271.out⟩, ⟨by (with_reducible repeat (first | apply Kd.R_alloc | apply Kd.R_drewN | apply Kd.R_drew)); exact HO274.out⟩, ⟨by first | exact Kd.R_nil _ _ _ _ _ | exact Kd.N_nil _ _ _ _ _ | exact Kd.V_nil _ _ _ _ _ | exact Kd.Q_nil _ _ _ _ _ | exact Kd.S_nil _ _ _ _ _⟩, ⟨by with_reducible repeat first | exact HB.out | apply zA | apply zN | apply zD⟩⟩
 case round =>
  clear H'; (try clear c1); (try clear c2); (try clear p2); obtain ⟨x7_1, x16_1, rfl, HA, HK1, HO_5, HO_6, HO_7, HB⟩ := hrel
  cases gk with
  | zero => exact absurd HA.out (by simp [r32_Steps.l0])
  | succ k1 =>
   have H := HA.out; clear HA; simp only [r32_Steps.l0] at H
   by_cases c9 : x16_1 < (t272.length : Int)
   ·
    rw [if_pos c9] at H; have c9b0 := decide_eq_true c9; clear c9
    by_cases c10 : 0 ≤ x16_1
    ·
     rw [if_pos c10] at H; have c10b0 : decide (0 ≤ x16_1) = true := decide_eq_true c10; clear c10
     by_cases c11 : x16_1 < (t272.length : Int)
     ·
      rw [if_pos c11] at H; have c11b0 := decide_eq_true c11; clear c11
      by_cases c12 : 0 ≤ ((rd_T58 t272 x16_1).f0)
      ·
       rw [if_pos c12] at H; have c12b0 := decide_eq_true c12; clear c12
       by_cases c13 : ((rd_T58 t272 x16_1).f0) < (t269.length : Int)
       ·
        rw [if_pos c13] at H; have c13b0 := decide_eq_true c13; clear c13
        by_cases c14 : x7_1.length < 5864062014805
        ·
         rw [if_pos c14] at H; have LMc14 := zk c14; clear c14; obtain ⟨y279, hy279⟩ : ∃ y_ : List (S38), y_ = (x7_1 ++ [(⟨(rd_T58 t272 x16_1).f0, rd t269 ((rd_T58 t272 x16_1).f0), (rd_T58 t272 x16_1).f1⟩ : S38)]) := ⟨_, rfl⟩
         replace H : (r32_Steps.l0 k1 t269 t272 y279 (t272.length : Int) (wrap64 (x16_1 + 1))) = some r := by first | (rw [hy279]; with_reducible exact H) | (have H2_ := (Option.bind_some _ _).symm.trans H; rw [hy279]; with_reducible exact H2_) | (have H2_ := (Option.bind_some _ _).symm.trans H; with_reducible exact H2_) | with_reducible exact H | (rw [hy279]; exact H) | exact H
         have Ny279 := zk hy279; clear hy279; have H' := zk H; clear H
         try go_wp2
         have n0_ := zk (Kd.R_drew HO_5.out); have n1_ := zk (Kd.R_drew HO_6.out); have n2_ := zk (Kd.R_drew HO_7.out); have n3_ := zk (zD HB.out); clear HO_5; clear HO_6; clear HO_7; clear HB; have HO_5 := n0_; have HO_6 := n1_; have HO_7 := n2_; have HB := n3_; clear n0_ n1_ n2_ n3_; have p275 : 0 ≤ (x16_1 : Int) := zo (by assumption); have q275 : x16_1 < (t272.length : Int) := zo (by assumption); obtain ⟨ad275, e275, hx275_0, hx275_1⟩ := at_T58 (Kd.R_reads' HO_6.out).2.2 x16_1 p275 q275; cases e275; replace p275 := eq_true p275; replace q275 := eq_true q275; have p276 : 0 ≤ (x16_1 : Int) := zo (by assumption); have q276 : x16_1 < (t272.length : Int) := zo (by assumption); obtain ⟨ad276, e276, hx276_0, hx276_1⟩ := at_T58 (Kd.R_reads' HO_6.out).2.2 x16_1 p276 q276; obtain rfl : ad275 = ad276 := (by injection e276); replace p276 := eq_true p276; replace q276 := eq_true q276; have p277 : 0 ≤ (((rd_T58 t272 x16_1).f0) : Int) := zo (by assumption); have q277 : ((rd_T58 t272 x16_1).f0) < (t269.length : Int) := zo (by assumption); obtain ⟨ad277, e277, hx277_0⟩ := Kd.at_int (Kd.R_reads' HO_5.out).2.2 ((rd_T58 t272 x16_1).f0) p277 q277; cases e277; replace p277 := eq_true p277; replace q277 := eq_true q277; have p278 : 0 ≤ (x16_1 : Int) := zo (by assumption); have q278 : x16_1 < (t272.length : Int) := zo (by assumption); obtain ⟨ad278, e278, hx278_0, hx278_1⟩ := at_T58 (Kd.R_reads' HO_6.out).2.2 x16_1 p278 q278; obtain rfl : ad275 = ad278 := (by injection e278); replace p278 := eq_true p278; replace q278 := eq_true q278; refine start_ (n := 23) (S := fun w' => w'.cell? (ad275.add ((x16_1).toNat * 2)) = some (.int .i64 ((rd_T58 t272 x16_1).f0)) ∧ w'.cell? ⟨(ad275.add ((x16_1).toNat * 2)).block, (ad275.add ((x16_1).toNat * 2)).off + 1, none⟩ = some (.int .i64 ((rd_T58 t272 x16_1).f1)) ∧ w'.cell? (ad275.add ((x16_1).toNat * 2)) = some (.int .i64 ((rd_T58 t272 x16_1).f0)) ∧ w'.cell? ⟨(ad275.add ((x16_1).toNat * 2)).block, (ad275.add ((x16_1).toNat * 2)).off + 1, none⟩ = some (.int .i64 ((rd_T58 t272 x16_1).f1)) ∧ w'.cell? (ad277.add (((rd_T58 t272 x16_1).f0)).toNat) = some (.int .i64 (rd t269 ((rd_T58 t272 x16_1).f0))) ∧ w'.cell? (ad275.add ((x16_1).toNat * 2)) = some (.int .i64 ((rd_T58 t272 x16_1).f0)) ∧ w'.cell? ⟨(ad275.add ((x16_1).toNat * 2)).block, (ad275.add ((x16_1).toNat * 2)).off + 1, none⟩ = some (.int .i64 ((rd_T58 t272 x16_1).f1))) (ds := [20, 21]) #[F,F,F,F,F,F,F,F,F,F,F,F,F,F,F,F,F,F,F,F,F,F,F] (by kernel_rfl) rfl rfl ⟨hx275_0, hx275_1, hx276_0, hx276_1, hx277_0, hx278_0, hx278_1⟩ (fun hHeld => ?_); refine with_tabW r32_Steps.tab7 r32_Steps.bits7 (fun HT_ HW_ => ?_); generalize wr.drew = w15 at HO_5 HO_6 HO_7 HB hx275_0 hx275_1 hx276_0 hx276_1 hx277_0 hx278_0 hx278_1 hHeld ⊢; refine pure_ (i := 0) (N := some 19) (v := ?_) (a' := ?_) #[T,F,F,F,F,F,F,F,F,F,F,F,F,F,F,F,F,F,F,F,F,F,F] rfl rfl (any_of HT_.out (by kernel_rfl)) (fun _ _ _ h => h) (Or.inl ⟨by rfl, ?_⟩) ?_ ?_; rotate_left; (intro w'; go_simp; (with_reducible rfl)); rotate_left; (simp only [Act.put, zt, zu, zv, i64_w, i32_w]; rfl); refine pure_ (i := 1) (N := some 20) (v := ?_) (a' := ?_) #[T,T,F,F,F,F,F,F,F,F,F,F,F,F,F,F,F,F,F,F,F,F,F] rfl rfl (any_of HT_.out (by kernel_rfl)) (fun _ _ _ h => h) (Or.inl ⟨by rfl, ?_⟩) ?_ ?_; rotate_left; (intro w'; go_simp; (with_reducible rfl)); rotate_left; (simp only [Act.put, zt, zu, zv, i64_w, i32_w]; rfl); refine pure_ (i := 2) (N := some 21) (v := ?_) (a' := ?_) #[T,T,T,F,F,F,F,F,F,F,F,F,F,F,F,F,F,F,F,F,F,F,F] rfl rfl (any_of HT_.out (by kernel_rfl)) (fun _ _ _ h => h) (Or.inl ⟨by rfl, ?_⟩) ?_ ?_; rotate_left; (intro w'; go_simp; (with_reducible rfl)); rotate_left; (simp only [Act.put, zt, zu, zv, i64_w, i32_w]; rfl); refine pure_ (i := 3) (N := some 22) (v := ?_) (a' := ?_) #[T,T,T,T,F,F,F,F,F,F,F,F,F,F,F,F,F,F,F,F,F,F,F] rfl rfl (any_of HT_.out (by kernel_rfl)) (fun _ _ _ h => h) (Or.inl ⟨by rfl, ?_⟩) ?_ ?_; rotate_left; (intro w'; go_simp; (with_reducible rfl)); rotate_left; (simp only [Act.put, zt, zu, zv, i64_w, i32_w]; rfl); refine pure_ (i := 4) (N := some 23) (v := ?_) (a' := ?_) #[T,T,T,T,T,F,F,F,F,F,F,F,F,F,F,F,F,F,F,F,F,F,F] rfl rfl (any_of HT_.out (by kernel_rfl)) (fun _ _ _ h => h) (Or.inl ⟨by rfl, ?_⟩) ?_ ?_; rotate_left; (intro w'; go_simp; (with_reducible rfl)); rotate_left; (simp only [Act.put, zt, zu, zv, i64_w, i32_w]; rfl); refine pure_ (i := 6) (N := some 25) (v := ?_) (a' := ?_) #[T,T,T,T,T,F,T,F,F,F,F,F,F,F,F,F,F,F,F,F,F,F,F] rfl rfl (any_of HT_.out (by kernel_rfl)) (fun _ _ _ h => h) (Or.inl ⟨by rfl, ?_⟩) ?_ ?_; rotate_left; (intro w'; go_simp; (with_reducible rfl)); rotate_left; (simp only [Act.put, zt, zu, zv, i64_w, i32_w]; rfl); refine pure_ (i := 7) (N := some 26) (v := ?_) (a' := ?_) #[T,T,T,T,T,F,T,T,F,F,F,F,F,F,F,F,F,F,F,F,F,F,F] rfl rfl (any_of HT_.out (by kernel_rfl)) (fun _ _ _ h => h) (Or.inl ⟨by rfl, ?_⟩) ?_ ?_; rotate_left; (intro w'; go_simp; (with_reducible rfl)); rotate_left; (simp only [Act.put, zt, zu, zv, i64_w, i32_w]; rfl); refine pure_ (i := 8) (N := some 27) (v := ?_) (a' := ?_) #[T,T,T,T,T,F,T,T,T,F,F,F,F,F,F,F,F,F,F,F,F,F,F] rfl rfl (any_of HT_.out (by kernel_rfl)) (fun _ _ _ h => h) (Or.inl ⟨by rfl, ?_⟩) ?_ ?_; rotate_left; (intro w'; go_simp; (with_reducible rfl)); rotate_left; (simp only [Act.put, zt, zu, zv, i64_w, i32_w]; rfl); refine pure_ (i := 9) (N := some 28) (v := ?_) (a' := ?_) #[T,T,T,T,T,F,T,T,T,T,F,F,F,F,F,F,F,F,F,F,F,F,F] rfl rfl (any_of HT_.out (by kernel_rfl)) (fun _ _ _ h => h) (Or.inl ⟨by rfl, ?_⟩) ?_ ?_; rotate_left; (intro w'; go_simp; (with_reducible rfl)); rotate_left; (simp only [Act.put, zt, zu, zv, i64_w, i32_w]; rfl); refine pure_ (i := 10) (N := some 29) (v := ?_) (a' := ?_) #[T,T,T,T,T,F,T,T,T,T,T,F,F,F,F,F,F,F,F,F,F,F,F] rfl rfl (any_of HT_.out (by kernel_rfl)) (fun _ _ _ h => h) (Or.inl ⟨by rfl, ?_⟩) ?_ ?_; rotate_left; (intro w'; go_simp; (with_reducible rfl)); rotate_left; (simp only [Act.put, zt, zu, zv, i64_w, i32_w]; rfl); refine pure_ (i := 14) (N := some 33) (v := ?_) (a' := ?_) #[T,T,T,T,T,F,T,T,T,T,T,F,F,F,T,F,F,F,F,F,F,F,F] rfl rfl (any_of HT_.out (by kernel_rfl)) (fun _ _ _ h => h) (Or.inl ⟨by rfl, ?_⟩) ?_ ?_; rotate_left; (intro w'; go_simp; (with_reducible rfl)); rotate_left; (simp only [Act.put, zt, zu, zv, i64_w, i32_w]; rfl); refine pure_ (i := 15) (N := some 34) (v := ?_) (a' := ?_) #[T,T,T,T,T,F,T,T,T,T,T,F,F,F,T,T,F,F,F,F,F,F,F] rfl rfl (any_of HT_.out (by kernel_rfl)) (fun _ _ _ h => h) (Or.inl ⟨by rfl, ?_⟩) ?_ ?_; rotate_left; (intro w'; go_simp; (with_reducible rfl)); rotate_left; (simp only [Act.put, zt, zu, zv, i64_w, i32_w]; rfl); refine pure_ (i := 16) (N := some 35) (v := ?_) (a' := ?_) #[T,T,T,T,T,F,T,T,T,T,T,F,F,F,T,T,T,F,F,F,F,F,F] rfl rfl (any_of HT_.out (by kernel_rfl)) (fun _ _ _ h => h) (Or.inl ⟨by rfl, ?_⟩) ?_ ?_; rotate_left; (intro w'; go_simp; (with_reducible rfl)); rotate_left; (simp only [Act.put, zt, zu, zv, i64_w, i32_w]; rfl); refine pure_ (i := 17) (N := some 36) (v := ?_) (a' := ?_) #[T,T,T,T,T,F,T,T,T,T,T,F,F,F,T,T,T,T,F,F,F,F,F] rfl rfl (any_of HT_.out (by kernel_rfl)) (fun _ _ _ h => h) (Or.inl ⟨by rfl, ?_⟩) ?_ ?_; rotate_left; (intro w'; go_simp; (with_reducible rfl)); rotate_left; (simp only [Act.put, zt, zu, zv, i64_w, i32_w]; rfl); refine take_ (i := 5) (N := some 24) (v := ?_) (a' := ?_) #[T,T,T,T,T,T,T,T,T,T,T,F,F,F,T,T,T,T,F,F,F,F,F] rfl rfl (take_ofW HT_.out HW_.out (by kernel_rfl)) (fun _ _ _ h => h) (Or.inl ⟨by rfl, ?_⟩) hHeld ?_ ?_; rotate_left; (rintro w' ⟨s0, s1, s2, s3, s4, s5, s6⟩; go_simp; (with_reducible rfl)); rotate_left; (simp only [Act.put, zt, zu, zv, i64_w, i32_w]; rfl); refine take_ (i := 11) (N := some 30) (v := ?_) (a' := ?_) #[T,T,T,T,T,T,T,T,T,T,T,T,F,F,T,T,T,T,F,F,F,F,F] rfl rfl (take_ofW HT_.out HW_.out (by kernel_rfl)) (fun _ _ _ h => h) (Or.inl ⟨by rfl, ?_⟩) hHeld ?_ ?_; rotate_left; (rintro w' ⟨s0, s1, s2, s3, s4, s5, s6⟩; go_simp; (with_reducible rfl)); rotate_left; (simp only [Act.put, zt, zu, zv, i64_w, i32_w]; rfl); refine pure_ (i := 12) (N := some 31) (v := ?_) (a' := ?_) #[T,T,T,T,T,T,T,T,T,T,T,T,T,F,T,T,T,T,F,F,F,F,F] rfl rfl (any_of HT_.out (by kernel_rfl)) (fun _ _ _ h => h) (Or.inl ⟨by rfl, ?_⟩) ?_ ?_; rotate_left; (intro w'; go_simp; (with_reducible rfl)); rotate_left; (simp only [Act.put, zt, zu, zv, i64_w, i32_w]; rfl); refine take_ (i := 13) (N := some 32) (v := ?_) (a' := ?_) #[T,T,T,T,T,T,T,T,T,T,T,T,T,T,T,T,T,T,F,F,F,F,F] rfl rfl (take_ofW HT_.out HW_.out (by kernel_rfl)) (fun _ _ _ h => h) (Or.inl ⟨by rfl, ?_⟩) hHeld ?_ ?_; rotate_left; (rintro w' ⟨s0, s1, s2, s3, s4, s5, s6⟩; go_simp; (with_reducible rfl)); rotate_left; (simp only [Act.put, zt, zu, zv, i64_w, i32_w]; rfl); refine take_ (i := 18) (N := some 37) (v := ?_) (a' := ?_) #[T,T,T,T,T,T,T,T,T,T,T,T,T,T,T,T,T,T,T,F,F,F,F] rfl rfl (take_ofW HT_.out HW_.out (by kernel_rfl)) (fun _ _ _ h => h) (Or.inl ⟨by rfl, ?_⟩) hHeld ?_ ?_; rotate_left; (rintro w' ⟨s0, s1, s2, s3, s4, s5, s6⟩; go_simp; (with_reducible rfl)); rotate_left; (simp only [Act.put, zt, zu, zv, i64_w, i32_w]; rfl); refine pure_ (i := 19) (N := some 38) (v := ?_) (a' := ?_) #[T,T,T,T,T,T,T,T,T,T,T,T,T,T,T,T,T,T,T,T,F,F,F] rfl rfl (any_of HT_.out (by kernel_rfl)) (fun _ _ _ h => h) (Or.inl ⟨by rfl, ?_⟩) ?_ ?_; rotate_left; (intro w'; go_simp; (with_reducible rfl)); rotate_left; (simp only [Act.put, zt, zu, zv, i64_w, i32_w]; rfl); refine last_ (i := 20) (N := some 39) #[T,T,T,T,T,T,T,T,T,T,T,T,T,T,T,T,T,T,T,T,T,F,F] rfl rfl (one_of HT_.out (by kernel_rfl)) (by decide) (fun K hK => ?_); refine value_ (w1 := ?_) (v := ?_) (by rfl) rfl ?_ ?_; rotate_left 2
         ·
          go_simp; constructor; (rfl); (rfl)
         refine hK.out _ _ ?_; clear hK K; refine norm_ (a' := ?_) ?_ ?_; rotate_left
         ·
          show Act.put _ (some 39) _ = _
          simp only [Act.put, zt, zu, zv, i64_w, i32_w]; rfl
         refine last_ (i := 21) (N := some 40) #[T,T,T,T,T,T,T,T,T,T,T,T,T,T,T,T,T,T,T,T,T,T,F] rfl rfl (one_of HT_.out (by kernel_rfl)) (by decide) (fun K hK => ?_); refine Kd.R_append_step k38 (w0 := w) w.heap.size (by rfl) (.tmp 19) (.tmp 39) 34 38 (.agg #[(.int .i64 0), (.int .i64 0), (.int .i64 0)]) 24 rfl Try.underlying34 info38 rfl (by decide) (by omega) u7 x7_1 (⟨(rd_T58 t272 x16_1).f0, rd t269 ((rd_T58 t272 x16_1).f0), (rd_T58 t272 x16_1).f1⟩ : S38) [.int .i64 ((rd_T58 t272 x16_1).f0), .int .i64 (rd t269 ((rd_T58 t272 x16_1).f0)), .int .i64 ((rd_T58 t272 x16_1).f1)] (fun _ => True) (fun _ => False) rfl rfl ?aP (fun _ hk => hk.elim) ?aF ?aO ?aB ?aS ?aL ?_
         (case aP => exact k38_mkM _ _ _ (⟨(rd_T58 t272 x16_1).f0, rd t269 ((rd_T58 t272 x16_1).f0), (rd_T58 t272 x16_1).f1⟩ : S38))
         (case aB => exact (by with_reducible repeat first | exact HB.out | apply zA | apply zN | apply zD))
         (case aF => exact (fun _ _ => trivial))
         (case aO => exact (by (with_reducible repeat (first | apply Kd.R_alloc | apply Kd.R_drewN | apply Kd.R_drew)); exact HO_7.out))
         (case aS => exact (zq (by with_reducible repeat first | exact HB.out | apply zA | apply zN | apply zD)))
         (case aL => have := LMc14.out; omega)
         intro v280 w16 ho hb hg hat; rw [← Ny279.out] at ho; have n0_ := zk (Kd.R_over' (by (with_reducible repeat (first | apply Kd.R_alloc | apply Kd.R_drewN | apply Kd.R_drew)); exact HO_5.out) (Kd.R_typed (by (with_reducible repeat (first | apply Kd.R_alloc | apply Kd.R_drewN | apply Kd.R_drew)); exact HO_7.out)) (by decide) hg); have n1_ := zk (Kd.R_over' (by (with_reducible repeat (first | apply Kd.R_alloc | apply Kd.R_drewN | apply Kd.R_drew)); exact HO_6.out) (Kd.R_typed (by (with_reducible repeat (first | apply Kd.R_alloc | apply Kd.R_drewN | apply Kd.R_drew)); exact HO_7.out)) (by decide) hg); have n2_ := zk (hb); have n3_ := zk (ho); clear HO_5; clear HO_6; clear HB; clear HO_7; have HO_5 := n0_; have HO_6 := n1_; have HB := n2_; have HO281 := n3_; clear n0_ n1_ n2_ n3_; clear ho hb hg hat; refine hK.out _ _ ?_; clear hK K; refine norm_ (a' := ?_) ?_ ?_; rotate_left
         ·
          show Act.put _ (some 40) _ = _
          simp only [Act.put, zt, zu, zv, i64_w, i32_w]; rfl
         refine pure_ (i := 22) (N := some 7) (v := ?_) (a' := ?_) #[T,T,T,T,T,T,T,T,T,T,T,T,T,T,T,T,T,T,T,T,T,T,T] rfl rfl (any_of HT_.out (by kernel_rfl)) (fun _ _ _ h => h) (Or.inl ⟨by rfl, ?_⟩) ?_ ?_; rotate_left; (intro w'; go_simp; (with_reducible rfl)); rotate_left; (simp only [Act.put, zt, zu, zv, i64_w, i32_w]; rfl); refine done_ (done_of HT_.out (by kernel_rfl)) ?_
         try go_wp2
         go_roundg k1
         case measure => have := HK1.out; omega
         case rel => exact ⟨(y279), (wrap64 (x16_1 + 1)), (by first | rfl | (simp; done) | (simp [*]; done)), H', ⟨by have := HK1.out; omega⟩, ⟨by (with_reducible repeat (first | apply Kd.R_alloc | apply Kd.R_drewN | apply Kd.R_drew)); exact HO_5.out⟩, ⟨by (with_reducible repeat (first | apply Kd.R_alloc | apply Kd.R_drewN | apply Kd.R_drew)); exact HO_6.out⟩, ⟨by (with_reducible repeat (first | apply Kd.R_alloc | apply Kd.R_drewN | apply Kd.R_drew)); exact HO281.out⟩, ⟨by with_reducible repeat first | exact HB.out | apply zA | apply zN | apply zD⟩⟩
        ·
         rw [if_neg c14] at H; exact absurd H (by simp)
       ·
        rw [if_neg c13] at H; exact absurd H (by simp)
      ·
       rw [if_neg c12] at H; exact absurd H (by simp)
     ·
      rw [if_neg c11] at H; exact absurd H (by simp)
    ·
     rw [if_neg c10] at H; exact absurd H (by simp)
   ·
    rw [if_neg c9] at H; have c9b0 := decide_eq_false c9; clear c9; obtain rfl := Option.some.inj H; go_wp2; go_ret; exact ⟨_, by first | rfl | (simp [wN, wS] <;> rfl) | (simp [*, wN, wS] <;> rfl), by (with_reducible repeat (first | apply Kd.R_alloc | apply Kd.R_drewN | apply Kd.R_drew)); exact HO_7.out, by with_reducible repeat first | exact HB.out | apply zA | apply zN | apply zD⟩
def r32_Drop.l0 : Nat → List (S50) → List (S50) → List Int → Int → Int → Option (List Int)
  | 0, _, _, _, _, _ => none
  | k + 1, x0, x1, x5, x8, x9 => if x9 < x8 then (if 0 ≤ x9 then (if x9 < (x0.length : Int) then ((r12_Find.f k x1 ((rd_T50 x0 x9).f0) ((rd_T50 x0 x9).f1) ((rd_T50 x0 x9).f2)).bind fun t283 => (if t283 < 0 then (if x5.length < 17592186044416 then (r32_Drop.l0 k x0 x1 (x5 ++ [x9]) x8 (wrap64 (x9 + 1))) else (none)) else (r32_Drop.l0 k x0 x1 x5 x8 (wrap64 (x9 + 1))))) else (none)) else (none)) else (some x5)
def r32_Drop.f (k : Nat) (l0 : List (S50)) (l1 : List (S50)) : Option (List Int) := r32_Drop.l0 k l0 l1 ([] : List Int) (l0.length : Int) 0
set_option maxHeartbeats 8000000 in
set_option maxRecDepth 100000 in
theorem r32_Drop.calls (k : Nat) (A0 : Option Addr) (c0 : Nat) (l0 : List (S50)) (A1 : Option Addr) (c1 : Nat) (l1 : List (S50)) (r : List Int) (w : World) (hr0 : Kd.C k50 w A0 l0.length l0) (hc0 : l0.length ≤ c0) (hr1 : Kd.C k50 w A1 l1.length l1) (hc1 : l1.length ≤ c1) (h : r32_Drop.f k l0 l1 = some r) :
    Calls Try.prog 17 #[.slice A0 l0.length c0, .slice A1 l1.length c1] w fun e w' => ∃ v0_ : Value, e = .returned (v0_) ∧ Kd.R (Kd.int .i64) 3 w' w.heap.size (fun _ => True) v0_ r ∧ Below w.heap.size w w' := by
  have hu50 := Try.underlying50; have HR0 := zk hr0; have HC0 := zk hc0; clear hr0 hc0; have HR1 := zk hr1; have HC1 := zk hc1; clear hr1 hc1; have HB := zk (Below.refl w.heap.size w); have H : (r32_Drop.l0 k l0 l1 ([] : List Int) (l0.length : Int) 0) = some r := h; clear h; have H' := zk H; clear H
  go_enter Try.func17, Try.ntmps17
  go_wp2
  go_loopg [5, 9] k (fun kq v5 v9 w' => ∃ (x5_1 : List Int) (x9_1 : Int), v9 = .int .i64 x9_1 ∧ Aside0 (r32_Drop.l0 kq l0 l1 x5_1 (l0.length : Int) x9_1 = some r) ∧ Aside0 (kq ≤ k) ∧ Aside0 (Kd.R (Kd.int .i64) 3 w' w.heap.size (fun _ => True) v5 x5_1) ∧ Aside0 (Below w.heap.size w w'))
  case atStart => exact ⟨(([] : List Int)), (0), (by first | rfl | (simp; done) | (simp [*]; done)), H', ⟨Nat.le_refl _⟩, ⟨by first | exact Kd.R_nil _ _ _ _ _ | exact Kd.N_nil _ _ _ _ _ | exact Kd.V_nil _ _ _ _ _ | exact Kd.Q_nil _ _ _ _ _ | exact Kd.S_nil _ _ _ _ _⟩, ⟨by with_reducible repeat first | exact HB.out | apply zA | apply zN | apply zD⟩⟩
  case round =>
    clear H'; (try clear c1); (try clear p2); obtain ⟨x5_1, x9_1, rfl, HA, HK1, HO_5, HB⟩ := hrel
    cases gk with
    | zero => exact absurd HA.out (by simp [r32_Drop.l0])
    | succ k1 =>
      have H := HA.out; clear HA; simp only [r32_Drop.l0] at H
      by_cases c3 : x9_1 < (l0.length : Int)
      · rw [if_pos c3] at H
        have c3b0 := decide_eq_true c3
        clear c3
        by_cases c4 : 0 ≤ x9_1
        · rw [if_pos c4] at H
          have c4b0 : decide (0 ≤ x9_1) = true := decide_eq_true c4
          clear c4
          by_cases c5 : x9_1 < (l0.length : Int)
          · rw [if_pos c5] at H
            have c5b0 : decide (x9_1 < (l0.length : Int)) = true := decide_eq_true c5
            clear c5
            replace H := Option.bind_eq_some_iff.mp H
            obtain ⟨t283, A60, H⟩ := H
            replace H : (if t283 < 0 then (if x5_1.length < 17592186044416 then (r32_Drop.l0 k1 l0 l1 (x5_1 ++ [x9_1]) (l0.length : Int) (wrap64 (x9_1 + 1))) else (none)) else (r32_Drop.l0 k1 l0 l1 x5_1 (l0.length : Int) (wrap64 (x9_1 + 1)))) = some r := H
            have A6 := zk A60
            clear A60
            by_cases c7 : t283 < 0
            · rw [if_pos c7] at H
              have c7b0 : decide (t283 < 0) = true := decide_eq_true c7
              clear c7
              by_cases c8 : x5_1.length < 17592186044416
              · rw [if_pos c8] at H
                have LMc8 := zk c8
                clear c8
                obtain ⟨y284, hy284⟩ : ∃ y_ : List Int, y_ = (x5_1 ++ [x9_1]) := ⟨_, rfl⟩
                replace H : (r32_Drop.l0 k1 l0 l1 y284 (l0.length : Int) (wrap64 (x9_1 + 1))) = some r := by first | (rw [hy284]; with_reducible exact H) | (have H2_ := (Option.bind_some _ _).symm.trans H; rw [hy284]; with_reducible exact H2_) | (have H2_ := (Option.bind_some _ _).symm.trans H; with_reducible exact H2_) | with_reducible exact H | (rw [hy284]; exact H) | exact H
                have Ny284 := zk hy284
                clear hy284
                have H' := zk H
                clear H
                have p282 : 0 ≤ (x9_1 : Int) := zo (by assumption)
                have q282 : x9_1 < (l0.length : Int) := zo (by assumption)
                obtain ⟨ad282, e282, hx282_0, hx282_1, hx282_2⟩ := at_T50 HR0.out x9_1 p282 q282
                cases e282
                replace hx282_0 := zB HB hx282_0
                replace hx282_1 := zB HB hx282_1
                replace hx282_2 := zB HB hx282_2
                replace p282 := eq_true p282
                replace q282 := eq_true q282
                go_wp2_with (first | ((with_reducible refine gk (f := 26) rfl ?_); refine gl (some 17) rfl rfl Try.func26 (by kernel_rfl) rfl #[.slice A1 l1.length c1, .agg #[.string ((rd_T50 l0 x9_1).f0), .string ((rd_T50 l0 x9_1).f1), .int .i64 ((rd_T50 l0 x9_1).f2)]] rfl (by (try simp only [List.map_toArray, List.map_cons, List.map_nil]); first | done | rfl | (simp only [List.length_drop, List.length_take]; rfl)) ?_; (with_reducible refine (r12_Find.calls k1 _ _ l1 ((rd_T50 l0 x9_1).f0) ((rd_T50 l0 x9_1).f1) ((rd_T50 l0 x9_1).f2) t283 _ ?side1 ?side2 A6.out).mono ?_); (case side1 => repeat (first | exact (Kd.C_below HR1.out HB.out) | (with_reducible refine Kd.C_alloc ?_ _) | (with_reducible refine Kd.C_drewN ?_ _) | (with_reducible refine Kd.C_drew ?_))); (case side2 => exact HC1.out); rintro e w9 ⟨rfl, hb⟩; refine ⟨_, rfl, ?_⟩; have n0_ := zk (Kd.R_below (by (with_reducible repeat (first | apply Kd.R_alloc | apply Kd.R_drewN | apply Kd.R_drew)); exact HO_5.out) hb); have n1_ := zk (zs (by with_reducible repeat first | exact HB.out | apply zA | apply zN | apply zD) hb); clear HO_5; clear HB; have HO_5 := n0_; have HB := n1_; clear n0_ n1_; (try clear hb); (try clear hb2); (try clear hk); (try clear hi)) | ((with_reducible refine gn (b := .append) (xs := #[.tmp 19, .tmp 21]) rfl ?_); at_builtin; refine Kd.R_append (Kd.int .i64) (w0 := w) w.heap.size rfl (.tmp 19) (.tmp 21) 27 3 (.int .i64 0) 8 rfl Try.underlying27 info3 rfl (by decide) (by omega) u5 x5_1 x9_1 [.int .i64 x9_1] (fun _ => True) (fun _ => False) rfl rfl ?aP (fun _ hk => hk.elim) ?aF ?aO ?aB ?aS ?aL ?_; (case aP => exact rfl); (case aB => exact (by with_reducible repeat first | exact HB.out | apply zA | apply zN | apply zD)); (case aF => exact (fun _ _ => trivial)); (case aO => exact (by (with_reducible repeat (first | apply Kd.R_alloc | apply Kd.R_drewN | apply Kd.R_drew)); exact HO_5.out)); (case aS => exact (zq (by with_reducible repeat first | exact HB.out | apply zA | apply zN | apply zD))); (case aL => have := LMc8.out; omega); intro v285 w10 ho hb hg hat; rw [← Ny284.out] at ho; have n0_ := zk (hb); have n1_ := zk (ho); clear HB; clear HO_5; have HB := n0_; have HO286 := n1_; clear n0_ n1_; clear ho hb hg hat))
                go_roundg k1
                case measure => have := HK1.out; omega
                case rel => exact ⟨(y284), (wrap64 (x9_1 + 1)), (by first | rfl | (simp; done) | (simp [*]; done)), H', ⟨by have := HK1.out; omega⟩, ⟨by (with_reducible repeat (first | apply Kd.R_alloc | apply Kd.R_drewN | apply Kd.R_drew)); exact HO286.out⟩, ⟨by with_reducible repeat first | exact HB.out | apply zA | apply zN | apply zD⟩⟩
              · rw [if_neg c8] at H
                exact absurd H (by simp)
            · rw [if_neg c7] at H
              have c7b0 : decide (t283 < 0) = false := decide_eq_false c7
              clear c7
              have H' := zk H
              clear H
              have p282 : 0 ≤ (x9_1 : Int) := zo (by assumption)
              have q282 : x9_1 < (l0.length : Int) := zo (by assumption)
              obtain ⟨ad282, e282, hx282_0, hx282_1, hx282_2⟩ := at_T50 HR0.out x9_1 p282 q282
              cases e282
              replace hx282_0 := zB HB hx282_0
              replace hx282_1 := zB HB hx282_1
              replace hx282_2 := zB HB hx282_2
              replace p282 := eq_true p282
              replace q282 := eq_true q282
              go_wp2_with (first | ((with_reducible refine gk (f := 26) rfl ?_); refine gl (some 17) rfl rfl Try.func26 (by kernel_rfl) rfl #[.slice A1 l1.length c1, .agg #[.string ((rd_T50 l0 x9_1).f0), .string ((rd_T50 l0 x9_1).f1), .int .i64 ((rd_T50 l0 x9_1).f2)]] rfl (by (try simp only [List.map_toArray, List.map_cons, List.map_nil]); first | done | rfl | (simp only [List.length_drop, List.length_take]; rfl)) ?_; (with_reducible refine (r12_Find.calls k1 _ _ l1 ((rd_T50 l0 x9_1).f0) ((rd_T50 l0 x9_1).f1) ((rd_T50 l0 x9_1).f2) t283 _ ?side1 ?side2 A6.out).mono ?_); (case side1 => repeat (first | exact (Kd.C_below HR1.out HB.out) | (with_reducible refine Kd.C_alloc ?_ _) | (with_reducible refine Kd.C_drewN ?_ _) | (with_reducible refine Kd.C_drew ?_))); (case side2 => exact HC1.out); rintro e w11 ⟨rfl, hb⟩; refine ⟨_, rfl, ?_⟩; have n0_ := zk (Kd.R_below (by (with_reducible repeat (first | apply Kd.R_alloc | apply Kd.R_drewN | apply Kd.R_drew)); exact HO_5.out) hb); have n1_ := zk (zs (by with_reducible repeat first | exact HB.out | apply zA | apply zN | apply zD) hb); clear HO_5; clear HB; have HO_5 := n0_; have HB := n1_; clear n0_ n1_; (try clear hb); (try clear hb2); (try clear hk); (try clear hi)))
              go_roundg k1
              case measure => have := HK1.out; omega
              case rel => exact ⟨(x5_1), (wrap64 (x9_1 + 1)), (by first | rfl | (simp; done) | (simp [*]; done)), H', ⟨by have := HK1.out; omega⟩, ⟨by (with_reducible repeat (first | apply Kd.R_alloc | apply Kd.R_drewN | apply Kd.R_drew)); exact HO_5.out⟩, ⟨by with_reducible repeat first | exact HB.out | apply zA | apply zN | apply zD⟩⟩
          · rw [if_neg c5] at H
            exact absurd H (by simp)
        · rw [if_neg c4] at H
          exact absurd H (by simp)
      · rw [if_neg c3] at H
        have c3b0 := decide_eq_false c3; clear c3; obtain rfl := Option.some.inj H; go_wp2; go_ret; exact ⟨_, by first | rfl | (simp [wN, wS] <;> rfl) | (simp [*, wN, wS] <;> rfl), by (with_reducible repeat (first | apply Kd.R_alloc | apply Kd.R_drewN | apply Kd.R_drew)); exact HO_5.out, by with_reducible repeat first | exact HB.out | apply zA | apply zN | apply zD⟩
def r08_Least.l0 : Nat → List Int → Int → List Bool → Int → Int → Option (Int)
  | 0, _, _, _, _, _ => none
  | k + 1, x0, x3, x4, x9, x10 => if x10 < x9 then (if 0 ≤ x10 then (if x10 < (x0.length : Int) then (if (rd x0 x10) ≥ 0 then (if x10 < (x4.length : Int) then (if rdOf false x4 x10 = true then (r08_Least.l0 k x0 x3 x4 x9 (wrap64 (x10 + 1))) else (r08_Least.l0 k x0 (wrap64 (x3 + 1)) x4 x9 (wrap64 (x10 + 1)))) else (none)) else (r08_Least.l0 k x0 x3 x4 x9 (wrap64 (x10 + 1)))) else (none)) else (none)) else (some x3)
def r08_Least.f (k : Nat) (l0 : List Int) : Option (Int) := (r08_Stay.f k l0).bind fun t287 => (r08_Least.l0 k l0 0 t287 (l0.length : Int) 0)
set_option maxHeartbeats 8000000 in
set_option maxRecDepth 100000 in
theorem r08_Least.calls (k : Nat) (A0 : Option Addr) (c0 : Nat) (l0 : List Int) (r : Int) (w : World) (hr0 : Kd.C (Kd.int .i64) w A0 l0.length l0) (hc0 : l0.length ≤ c0) (h : r08_Least.f k l0 = some r) :
    Calls Try.prog 19 #[.slice A0 l0.length c0] w fun e w' => e = .returned (.int .i64 r) ∧ Below w.heap.size w w' := by
  have HR0 := zk hr0; have HC0 := zk hc0; clear hr0 hc0; have HB := zk (Below.refl w.heap.size w); have H : ((r08_Stay.f k l0).bind fun t287 => (r08_Least.l0 k l0 0 t287 (l0.length : Int) 0)) = some r := h; clear h; replace H := Option.bind_eq_some_iff.mp H; obtain ⟨t287, A20, H⟩ := H; replace H : (r08_Least.l0 k l0 0 t287 (l0.length : Int) 0) = some r := H; have A2 := zk A20; clear A20; have H' := zk H; clear H
  go_enter Try.func19, Try.ntmps19
  go_wp2_with (first | ((with_reducible refine gk (f := 28) rfl ?_); refine gl (some 7) rfl rfl Try.func28 (by kernel_rfl) rfl #[.slice A0 l0.length c0] rfl (by (try simp only [List.map_toArray, List.map_cons, List.map_nil]); first | done | rfl | (simp only [List.length_drop, List.length_take]; rfl)) ?_; (with_reducible refine (r08_Stay.calls k _ _ l0 t287 _ ?side1 ?side2 A2.out).mono ?_); (case side1 => repeat (first | exact HR0.out | (with_reducible refine Kd.C_alloc ?_ _) | (with_reducible refine Kd.C_drewN ?_ _) | (with_reducible refine Kd.C_drew ?_))); (case side2 => exact HC0.out); rintro e w3 ⟨v288, rfl, ho0, hb⟩; refine ⟨_, rfl, ?_⟩; have n0_ := zk (Kd.R_lower ho0 (zq (by with_reducible repeat first | exact HB.out | apply zA | apply zN | apply zD))); have n1_ := zk (zs (by with_reducible repeat first | exact HB.out | apply zA | apply zN | apply zD) hb); clear HB; have HO289 := n0_; have HB := n1_; clear n0_ n1_; (try clear hb); (try clear hb2); (try clear hk); (try clear hi); (try clear ho0)))
  go_loopg [3, 10] k (fun kq v3 v10 w' => ∃ (x3_1 : Int) (x10_1 : Int), v3 = .int .i64 x3_1 ∧ v10 = .int .i64 x10_1 ∧ Aside0 (r08_Least.l0 kq l0 x3_1 t287 (l0.length : Int) x10_1 = some r) ∧ Aside0 (kq ≤ k) ∧ Aside0 (Kd.R Kd.bool 4 w' w.heap.size (fun _ => True) v288 t287) ∧ Aside0 (Below w.heap.size w w'))
  case atStart => exact ⟨(0), (0), (by first | rfl | (simp; done) | (simp [*]; done)), (by first | rfl | (simp; done) | (simp [*]; done)), H', ⟨Nat.le_refl _⟩, ⟨by (with_reducible repeat (first | apply Kd.R_alloc | apply Kd.R_drewN | apply Kd.R_drew)); exact HO289.out⟩, ⟨by with_reducible repeat first | exact HB.out | apply zA | apply zN | apply zD⟩⟩
  case round =>
    clear H'; (try clear c1); (try clear c2); (try clear p2); obtain ⟨x3_1, x10_1, rfl, rfl, HA, HK1, HO_4, HB⟩ := hrel
    cases gk with
    | zero => exact absurd HA.out (by simp [r08_Least.l0])
    | succ k1 =>
      have H := HA.out; clear HA; simp only [r08_Least.l0] at H
      by_cases c4 : x10_1 < (l0.length : Int)
      · rw [if_pos c4] at H
        have c4b0 : decide (x10_1 < (l0.length : Int)) = true := decide_eq_true c4
        clear c4
        by_cases c5 : 0 ≤ x10_1
        · rw [if_pos c5] at H
          have c5b0 : decide (0 ≤ x10_1) = true := decide_eq_true c5
          clear c5
          by_cases c6 : x10_1 < (l0.length : Int)
          · rw [if_pos c6] at H
            have c6b0 := decide_eq_true c6
            clear c6
            by_cases c7 : (rd l0 x10_1) ≥ 0
            · rw [if_pos c7] at H
              have c7b0 : decide (0 ≤ (rd l0 x10_1)) = true := decide_eq_true c7
              clear c7
              by_cases c8 : x10_1 < (t287.length : Int)
              · rw [if_pos c8] at H
                have c8b0 : decide (x10_1 < (t287.length : Int)) = true := decide_eq_true c8
                clear c8
                obtain ⟨bq9, hbq9⟩ : ∃ b_ : Bool, b_ = (rdOf false t287 x10_1) := ⟨_, rfl⟩
                replace H : (if bq9 = true then (r08_Least.l0 k1 l0 x3_1 t287 (l0.length : Int) (wrap64 (x10_1 + 1))) else (r08_Least.l0 k1 l0 (wrap64 (x3_1 + 1)) t287 (l0.length : Int) (wrap64 (x10_1 + 1)))) = some r := by rw [← hbq9] at H; exact H
                have Nbq9 := zk hbq9
                clear hbq9
                by_cases c10 : bq9 = true
                · subst c10
                  have H1 : (r08_Least.l0 k1 l0 x3_1 t287 (l0.length : Int) (wrap64 (x10_1 + 1))) = some r := by rw [if_pos rfl] at H; exact H
                  clear H
                  have H := H1
                  clear H1
                  have H' := zk H
                  clear H
                  have p290 : 0 ≤ (x10_1 : Int) := zo (by assumption)
                  have q290 : x10_1 < (l0.length : Int) := zo (by assumption)
                  obtain ⟨ad290, e290, hx290_0⟩ := Kd.at_int HR0.out x10_1 p290 q290
                  cases e290
                  replace hx290_0 := zB HB hx290_0
                  replace p290 := eq_true p290
                  replace q290 := eq_true q290
                  obtain ⟨Ao11, co11, eo11⟩ := Kd.R_slice HO_4.out
                  subst eo11
                  have p291 : 0 ≤ (x10_1 : Int) := zo (by assumption)
                  have q291 : x10_1 < (t287.length : Int) := zo (by assumption)
                  obtain ⟨ad291, e291, hx291_0⟩ := Kd.at_bool (Kd.R_reads' HO_4.out).2.2 x10_1 p291 q291
                  (try rw [← Nbq9.out] at hx291_0)
                  cases e291
                  replace p291 := eq_true p291
                  replace q291 := eq_true q291
                  go_wp2
                  go_roundg k1
                  case measure => have := HK1.out; omega
                  case rel => exact ⟨(x3_1), (wrap64 (x10_1 + 1)), (by first | rfl | (simp; done) | (simp [*]; done)), (by first | rfl | (simp; done) | (simp [*]; done)), H', ⟨by have := HK1.out; omega⟩, ⟨by (with_reducible repeat (first | apply Kd.R_alloc | apply Kd.R_drewN | apply Kd.R_drew)); exact HO_4.out⟩, ⟨by with_reducible repeat first | exact HB.out | apply zA | apply zN | apply zD⟩⟩
                · replace c10 := Bool.eq_false_iff.mpr c10
                  subst c10
                  have H1 : (r08_Least.l0 k1 l0 (wrap64 (x3_1 + 1)) t287 (l0.length : Int) (wrap64 (x10_1 + 1))) = some r := by rw [if_neg (show ¬ (false = true) by decide)] at H; exact H
                  clear H
                  have H := H1
                  clear H1
                  have H' := zk H
                  clear H
                  have p290 : 0 ≤ (x10_1 : Int) := zo (by assumption)
                  have q290 : x10_1 < (l0.length : Int) := zo (by assumption)
                  obtain ⟨ad290, e290, hx290_0⟩ := Kd.at_int HR0.out x10_1 p290 q290
                  cases e290
                  replace hx290_0 := zB HB hx290_0
                  replace p290 := eq_true p290
                  replace q290 := eq_true q290
                  obtain ⟨Ao12, co12, eo12⟩ := Kd.R_slice HO_4.out
                  subst eo12
                  have p291 : 0 ≤ (x10_1 : Int) := zo (by assumption)
                  have q291 : x10_1 < (t287.length : Int) := zo (by assumption)
                  obtain ⟨ad291, e291, hx291_0⟩ := Kd.at_bool (Kd.R_reads' HO_4.out).2.2 x10_1 p291 q291
                  (try rw [← Nbq9.out] at hx291_0)
                  cases e291
                  replace p291 := eq_true p291
                  replace q291 := eq_true q291
                  go_wp2
                  go_roundg k1
                  case measure => have := HK1.out; omega
                  case rel => exact ⟨(wrap64 (x3_1 + 1)), (wrap64 (x10_1 + 1)), (by first | rfl | (simp; done) | (simp [*]; done)), (by first | rfl | (simp; done) | (simp [*]; done)), H', ⟨by have := HK1.out; omega⟩, ⟨by (with_reducible repeat (first | apply Kd.R_alloc | apply Kd.R_drewN | apply Kd.R_drew)); exact HO_4.out⟩, ⟨by with_reducible repeat first | exact HB.out | apply zA | apply zN | apply zD⟩⟩
              · rw [if_neg c8] at H
                exact absurd H (by simp)
            · rw [if_neg c7] at H
              have c7b0 : decide (0 ≤ (rd l0 x10_1)) = false := decide_eq_false c7
              clear c7
              have H' := zk H
              clear H
              have p290 : 0 ≤ (x10_1 : Int) := zo (by assumption)
              have q290 : x10_1 < (l0.length : Int) := zo (by assumption)
              obtain ⟨ad290, e290, hx290_0⟩ := Kd.at_int HR0.out x10_1 p290 q290
              cases e290
              replace hx290_0 := zB HB hx290_0
              replace p290 := eq_true p290
              replace q290 := eq_true q290
              go_wp2
              go_roundg k1
              case measure => have := HK1.out; omega
              case rel => exact ⟨(x3_1), (wrap64 (x10_1 + 1)), (by first | rfl | (simp; done) | (simp [*]; done)), (by first | rfl | (simp; done) | (simp [*]; done)), H', ⟨by have := HK1.out; omega⟩, ⟨by (with_reducible repeat (first | apply Kd.R_alloc | apply Kd.R_drewN | apply Kd.R_drew)); exact HO_4.out⟩, ⟨by with_reducible repeat first | exact HB.out | apply zA | apply zN | apply zD⟩⟩
          · rw [if_neg c6] at H
            exact absurd H (by simp)
        · rw [if_neg c5] at H
          exact absurd H (by simp)
      · rw [if_neg c4] at H
        have c4b0 : decide (x10_1 < (l0.length : Int)) = false := decide_eq_false c4; clear c4; obtain rfl := Option.some.inj H; go_wp2; go_ret; exact ⟨by first | rfl | (simp [wN, wS] <;> rfl) | (simp [*, wN, wS] <;> rfl), by with_reducible repeat first | exact HB.out | apply zA | apply zN | apply zD⟩
end Go.Proofs.Ytpekchebllobmaa.G
namespace Go.Proofs.Ytpekchebllobmaa.G
open Go.RowKit Go.Proofs.YtpekchebllobmaaW.PrintWords Go.Proofs.YtpekchebllobmaaW.PrintLast Go.Proofs.YtpekchebllobmaaW.PrintMore
attribute [local go_sem] max2_int min2_int max_two min_two max_three min_three max_four min_four
set_option linter.unusedVariables false
set_option linter.unusedSimpArgs false
attribute [local go_sem high] eqA50
end Go.Proofs.Ytpekchebllobmaa.G
namespace Go.Proofs.Ytpekchebllobmaa.G
open Go.RowKit Go.Proofs.YtpekchebllobmaaW.PrintWords Go.Proofs.YtpekchebllobmaaW.PrintLast Go.Proofs.YtpekchebllobmaaW.PrintMore
set_option linter.unusedVariables false
set_option linter.unusedSimpArgs false
def eat1 (h c : Int) : Int := IntKind.u64.wrap (bits BinOp.xor IntKind.u64 h (IntKind.u64.wrap c) * 1099511628211)
def hashL (s : ByteArray) : Nat → Int → Int → Int
  | 0, _, h => h
  | k + 1, i, h => hashL s k (i + 1) (eat1 h (bt s i))
def hash8 : Nat → Int → Int → Int
  | 0, _, h => h
  | k + 1, m, h => hash8 k (m / 256) (eat1 h (m % 256))
/-- A label's number. -/
def hashF (a b : ByteArray) (n : Int) : Int := bits BinOp.xor IntKind.u64 (hash8 8 (IntKind.u64.wrap n) (hashL b b.size 0 (eat1 (hashL a a.size 0 14695981039346656037) 255))) (hash8 8 (IntKind.u64.wrap n) (hashL b b.size 0 (eat1 (hashL a a.size 0 14695981039346656037) 255)) / 536870912)
theorem eat (g : Nat) (h c : Int) (w : World) (hb : w.heap[g]? = some (.cells #[.int .u64 h] 83 (0, 0))) : Calls Try.prog 46 #[.int .u8 c, .pointer (some ⟨g, 0, none⟩)] w fun e w' => e = .returned (.tuple #[]) ∧ w' = w.setCell ⟨g, 0, none⟩ (.int .u64 (eat1 h c)) := by
  have hc : w.cell? ⟨g, 0, none⟩ = some (.int .u64 h) := (zC hb 0).trans rfl; have hf := zR hb 0; clear hb
  go_enter Try.func46, Try.ntmps46
  go_wp2_with fail
  refine bodyPost_end (results_none rfl _ _ _) rfl ?_; exact ⟨rfl, rfl⟩
/-- The parameter in memory, and the number under way. -/
structure HS (w : World) (gk g : Nat) (a b : ByteArray) (n h : Int) (W : World) : Prop where
  bk : W.heap[gk]? = some (.cells #[.string a, .string b, .int .i64 n] 50 (0, 0))
  bh : W.heap[g]? = some (.cells #[.int .u64 h] 83 (0, 0))
  B : Below w.heap.size w W
  l1 : w.heap.size ≤ gk
  l2 : gk < g
theorem HS.put {w W : World} {gk g : Nat} {a b : ByteArray} {n h : Int} (s : HS w gk g a b n h W) (h' : Int) : HS w gk g a b n h' (W.setCell ⟨g, 0, none⟩ (.int .u64 h')) :=
  ⟨zG s.bk (p := ⟨g, 0, none⟩) (Nat.ne_of_lt s.l2) _, zP s.bh 0 _ rfl, zS s.B (Nat.le_trans s.l1 (Nat.le_of_lt s.l2)), s.l1, s.l2⟩
set_option maxHeartbeats 4000000 in
set_option maxRecDepth 100000 in
theorem hash (a b : ByteArray) (n : Int) (w : World) (ha : a.size ≤ 140737488351232) (hb : b.size ≤ 140737488351232) : Calls Try.prog 45 #[.agg #[.string a, .string b, .int .i64 n]] w fun e w' => e = .returned (.int .u64 (hashF a b n)) ∧ Below w.heap.size w w' := by
  have HA := zk ha; have HB := zk hb; clear ha hb
  have hmf : ∀ (fn : Fn) (first cap : Array Value) (w : World), (Instr.makeFunc fn first cap).run Try.prog w = .ok (.func fn first cap) w := fun _ _ _ _ => rfl
  go_enter Try.func45, Try.ntmps45
  go_wp2_with (first | ((with_reducible refine gd (N := 1) rfl ?_); refine zb ?hg (N := 1) ?hd (cs := #[.string a, .string b, .int .i64 n]) (t := 50) ?hr ?_; (case hd => rfl); (case hg => rfl); (case hr => go_simp; first | done | rfl); intro gl hg w1 hbox hb; have G1 := zk hg; have X1 := zk hbox; have B1 := zk hb; clear hbox hb hg) | ((with_reducible refine gd (N := 3) rfl ?_); refine zb ?hg (N := 3) ?hd (cs := #[.int .u64 0]) (t := 83) ?hr ?_; (case hd => rfl); (case hg => rfl); (case hr => go_simp; first | done | rfl); intro g hg w2 hbox hb; have G2 := zk hg; have X2 := zk hbox; have B2 := zk hb; have c0 : w2.cell? ⟨g, 0, none⟩ = some (.int .u64 0) := (zC hbox 0).trans rfl; have f0 := zR hbox 0; have c10 : w2.cell? ⟨gl, 0, none⟩ = some (.string a) := (zC (blk_below X1.out hb) 0).trans rfl; have nlg : ¬ gl = g := (by have := blk_lt X1.out; omega); clear hbox hb hg))
  have T := zk (show HS w gl g a b n 14695981039346656037 (w2.setCell ⟨g, 0, none⟩ (.int .u64 14695981039346656037)) from by
    have h1 := G1.out; have h2 := G2.out; have h3 := blk_lt X1.out; have h4 := B1.out.size
    refine HS.put (h := 0) ⟨blk_below X1.out B2.out, X2.out, B1.out.trans (B2.out.mono h4), by omega, by omega⟩ _)
  clear c0 f0 c10 nlg X1 X2 B1 B2 G1 G2
  go_loopg [5, 13] a.size (fun kq v5 v13 W => ∃ (i h : Int), v13 = .int .i64 i ∧ Aside0 (0 ≤ i ∧ i + kq = a.size ∧ hashL a kq i h = hashL a a.size 0 14695981039346656037) ∧ Aside0 (HS w gl g a b n h W))
  case atStart => exact ⟨0, _, rfl, ⟨by omega, by omega, rfl⟩, T⟩
  case round =>
  clear T; obtain ⟨i, h, rfl, HI, T⟩ := hrel; have c10 : wr.cell? ⟨gl, 0, none⟩ = some (.string a) := (zC T.out.bk 0).trans rfl
  by_cases hi : i < a.size
  case neg =>
    have hib : decide (i < (a.size : Int)) = false := decide_eq_false hi
    have HE := zk (show h = hashL a a.size 0 14695981039346656037 by
      have h1 := HI.out
      obtain rfl : gk = 0 := by omega
      exact h1.2.2)
    clear HI hi
    have c11 : ∀ v, (wr.setCell ⟨g, 0, none⟩ v).cell? ⟨gl, 1, none⟩ = some (.string b) := fun v => (zC (zG T.out.bk (p := ⟨g, 0, none⟩) (Nat.ne_of_lt T.out.l2) v) 1).trans rfl
    go_wp2_with (go_at_call 46; refine (eat g h _ wr T.out.bh).mono ?_; rintro e w3 ⟨rfl, rfl⟩)
    obtain ⟨W, hW⟩ : ∃ W, wr.setCell ⟨g, 0, none⟩ (.int .u64 (eat1 h 255)) = W := ⟨_, rfl⟩; rw [hW]; replace T := zk (show HS w gl g a b n (eat1 h 255) W from hW ▸ T.out.put _); obtain ⟨h2, hh2⟩ : ∃ h2, eat1 h 255 = h2 := ⟨_, rfl⟩; rw [hh2] at T; replace HE := zk (show h2 = eat1 (hashL a a.size 0 14695981039346656037) 255 by rw [← hh2, HE.out]); clear hW hh2 c10 c11
    go_loopg [6, 28] b.size (fun kq v6 v28 W => ∃ (i h : Int), v28 = .int .i64 i ∧ Aside0 (0 ≤ i ∧ i + kq = b.size ∧ hashL b kq i h = hashL b b.size 0 h2) ∧ Aside0 (HS w gl g a b n h W))
    case atStart => exact ⟨0, _, rfl, ⟨by omega, by omega, rfl⟩, T⟩
    case round =>
    clear T; obtain ⟨j, h, rfl, HI, T⟩ := hrel; have c11 : wr.cell? ⟨gl, 1, none⟩ = some (.string b) := (zC T.out.bk 1).trans rfl
    by_cases hj : j < b.size
    case neg =>
      have hib : decide (j < (b.size : Int)) = false := decide_eq_false hj
      have HE2 := zk (show h = hashL b b.size 0 h2 by
        have h1 := HI.out
        obtain rfl : gk = 0 := by omega
        exact h1.2.2)
      clear HI hj; have c12 : wr.cell? ⟨gl, 2, none⟩ = some (.int .i64 n) := (zC T.out.bk 2).trans rfl
      go_wp2_with fail
      go_loopg [7, 8] 8 (fun kq v7 v8 W => ∃ (m i h3 : Int), v7 = .int .u64 m ∧ v8 = .int .i64 i ∧ Aside0 (0 ≤ i ∧ i + kq = 8 ∧ hash8 kq m h3 = hash8 8 (IntKind.u64.wrap n) h) ∧ Aside0 (HS w gl g a b n h3 W))
      case atStart => exact ⟨_, 0, _, rfl, rfl, ⟨by omega, by omega, rfl⟩, T⟩
      case round =>
      clear T; obtain ⟨m, i3, h3, rfl, rfl, HI, T⟩ := hrel
      by_cases h8 : i3 < 8
      case neg =>
        have hib : decide (i3 < 8) = false := decide_eq_false h8
        have HE3 := zk (show h3 = hash8 8 (IntKind.u64.wrap n) h by
          have h1 := HI.out
          obtain rfl : gk = 0 := by omega
          exact h1.2.2)
        have BF := zk T.out.B; have c0 : wr.cell? ⟨g, 0, none⟩ = some (.int .u64 h3) := (zC T.out.bh 0).trans rfl; clear HI h8 T
        go_wp2_with fail
        go_ret; refine ⟨?_, BF.out⟩
        show Ending.returned (.int .u64 (bits BinOp.xor IntKind.u64 h3 (h3 / 536870912))) = _
        rw [HE3.out, HE2.out, HE.out]; rfl
      obtain ⟨h0, hk, hh⟩ := HI.out; have hib : decide (i3 < 8) = true := decide_eq_true h8; have hwi : IntKind.i64.wrap (i3 + 1) = i3 + 1 := IntWalk.i64_in _ (by omega); have HH := zk hh; have HK := zk hk; clear hh hk
      go_wp2_with (go_at_call 46; refine (eat g h3 _ _ T.out.bh).mono ?_; rintro e w3 ⟨rfl, rfl⟩)
      cases gk with
      | zero => exact absurd HK.out (by omega)
      | succ k1 =>
        go_roundg k1
        case measure => omega
        case rel => exact ⟨_, i3 + 1, _, rfl, rfl, ⟨by omega, by have := HK.out; omega, by rw [← HH.out, hash8]⟩, ⟨T.out.put _⟩⟩
    obtain ⟨h0, hk, hh⟩ := HI.out; have hib : decide (j < (b.size : Int)) = true := decide_eq_true hj; have hi0 : decide (0 ≤ j) = true := decide_eq_true h0; have hwi : IntKind.i64.wrap (j + 1) = j + 1 := IntWalk.i64_in _ (by have := HB.out; omega); have HH := zk hh; have HK := zk hk; clear hh hk
    go_wp2_with (go_at_call 46; refine (eat g h _ _ T.out.bh).mono ?_; rintro e w3 ⟨rfl, rfl⟩)
    cases gk with
    | zero => exact absurd HK.out (by omega)
    | succ k1 =>
      go_roundg k1
      case measure => omega
      case rel => exact ⟨j + 1, _, rfl, ⟨by omega, by have := HK.out; omega, by rw [← HH.out, hashL, bt_at]⟩, ⟨T.out.put _⟩⟩
  obtain ⟨h0, hk, hh⟩ := HI.out; have hib : decide (i < (a.size : Int)) = true := decide_eq_true hi; have hi0 : decide (0 ≤ i) = true := decide_eq_true h0; have hwi : IntKind.i64.wrap (i + 1) = i + 1 := IntWalk.i64_in _ (by have := HA.out; omega); have HH := zk hh; have HK := zk hk; clear hh hk
  go_wp2_with (go_at_call 46; refine (eat g h _ wr T.out.bh).mono ?_; rintro e w3 ⟨rfl, rfl⟩)
  cases gk with
  | zero => exact absurd HK.out (by omega)
  | succ k1 =>
    go_roundg k1
    case measure => omega
    case rel => exact ⟨i + 1, _, rfl, ⟨by omega, by have := HK.out; omega, by rw [← HH.out, hashL, bt_at]⟩, ⟨T.out.put _⟩⟩
open List renaming setIfInBounds_toArray → zt, set_cons_zero → zu, set_cons_succ → zv
open Bool renaming true → T, false → F
theorem u64_range (x : Int) : 0 ≤ IntKind.u64.wrap x ∧ IntKind.u64.wrap x < 18446744073709551616 := by
  rw [IntKind.wrap_u64]; omega
theorem hash8_range (k : Nat) : ∀ m h, 0 ≤ hash8 (k + 1) m h ∧ hash8 (k + 1) m h < 18446744073709551616 := by
  induction k with
  | zero => intro m h; exact u64_range _
  | succ k ih => intro m h; exact ih _ _
theorem hashF_nat (a b : ByteArray) (n : Int) : ∃ h : Nat, hashF a b n = (h : Int) ∧ h < 18446744073709551616 := by
  unfold hashF; obtain ⟨q0, q1⟩ := hash8_range 7 (IntKind.u64.wrap n) (hashL b b.size 0 (eat1 (hashL a a.size 0 14695981039346656037) 255)); obtain ⟨x, hx⟩ : ∃ x : Nat, hash8 8 (IntKind.u64.wrap n) (hashL b b.size 0 (eat1 (hashL a a.size 0 14695981039346656037) 255)) = (x : Int) := ⟨_, (Int.toNat_of_nonneg q0).symm⟩; rw [hx] at q1 ⊢
  have e : (x : Int) / 536870912 = ((x / 536870912 : Nat) : Int) := by omega
  rw [e, bits_xor_u64_nat _ _ (by omega) (by omega)]; refine ⟨_, rfl, ?_⟩; have := Nat.xor_lt_two_pow (x := x) (y := x / 536870912) (n := 64) (by omega) (by omega); omega
/-- A label's number, as_ a natural number. -/
def hashN (k : S50) : Nat := (hashF k.f0 k.f1 k.f2).toNat
theorem hashN_eq (k : S50) : hashF k.f0 k.f1 k.f2 = (hashN k : Int) ∧ hashN k < 18446744073709551616 := by
  obtain ⟨h, e, hl⟩ := hashF_nat k.f0 k.f1 k.f2; unfold hashN; rw [e]; exact ⟨rfl, hl⟩
/-- The cells of a table's places. -/
def fs : List S81 → List Value
  | [] => []
  | x :: l => .int .i64 x.f0 :: .string x.f1.f0 :: .string x.f1.f1 :: .int .i64 x.f1.f2 :: .int .i64 x.f2 :: fs l
theorem fs_len (l : List S81) : (fs l).length = l.length * 5 := by
  induction l with
  | nil => rfl
  | cons x l ih => simp [fs, ih]; omega
theorem fs_drop (l : List S81) : ∀ i : Nat, (fs l).drop (i * 5) = fs (l.drop i) := by
  induction l with
  | nil => intro i; simp [fs]
  | cons x l ih =>
    intro i
    cases i with
    | zero => simp
    | succ i =>
      rw [show (i + 1) * 5 = i * 5 + 1 + 1 + 1 + 1 + 1 by omega, fs, List.drop_succ_cons, List.drop_succ_cons, List.drop_succ_cons, List.drop_succ_cons, List.drop_succ_cons, ih, List.drop_succ_cons]
theorem fs_at (l : List S81) (i : Nat) (h : i < l.length) (j : Nat) (hj : j < 5) : (fs l)[i * 5 + j]? = [Value.int .i64 l[i].f0, .string l[i].f1.f0, .string l[i].f1.f1, .int .i64 l[i].f1.f2, .int .i64 l[i].f2][j]? := by
  rw [← List.getElem?_drop, fs_drop, List.drop_eq_getElem_cons h, fs]
  match j, hj with
  | 0, _ => rfl
  | 1, _ => rfl
  | 2, _ => rfl
  | 3, _ => rfl
  | 4, _ => rfl
def at60 (S : List S81) (i : Nat) : S81 := S.getD i z81
theorem at60_eq (S : List S81) (i : Nat) (h : i < S.length) : at60 S i = S[i] := by
  unfold at60; rw [List.getD_eq_getElem?_getD, List.getElem?_eq_getElem h]; rfl
/-- A table in memory: p its variable, g its places. -/
structure TW (W : World) (base p g : Nat) (S : List S81) (live used : Int) : Prop where
  bp : W.heap[p]? = some (.cells #[.slice (some ⟨g, 0, none⟩) S.length S.length, .int .i64 live, .int .i64 used] 72 (0, 0))
  bg : W.heap[g]? = some (.cells (fs S).toArray 81 (0, 0))
  hp : base ≤ p
  hg : base ≤ g
theorem TW.below {W W' : World} {base p g : Nat} {S : List S81} {live used : Int} (h : TW W base p g S live used) (hb : Below W.heap.size W W') : TW W' base p g S live used := ⟨blk_below h.bp hb, blk_below h.bg hb, h.hp, h.hg⟩
theorem TW.cell {W : World} {base p g : Nat} {S : List S81} {live used : Int} (h : TW W base p g S live used) (i : Nat) (hi : i < S.length) (j : Nat) (hj : j < 5) : W.cell? ⟨g, i * 5 + j, none⟩ = [Value.int .i64 (at60 S i).f0, .string (at60 S i).f1.f0, .string (at60 S i).f1.f1, .int .i64 (at60 S i).f1.f2, .int .i64 (at60 S i).f2][j]? := by
  rw [zC h.bg, at60_eq S i hi, ← fs_at S i hi j hj]; simp
/-- The place that has a label, or the one that it would get. -/
def plc (S : List S81) (k : S50) : Nat → Nat → Int → Option (Int × Bool)
  | 0, _, _ => none
  | f + 1, i, sp => if (at60 S i).f0 = 0 then some (if 0 ≤ sp then sp else i, false) else if (at60 S i).f0 = 1 ∧ ((at60 S i).f1.f0.toList = k.f0.toList ∧ (at60 S i).f1.f1.toList = k.f1.toList ∧ (at60 S i).f1.f2 = k.f2) then some ((i : Int), true) else plc S k f ((i + 1) % S.length) (if (at60 S i).f0 = 2 ∧ sp < 0 then i else sp)
theorem eqK50 (d : Nat) (w : World) (x0 y0 x1 y1 : ByteArray) (x2 y2 : Int) :
    (Op.equalIn (d + 2) 50 (.agg #[.string x0, .string x1, .int .i64 x2]) (.agg #[.string y0, .string y1, .int .i64 y2])).run Try.prog w = .ok (x0.toList == y0.toList && (x1.toList == y1.toList && (x2 == y2))) w := by
  refine eqA_of Try.underlying50 (by kernel_rfl) ?_; refine eqf_cons (by rfl) (by go_simp; rfl) (by go_simp; rfl) (by go_simp) ?_; refine eqf_cons (by rfl) (by go_simp; rfl) (by go_simp; rfl) (by go_simp) ?_; exact eqf_last (by rfl) (by go_simp; rfl) (by go_simp; rfl) (by go_simp)
attribute [local go_sem high] eqK50
set_option maxHeartbeats 4000000 in
set_option maxRecDepth 100000 in
theorem place (f : Nat) (W : World) (base p g : Nat) (S : List S81) (live used : Int) (k : S50) (e : Nat) (r : Int × Bool) (hT : TW W base p g S live used) (hS : S.length = 2 ^ e) (he : e ≤ 40) (hr : plc S k f (hashN k % S.length) (-1) = some r) (h0 : k.f0.size ≤ 140737488351232) (h1 : k.f1.size ≤ 140737488351232) :
    Calls Try.prog 42 #[.pointer (some ⟨p, 0, none⟩), .agg #[.string k.f0, .string k.f1, .int .i64 k.f2]] W fun e w' => e = .returned (.tuple #[.int .i64 r.1, .bool r.2]) ∧ Below W.heap.size W w' := by
  have HT := Aside0.mk hT; have HS := Aside0.mk hS; have HE := Aside0.mk he; have HR := Aside0.mk hr; have H0 := Aside0.mk h0; have H1 := Aside0.mk h1; obtain ⟨hh1, hh2⟩ := hashN_eq k; have HH := Aside0.mk hh1; have HH2 := Aside0.mk hh2; have hM : Aside0 (1 ≤ S.length ∧ S.length ≤ 1099511627776) := ⟨by rw [hS]; exact ⟨Nat.one_le_two_pow, Nat.pow_le_pow_right (by omega) he⟩⟩; have hp0 : W.cell? ⟨p, 0, none⟩ = some (.slice (some ⟨g, 0, none⟩) S.length S.length) := (zC hT.bp 0).trans rfl; obtain ⟨mk, hmk⟩ : ∃ mk : Nat, S.length = mk + 1 := ⟨S.length - 1, by have := hM.out; omega⟩; have HMK := Aside0.mk hmk
  have hw : wrap64 ((S.length : Int) - 1) = (mk : Int) := by have := hM.out; unfold wrap64; omega
  have hw2 : IntKind.u64.wrap (mk : Int) = (mk : Int) := by
    have := hM.out; rw [IntKind.wrap_u64]; omega
  have hand : ∀ x : Nat, x < 18446744073709551616 → bits BinOp.and IntKind.u64 (x : Int) (mk : Int) = ((x % S.length : Nat) : Int) := by
    intro x hx
    have e2 : mk = 2 ^ e - 1 := by omega
    rw [bits_and_u64_nat _ _ hx (by have := hM.out; omega), hS, e2, Nat.and_two_pow_sub_one_eq_mod]
  have HA := Aside0.mk hand; have ha0 := hand (hashN k) hh2; clear hT hS he hr h0 h1 hh1 hh2 hand hmk
  go_enter Try.func42, Try.ntmps42
  go_wp2_with (first | ((with_reducible refine gd (N := 3) rfl ?_); refine zb ?hg (N := 3) ?hd (cs := #[.string k.f0, .string k.f1, .int .i64 k.f2]) (t := 50) ?hr ?_; (case hd => rfl); (case hg => rfl); (case hr => go_simp; first | done | rfl); intro gb hg w1 hbox hb; have G1 := Aside0.mk hg; have X1 := Aside0.mk hbox; have B1 := Aside0.mk hb; have hp0 : w1.cell? ⟨p, 0, none⟩ = some (.slice (some ⟨g, 0, none⟩) S.length S.length) := (zC (HT.out.below hb).bp 0).trans rfl; have c0 : w1.cell? ⟨gb, 0, none⟩ = some (.string k.f0) := (zC hbox 0).trans rfl; have c1 : w1.cell? ⟨gb, 1, none⟩ = some (.string k.f1) := (zC hbox 1).trans rfl; have c2 : w1.cell? ⟨gb, 2, none⟩ = some (.int .i64 k.f2) := (zC hbox 2).trans rfl; clear hbox hb hg) | (go_at_call 45; refine (hash k.f0 k.f1 k.f2 _ H0.out H1.out).mono ?_; rw [HH.out]; rintro e w2 ⟨rfl, hb⟩; have B2 := Aside0.mk hb; clear hb))
  have HB := Aside0.mk (B1.out.trans (B2.out.mono B1.out.size)); have HX := Aside0.mk (blk_below X1.out B2.out); clear hp0 c0 c1 c2 B1 B2 X1
  go_loopg [7, 8, 9] f (fun kq v7 v8 v9 W' => ∃ (i : Nat) (sp : Int), v7 = .int .i64 sp ∧ v8 = .int .u64 i ∧ Aside0 (i < S.length ∧ plc S k kq i sp = some r) ∧ Aside0 (Below W.heap.size W W') ∧ Aside0 (W'.heap[gb]? = some (.cells #[.string k.f0, .string k.f1, .int .i64 k.f2] 50 (0, 0))))
  case atStart => exact ⟨hashN k % S.length, -1, rfl, rfl, ⟨Nat.mod_lt _ (by have := hM.out; omega), HR.out⟩, HB, HX⟩
  case round =>
  clear HB HX HR; obtain ⟨i, sp, rfl, rfl, HI, HB, HX⟩ := hrel
  cases gk with
  | zero => exact absurd HI.out.2 (by simp [plc])
  | succ k1 =>
  have hil := HI.out.1; have hplc := HI.out.2; rw [plc] at hplc; have TT := Aside0.mk (HT.out.below HB.out); have hp0 : wr.cell? ⟨p, 0, none⟩ = some (.slice (some ⟨g, 0, none⟩) S.length S.length) := (zC TT.out.bp 0).trans rfl; obtain ⟨y, hy⟩ : ∃ y, at60 S i = y := ⟨_, rfl⟩; have t0 : wr.cell? ⟨g, i * 5, none⟩ = some (.int .i64 y.f0) := hy ▸ TT.out.cell i hil 0 (by omega); have t1 : wr.cell? ⟨g, i * 5 + 1, none⟩ = some (.string y.f1.f0) := hy ▸ TT.out.cell i hil 1 (by omega); have t2 : wr.cell? ⟨g, i * 5 + 2, none⟩ = some (.string y.f1.f1) := hy ▸ TT.out.cell i hil 2 (by omega); have t3 : wr.cell? ⟨g, i * 5 + 3, none⟩ = some (.int .i64 y.f1.f2) := hy ▸ TT.out.cell i hil 3 (by omega); have c0 : wr.cell? ⟨gb, 0, none⟩ = some (.string k.f0) := (zC HX.out 0).trans rfl; have c1 : wr.cell? ⟨gb, 1, none⟩ = some (.string k.f1) := (zC HX.out 1).trans rfl; have c2 : wr.cell? ⟨gb, 2, none⟩ = some (.int .i64 k.f2) := (zC HX.out 2).trans rfl; rw [hy] at hplc; have HPL := Aside0.mk hplc; have HIL := Aside0.mk hil; have hi0 : decide ((0 : Int) ≤ (i : Int)) = true := decide_eq_true (by omega); have hib : decide ((i : Int) < (S.length : Int)) = true := decide_eq_true (by omega)
  have hwi : wrap64 (i : Int) = (i : Int) := by have := hM.out; unfold wrap64; omega
  have HY := Aside0.mk hy; clear hplc hy HI
  by_cases s0 : y.f0 = 0
  · have s0b : (y.f0 == 0) = true := by simp [s0]
    by_cases hsp : 0 ≤ sp
    · have hspb : decide (0 ≤ sp) = true := decide_eq_true hsp
      have HR := Aside0.mk (show r = (sp, false) by have h := HPL.out; rw [if_pos s0, if_pos hsp] at h; exact (Option.some.inj h).symm)
      clear hsp s0
      go_wp2_with fail
      go_ret2
      exact ⟨by rw [HR.out]; rfl, HB.out⟩
    · have hspb : decide (0 ≤ sp) = false := decide_eq_false hsp
      have HR := Aside0.mk (show r = ((i : Int), false) by have h := HPL.out; rw [if_pos s0, if_neg hsp] at h; exact (Option.some.inj h).symm)
      clear hsp s0
      go_wp2_with fail
      go_ret2
      refine ⟨?_, HB.out⟩
      rw [HR.out]
      show Ending.returned (.tuple #[.int .i64 (wrap64 (i : Int)), .bool false]) = _
      rw [hwi]
  · have s0b : (y.f0 == 0) = false := by simp [s0]
    have hw1 : IntKind.u64.wrap ((i : Int) + 1) = (i : Int) + 1 := by have := hM.out; rw [IntKind.wrap_u64]; omega
    have ha1 : bits BinOp.and IntKind.u64 ((i : Int) + 1) (mk : Int) = (((i + 1) % S.length : Nat) : Int) := HA.out (i + 1) (by have := hM.out; omega)
    have HN := Aside0.mk (show (i + 1) % S.length < S.length from Nat.mod_lt _ (by have := hM.out; omega))
    obtain ⟨i1, hi1⟩ : ∃ i1, (i + 1) % S.length = i1 := ⟨_, rfl⟩
    have HPL2 := Aside0.mk (show _ from by have h := HPL.out; rw [if_neg s0, hi1] at h; exact h)
    rw [hi1] at ha1 HN
    clear hi1 HPL
    by_cases s1 : y.f0 = 1
    · have s1b : (y.f0 == 1) = true := by simp [s1]
      have s2b : (y.f0 == 2) = false := by rw [s1]; rfl
      obtain ⟨b, hb⟩ : ∃ b, (y.f1.f0.toList == k.f0.toList && (y.f1.f1.toList == k.f1.toList && (y.f1.f2 == k.f2))) = b := ⟨_, rfl⟩
      have HBB := Aside0.mk hb
      have HS1 := Aside0.mk s1
      clear s0 s1
      go_upto_region 10 with (fail)
      refine start_ (n := 14) (S := (fun w' => w'.cell? ⟨g, i * 5, none⟩ = some (.int .i64 y.f0) ∧ w'.cell? ⟨g, i * 5 + 1, none⟩ = some (.string y.f1.f0) ∧ w'.cell? ⟨g, i * 5 + 2, none⟩ = some (.string y.f1.f1) ∧ w'.cell? ⟨g, i * 5 + 3, none⟩ = some (.int .i64 y.f1.f2) ∧ w'.cell? ⟨gb, 0, none⟩ = some (.string k.f0) ∧ w'.cell? ⟨gb, 1, none⟩ = some (.string k.f1) ∧ w'.cell? ⟨gb, 2, none⟩ = some (.int .i64 k.f2))) (ds := []) #[F,F,F,F,F,F,F,F,F,F,F,F,F,F] (by kernel_rfl) rfl rfl ?_ ?_
      · exact ⟨t0, t1, t2, t3, c0, c1, c2⟩
      intro hHeld
      refine pure_ (i := 0) (N := some 43) (v := ?_) (a' := ?_) #[T,F,F,F,F,F,F,F,F,F,F,F,F,F] rfl rfl (by kernel_rfl) (fun _ _ _ h => h) (Or.inl ⟨by rfl, ?_⟩) ?_ ?_
      rotate_left
      · intro w'
        go_simp
        with_reducible rfl
      rotate_left
      · simp only [Act.put, zt, zu, zv, i64_w, i32_w]
        rfl
      refine pure_ (i := 1) (N := some 44) (v := ?_) (a' := ?_) #[T,T,F,F,F,F,F,F,F,F,F,F,F,F] rfl rfl (by kernel_rfl) (fun _ _ _ h => h) (Or.inl ⟨by rfl, ?_⟩) ?_ ?_
      rotate_left
      · intro w'
        go_simp
        with_reducible rfl
      rotate_left
      · simp only [Act.put, zt, zu, zv, i64_w, i32_w]
        rfl
      refine pure_ (i := 2) (N := some 45) (v := ?_) (a' := ?_) #[T,T,T,F,F,F,F,F,F,F,F,F,F,F] rfl rfl (by kernel_rfl) (fun _ _ _ h => h) (Or.inl ⟨by rfl, ?_⟩) ?_ ?_
      rotate_left
      · intro w'
        go_simp
        with_reducible rfl
      rotate_left
      · simp only [Act.put, zt, zu, zv, i64_w, i32_w]
        rfl
      refine take_ (i := 3) (N := some 46) (v := ?_) (a' := ?_) #[T,T,T,T,F,F,F,F,F,F,F,F,F,F] rfl rfl (by kernel_rfl) (fun _ _ _ h => h) (Or.inl ⟨by rfl, ?_⟩) hHeld ?_ ?_
      rotate_left
      · rintro w' ⟨s0, s1, s2, s3, s4, s5, s6⟩
        go_simp
        with_reducible rfl
      rotate_left
      · simp only [Act.put, zt, zu, zv, i64_w, i32_w]
        rfl
      refine pure_ (i := 4) (N := some 47) (v := ?_) (a' := ?_) #[T,T,T,T,T,F,F,F,F,F,F,F,F,F] rfl rfl (by kernel_rfl) (fun _ _ _ h => h) (Or.inl ⟨by rfl, ?_⟩) ?_ ?_
      rotate_left
      · intro w'
        go_simp
        with_reducible rfl
      rotate_left
      · simp only [Act.put, zt, zu, zv, i64_w, i32_w]
        rfl
      refine pure_ (i := 5) (N := some 48) (v := ?_) (a' := ?_) #[T,T,T,T,T,T,F,F,F,F,F,F,F,F] rfl rfl (by kernel_rfl) (fun _ _ _ h => h) (Or.inl ⟨by rfl, ?_⟩) ?_ ?_
      rotate_left
      · intro w'
        go_simp
        with_reducible rfl
      rotate_left
      · simp only [Act.put, zt, zu, zv, i64_w, i32_w]
        rfl
      refine pure_ (i := 6) (N := some 49) (v := ?_) (a' := ?_) #[T,T,T,T,T,T,T,F,F,F,F,F,F,F] rfl rfl (by kernel_rfl) (fun _ _ _ h => h) (Or.inl ⟨by rfl, ?_⟩) ?_ ?_
      rotate_left
      · intro w'
        go_simp
        with_reducible rfl
      rotate_left
      · simp only [Act.put, zt, zu, zv, i64_w, i32_w]
        rfl
      refine pure_ (i := 7) (N := some 50) (v := ?_) (a' := ?_) #[T,T,T,T,T,T,T,T,F,F,F,F,F,F] rfl rfl (by kernel_rfl) (fun _ _ _ h => h) (Or.inl ⟨by rfl, ?_⟩) ?_ ?_
      rotate_left
      · intro w'
        go_simp
        with_reducible rfl
      rotate_left
      · simp only [Act.put, zt, zu, zv, i64_w, i32_w]
        rfl
      refine pure_ (i := 8) (N := some 51) (v := ?_) (a' := ?_) #[T,T,T,T,T,T,T,T,T,F,F,F,F,F] rfl rfl (by kernel_rfl) (fun _ _ _ h => h) (Or.inl ⟨by rfl, ?_⟩) ?_ ?_
      rotate_left
      · intro w'
        go_simp
        with_reducible rfl
      rotate_left
      · simp only [Act.put, zt, zu, zv, i64_w, i32_w]
        rfl
      refine take_ (i := 9) (N := some 52) (v := ?_) (a' := ?_) #[T,T,T,T,T,T,T,T,T,T,F,F,F,F] rfl rfl (by kernel_rfl) (fun _ _ _ h => h) (Or.inl ⟨by rfl, ?_⟩) hHeld ?_ ?_
      rotate_left
      · rintro w' ⟨s0, s1, s2, s3, s4, s5, s6⟩
        go_simp
        with_reducible rfl
      rotate_left
      · simp only [Act.put, zt, zu, zv, i64_w, i32_w]
        rfl
      refine take_ (i := 10) (N := some 53) (v := ?_) (a' := ?_) #[T,T,T,T,T,T,T,T,T,T,T,F,F,F] rfl rfl (by kernel_rfl) (fun _ _ _ h => h) (Or.inl ⟨by rfl, ?_⟩) hHeld ?_ ?_
      rotate_left
      · rintro w' ⟨s0, s1, s2, s3, s4, s5, s6⟩
        go_simp
        with_reducible rfl
      rotate_left
      · simp only [Act.put, zt, zu, zv, i64_w, i32_w]
        rfl
      refine pure_ (i := 11) (N := some 54) (v := ?_) (a' := ?_) #[T,T,T,T,T,T,T,T,T,T,T,T,F,F] rfl rfl (by kernel_rfl) (fun _ _ _ h => h) (Or.inl ⟨by rfl, ?_⟩) ?_ ?_
      rotate_left
      · intro w'
        go_simp
        with_reducible rfl
      rotate_left
      · simp only [Act.put, zt, zu, zv, i64_w, i32_w]
        rfl
      refine pure_ (i := 12) (N := some 55) (v := ?_) (a' := ?_) #[T,T,T,T,T,T,T,T,T,T,T,T,T,F] rfl rfl (by kernel_rfl) (fun _ _ _ h => h) (Or.inl ⟨by rfl, ?_⟩) ?_ ?_
      rotate_left
      · intro w'
        go_simp
        with_reducible rfl
      rotate_left
      · simp only [Act.put, zt, zu, zv, i64_w, i32_w]
        rfl
      refine pure_ (i := 13) (N := some 42) (v := ?_) (a' := ?_) #[T,T,T,T,T,T,T,T,T,T,T,T,T,T] rfl rfl (by kernel_rfl) (fun _ _ _ h => h) (Or.inl ⟨by rfl, ?_⟩) ?_ ?_
      rotate_left
      · intro w'
        go_simp
        with_reducible rfl
      rotate_left
      · simp only [Act.put, zt, zu, zv, i64_w, i32_w]
        rfl
      refine done_ (by kernel_rfl) ?_
      have t0 : wr.drew.cell? ⟨g, i * 5, none⟩ = some (.int .i64 y.f0) := t0
      have HB' := Aside0.mk (show Below W.heap.size W wr.drew from HB.out.drew)
      have HX' := Aside0.mk (show wr.drew.heap[gb]? = some (.cells #[.string k.f0, .string k.f1, .int .i64 k.f2] 50 (0, 0)) from HX.out)
      obtain ⟨W5, hW5⟩ : ∃ W5, wr.drew = W5 := ⟨_, rfl⟩
      rw [hW5] at t0 HB' HX' ⊢
      clear t1 t2 t3 c0 c1 c2 HB HX hW5
      cases b with
      | true =>
        have HR := Aside0.mk (show r = ((i : Int), true) by
          have h := HPL2.out; have h2 := HBB.out; simp only [Bool.and_eq_true, beq_iff_eq] at h2; rw [if_pos ⟨HS1.out, h2⟩] at h
          exact (Option.some.inj h).symm)
        clear HPL2 HBB
        go_wp2_with fail
        go_ret2
        refine ⟨?_, HB'.out⟩; rw [HR.out]
        show Ending.returned (.tuple #[.int .i64 (wrap64 (i : Int)), .bool true]) = _
        rw [hwi]
      | false =>
        have HP3 := Aside0.mk (show plc S k k1 i1 sp = some r by
          have h := HPL2.out; have h2 := HBB.out; rw [if_neg (fun q => by rw [q.2.1, q.2.2.1, q.2.2.2] at h2; simp at h2), if_neg (fun q => by rw [HS1.out] at q; exact absurd q.1 (by decide))] at h
          exact h)
        clear HPL2 HBB
        go_wp2_with fail
        go_roundg k1
        case rel => exact ⟨i1, sp, rfl, rfl, ⟨HN.out, HP3.out⟩, HB', HX'⟩
        case measure => omega
    · have s1b : (y.f0 == 1) = false := by simp [s1]
      have HP3 := Aside0.mk (show plc S k k1 i1 (if y.f0 = 2 ∧ sp < 0 then i else sp) = some r by
          have h := HPL2.out; rw [if_neg (fun q => s1 q.1)] at h
          exact h)
      clear HPL2 s0 s1
      go_upto_region 10 with (fail)
      refine start_ (n := 14) (S := (fun w' => w'.cell? ⟨g, i * 5, none⟩ = some (.int .i64 y.f0) ∧ w'.cell? ⟨g, i * 5 + 1, none⟩ = some (.string y.f1.f0) ∧ w'.cell? ⟨g, i * 5 + 2, none⟩ = some (.string y.f1.f1) ∧ w'.cell? ⟨g, i * 5 + 3, none⟩ = some (.int .i64 y.f1.f2) ∧ w'.cell? ⟨gb, 0, none⟩ = some (.string k.f0) ∧ w'.cell? ⟨gb, 1, none⟩ = some (.string k.f1) ∧ w'.cell? ⟨gb, 2, none⟩ = some (.int .i64 k.f2))) (ds := []) #[F,F,F,F,F,F,F,F,F,F,F,F,F,F] (by kernel_rfl) rfl rfl ?_ ?_
      · exact ⟨t0, t1, t2, t3, c0, c1, c2⟩
      intro hHeld
      refine pure_ (i := 0) (N := some 43) (v := ?_) (a' := ?_) #[T,F,F,F,F,F,F,F,F,F,F,F,F,F] rfl rfl (by kernel_rfl) (fun _ _ _ h => h) (Or.inl ⟨by rfl, ?_⟩) ?_ ?_
      rotate_left
      · intro w'
        go_simp
        with_reducible rfl
      rotate_left
      · simp only [Act.put, zt, zu, zv, i64_w, i32_w]
        rfl
      refine pure_ (i := 1) (N := some 44) (v := ?_) (a' := ?_) #[T,T,F,F,F,F,F,F,F,F,F,F,F,F] rfl rfl (by kernel_rfl) (fun _ _ _ h => h) (Or.inl ⟨by rfl, ?_⟩) ?_ ?_
      rotate_left
      · intro w'
        go_simp
        with_reducible rfl
      rotate_left
      · simp only [Act.put, zt, zu, zv, i64_w, i32_w]
        rfl
      refine pure_ (i := 2) (N := some 45) (v := ?_) (a' := ?_) #[T,T,T,F,F,F,F,F,F,F,F,F,F,F] rfl rfl (by kernel_rfl) (fun _ _ _ h => h) (Or.inl ⟨by rfl, ?_⟩) ?_ ?_
      rotate_left
      · intro w'
        go_simp
        with_reducible rfl
      rotate_left
      · simp only [Act.put, zt, zu, zv, i64_w, i32_w]
        rfl
      refine take_ (i := 3) (N := some 46) (v := ?_) (a' := ?_) #[T,T,T,T,F,F,F,F,F,F,F,F,F,F] rfl rfl (by kernel_rfl) (fun _ _ _ h => h) (Or.inl ⟨by rfl, ?_⟩) hHeld ?_ ?_
      rotate_left
      · rintro w' ⟨s0, s1, s2, s3, s4, s5, s6⟩
        go_simp
        with_reducible rfl
      rotate_left
      · simp only [Act.put, zt, zu, zv, i64_w, i32_w]
        rfl
      refine pure_ (i := 4) (N := some 47) (v := ?_) (a' := ?_) #[T,T,T,T,T,F,F,F,F,F,F,F,F,F] rfl rfl (by kernel_rfl) (fun _ _ _ h => h) (Or.inl ⟨by rfl, ?_⟩) ?_ ?_
      rotate_left
      · intro w'
        go_simp
        with_reducible rfl
      rotate_left
      · simp only [Act.put, zt, zu, zv, i64_w, i32_w]
        rfl
      refine pure_ (i := 5) (N := some 48) (v := ?_) (a' := ?_) #[T,T,T,T,T,T,F,F,F,F,F,F,F,F] rfl rfl (by kernel_rfl) (fun _ _ _ h => h) (Or.inl ⟨by rfl, ?_⟩) ?_ ?_
      rotate_left
      · intro w'
        go_simp
        with_reducible rfl
      rotate_left
      · simp only [Act.put, zt, zu, zv, i64_w, i32_w]
        rfl
      refine pure_ (i := 6) (N := some 49) (v := undef) (a' := ?_) #[T,T,T,T,T,T,T,F,F,F,F,F,F,F] rfl rfl (by kernel_rfl) (fun _ _ _ h => h) (Or.inr ⟨by rfl, rfl⟩) ?_ ?_
      rotate_left
      · simp only [Act.put, zt, zu, zv, i64_w, i32_w]
        rfl
      refine pure_ (i := 7) (N := some 50) (v := undef) (a' := ?_) #[T,T,T,T,T,T,T,T,F,F,F,F,F,F] rfl rfl (by kernel_rfl) (fun _ _ _ h => h) (Or.inr ⟨by rfl, rfl⟩) ?_ ?_
      rotate_left
      · simp only [Act.put, zt, zu, zv, i64_w, i32_w]
        rfl
      refine pure_ (i := 8) (N := some 51) (v := undef) (a' := ?_) #[T,T,T,T,T,T,T,T,T,F,F,F,F,F] rfl rfl (by kernel_rfl) (fun _ _ _ h => h) (Or.inr ⟨by rfl, rfl⟩) ?_ ?_
      rotate_left
      · simp only [Act.put, zt, zu, zv, i64_w, i32_w]
        rfl
      refine pure_ (i := 9) (N := some 52) (v := undef) (a' := ?_) #[T,T,T,T,T,T,T,T,T,T,F,F,F,F] rfl rfl (by kernel_rfl) (fun _ _ _ h => h) (Or.inr ⟨by rfl, rfl⟩) ?_ ?_
      rotate_left
      · simp only [Act.put, zt, zu, zv, i64_w, i32_w]
        rfl
      refine pure_ (i := 10) (N := some 53) (v := undef) (a' := ?_) #[T,T,T,T,T,T,T,T,T,T,T,F,F,F] rfl rfl (by kernel_rfl) (fun _ _ _ h => h) (Or.inr ⟨by rfl, rfl⟩) ?_ ?_
      rotate_left
      · simp only [Act.put, zt, zu, zv, i64_w, i32_w]
        rfl
      refine pure_ (i := 11) (N := some 54) (v := undef) (a' := ?_) #[T,T,T,T,T,T,T,T,T,T,T,T,F,F] rfl rfl (by kernel_rfl) (fun _ _ _ h => h) (Or.inr ⟨by rfl, rfl⟩) ?_ ?_
      rotate_left
      · simp only [Act.put, zt, zu, zv, i64_w, i32_w]
        rfl
      refine pure_ (i := 12) (N := some 55) (v := ?_) (a' := ?_) #[T,T,T,T,T,T,T,T,T,T,T,T,T,F] rfl rfl (by kernel_rfl) (fun _ _ _ h => h) (Or.inl ⟨by rfl, ?_⟩) ?_ ?_
      rotate_left
      · intro w'
        go_simp
        with_reducible rfl
      rotate_left
      · simp only [Act.put, zt, zu, zv, i64_w, i32_w]
        rfl
      refine pure_ (i := 13) (N := some 42) (v := ?_) (a' := ?_) #[T,T,T,T,T,T,T,T,T,T,T,T,T,T] rfl rfl (by kernel_rfl) (fun _ _ _ h => h) (Or.inl ⟨by rfl, ?_⟩) ?_ ?_
      rotate_left
      · intro w'
        go_simp
        with_reducible rfl
      rotate_left
      · simp only [Act.put, zt, zu, zv, i64_w, i32_w]
        rfl
      refine done_ (by kernel_rfl) ?_
      have t0 : wr.drew.cell? ⟨g, i * 5, none⟩ = some (.int .i64 y.f0) := t0
      have HB' := Aside0.mk (show Below W.heap.size W wr.drew from HB.out.drew)
      have HX' := Aside0.mk (show wr.drew.heap[gb]? = some (.cells #[.string k.f0, .string k.f1, .int .i64 k.f2] 50 (0, 0)) from HX.out)
      obtain ⟨W5, hW5⟩ : ∃ W5, wr.drew = W5 := ⟨_, rfl⟩
      rw [hW5] at t0 HB' HX' ⊢
      clear t1 t2 t3 c0 c1 c2 HB HX hW5
      by_cases s2 : y.f0 = 2
      · have s2b : (y.f0 == 2) = true := by simp [s2]
        by_cases hsp : sp < 0
        · have hspb : decide (sp < 0) = true := decide_eq_true hsp
          have HP4 := Aside0.mk (show plc S k k1 i1 (i : Int) = some r by have h := HP3.out; rw [if_pos ⟨s2, hsp⟩] at h; exact h)
          clear HP3 s2 hsp
          go_wp2_with fail
          go_roundg k1
          case rel => exact ⟨i1, (i : Int), by rw [hwi], rfl, ⟨HN.out, HP4.out⟩, HB', HX'⟩
          case measure => omega
        · have hspb : decide (sp < 0) = false := decide_eq_false hsp
          have HP4 := Aside0.mk (show plc S k k1 i1 sp = some r by have h := HP3.out; rw [if_neg (fun q => hsp q.2)] at h; exact h)
          clear HP3 s2 hsp
          go_wp2_with fail
          go_roundg k1
          case rel => exact ⟨i1, sp, rfl, rfl, ⟨HN.out, HP4.out⟩, HB', HX'⟩
          case measure => omega
      · have s2b : (y.f0 == 2) = false := by simp [s2]
        have HP4 := Aside0.mk (show plc S k k1 i1 sp = some r by have h := HP3.out; rw [if_neg (fun q => s2 q.1)] at h; exact h)
        clear HP3 s2
        go_wp2_with fail
        go_roundg k1
        case rel => exact ⟨i1, sp, rfl, rfl, ⟨HN.out, HP4.out⟩, HB', HX'⟩
        case measure => omega
end Go.Proofs.Ytpekchebllobmaa.G
namespace Go.Proofs.Ytpekchebllobmaa.G
open Go.RowKit Go.Proofs.YtpekchebllobmaaW.PrintWords
set_option linter.unusedVariables false
set_option linter.unusedSimpArgs false
theorem bytes_eq {a b : ByteArray} (h : a.toList = b.toList) : a = b := by
  rw [ByteArray.toList_eq, ByteArray.toList_eq] at h; cases a; cases b
  congr 1
  exact Array.toList_inj.1 h
theorem key_iff (x k : S50) : (x.f0.toList = k.f0.toList ∧ x.f1.toList = k.f1.toList ∧ x.f2 = k.f2) ↔ x = k := by
  constructor; (rintro ⟨a, b, c⟩; cases x; cases k; simp only at a b c; rw [bytes_eq a, bytes_eq b, c]); (rintro rfl; exact ⟨rfl, rfl, rfl⟩)
theorem at60_set (S : List S81) (j : Nat) (x : S81) (i : Nat) (hj : j < S.length) : at60 (S.set j x) i = if i = j then x else at60 S i := by
  unfold at60; rw [List.getD_eq_getElem?_getD, List.getD_eq_getElem?_getD, List.getElem?_set]
  by_cases h : j = i
  (subst h; simp [hj]); (rw [if_neg h, if_neg (fun q => h q.symm)])
theorem at60_rep (n i : Nat) : at60 (List.replicate n z81) i = z81 := by
  unfold at60; rw [List.getD_eq_getElem?_getD, List.getElem?_replicate]; split <;> rfl
open Classical in
/-- A map with one label's number changed. -/
noncomputable def upd (D : S50 → Option Int) (k : S50) (o : Option Int) : S50 → Option Int := fun k' => if k' = k then o else D k'
theorem upd_same (D : S50 → Option Int) (k : S50) (o : Option Int) : upd D k o k = o := by unfold upd; rw [if_pos rfl]
theorem upd_other (D : S50 → Option Int) {k k' : S50} (o : Option Int) (h : k' ≠ k) : upd D k o k' = D k' := by unfold upd; rw [if_neg h]
/-- The sizes that a label's texts may have. -/
def Fit (k : S50) : Prop := k.f0.size ≤ 140737488351232 ∧ k.f1.size ≤ 140737488351232
/-- Places that hold a map. -/
structure OK (S : List S81) (live used : Nat) (D : S50 → Option Int) : Prop where
  pw : ∃ e, S.length = 2 ^ e ∧ e ≤ 40
  hl : live = S.countP (fun x => x.f0 == 1)
  hu : used = S.countP (fun x => !(x.f0 == 0))
  pr : ∀ j, j < S.length → (at60 S j).f0 = 1 → ∃ t, j = (hashN (at60 S j).f1 + t) % S.length ∧ ∀ u, u < t → ¬ (at60 S ((hashN (at60 S j).f1 + u) % S.length)).f0 = 0
  un : ∀ i j, i < S.length → j < S.length → (at60 S i).f0 = 1 → (at60 S j).f0 = 1 → (at60 S i).f1 = (at60 S j).f1 → i = j
  dd : ∀ k v, D k = some v ↔ ∃ j, j < S.length ∧ (at60 S j).f0 = 1 ∧ (at60 S j).f1 = k ∧ (at60 S j).f2 = v
  sz : ∀ j, j < S.length → (at60 S j).f0 = 1 → Fit (at60 S j).f1
theorem two_pos (e : Nat) : 0 < 2 ^ e := Nat.two_pow_pos e
theorem OK.len {S : List S81} {live used : Nat} {D : S50 → Option Int} (h : OK S live used D) : 0 < S.length ∧ S.length ≤ 1099511627776 := by
  obtain ⟨e, h1, h2⟩ := h.pw; rw [h1]; exact ⟨two_pos e, Nat.pow_le_pow_right (by omega) h2⟩
theorem OK.live_le {S : List S81} {live used : Nat} {D : S50 → Option Int} (h : OK S live used D) : live ≤ used ∧ used ≤ S.length := by
  rw [h.hl, h.hu]; refine ⟨List.countP_mono_left ?_, List.countP_le_length⟩; intro x _ hx; simp only [beq_iff_eq] at hx; simp [hx]
theorem at60_mem {S : List S81} {x : S81} (h : x ∈ S) : ∃ j, j < S.length ∧ at60 S j = x := by
  obtain ⟨j, hj, e⟩ := List.getElem_of_mem h; exact ⟨j, hj, by rw [at60_eq S j hj, e]⟩
theorem mem_at60 {S : List S81} {j : Nat} (h : j < S.length) : at60 S j ∈ S := by
  rw [at60_eq S j h]; exact List.getElem_mem h
theorem least (p : Nat → Prop) : ∀ n, p n → ∃ t, t ≤ n ∧ p t ∧ ∀ u, u < t → ¬ p u := by
  classical
  intro n
  induction n using Nat.strongRecOn with
  | ind n ih =>
    intro hn
    by_cases h : ∃ m, m < n ∧ p m
    (obtain ⟨m, hm, pm⟩ := h; obtain ⟨t, a, b, c⟩ := ih m hm pm; exact ⟨t, by omega, b, c⟩); (exact ⟨n, Nat.le_refl n, hn, fun u hu pu => h ⟨u, hu, pu⟩⟩)
theorem OK.place {S : List S81} {live used : Nat} {D : S50 → Option Int} (ok : OK S live used D) (hf : used < S.length) (k : S50) :
    ∃ f r, plc S k f (hashN k % S.length) (-1) = some r ∧
      ((∃ j, j < S.length ∧ r = ((j : Int), true) ∧ (at60 S j).f0 = 1 ∧ (at60 S j).f1 = k) ∨
       (∃ j, j < S.length ∧ r = ((j : Int), false) ∧ (at60 S j).f0 ≠ 1 ∧ (∀ i, i < S.length → (at60 S i).f0 = 1 → (at60 S i).f1 ≠ k) ∧ ∃ t, j = (hashN k + t) % S.length ∧ ∀ u, u < t → ¬ (at60 S ((hashN k + u) % S.length)).f0 = 0)) := by
  obtain ⟨h0, hh⟩ : ∃ h0, hashN k = h0 := ⟨_, rfl⟩; rw [hh]; obtain ⟨hL, _⟩ := ok.len
  have hq : ∃ q, q < S.length ∧ (at60 S q).f0 = 0 := by
    apply Classical.byContradiction; intro h
    have : S.countP (fun x => !(x.f0 == 0)) = S.length := by
      rw [List.countP_eq_length]; intro x hx; obtain ⟨j, hj, rfl⟩ := at60_mem hx
      have : ¬ (at60 S j).f0 = 0 := fun q => h ⟨j, hj, q⟩
      simp [this]
    have := ok.hu; omega
  obtain ⟨q, hq1, hq2⟩ := hq
  have hT : ∃ n, (at60 S ((h0 + n) % S.length)).f0 = 0 := by
    refine ⟨q + S.length - h0 % S.length, ?_⟩; have h1 := Nat.mod_lt (h0) hL; have h2 := Nat.mod_add_div (h0) S.length
    have e : h0 + (q + S.length - h0 % S.length) = q + S.length * (h0 / S.length + 1) := by
      rw [Nat.mul_add]; omega
    rw [e, Nat.add_mul_mod_self_left, Nat.mod_eq_of_lt hq1]; exact hq2
  obtain ⟨n, hn⟩ := hT; obtain ⟨T, _, hT1, hT2⟩ := least (fun n => (at60 S ((h0 + n) % S.length)).f0 = 0) n hn
  have main : ∀ d t, t + d = T → ∀ sp : Int, (∀ u, u < t → ¬ ((at60 S ((h0 + u) % S.length)).f0 = 1 ∧ (at60 S ((h0 + u) % S.length)).f1 = k)) → (sp = -1 ∨ ∃ s, s < t ∧ sp = (((h0 + s) % S.length : Nat) : Int) ∧ (at60 S ((h0 + s) % S.length)).f0 = 2) →
      ∃ r, plc S k (d + 1) ((h0 + t) % S.length) sp = some r ∧
      ((∃ j, j < S.length ∧ r = ((j : Int), true) ∧ (at60 S j).f0 = 1 ∧ (at60 S j).f1 = k) ∨
       (∃ j, j < S.length ∧ r = ((j : Int), false) ∧ (at60 S j).f0 ≠ 1 ∧ (∀ i, i < S.length → (at60 S i).f0 = 1 → (at60 S i).f1 ≠ k) ∧ ∃ t, j = (h0 + t) % S.length ∧ ∀ u, u < t → ¬ (at60 S ((h0 + u) % S.length)).f0 = 0)) := by
    intro d
    induction d with
    | zero =>
      intro t ht sp hu hs; have ht : t = T := ht; subst ht; refine ⟨_, by rw [plc, if_pos hT1], Or.inr ?_⟩
      have none : ∀ i, i < S.length → (at60 S i).f0 = 1 → (at60 S i).f1 ≠ k := by
        intro i hi h1 h2; obtain ⟨t', e, hn⟩ := ok.pr i hi h1; rw [h2, hh] at e hn
        rcases Nat.lt_trichotomy t' t with h | h | h
        (exact hu t' h ⟨e ▸ h1, e ▸ h2⟩); (rw [h] at e; rw [e] at h1; rw [hT1] at h1; exact absurd h1 (by decide)); (exact hn t h hT1)
      rcases hs with rfl | ⟨s, hs1, rfl, hs2⟩
      (refine ⟨(h0 + t) % S.length, Nat.mod_lt _ hL, by rw [if_neg (by omega)], by rw [hT1]; decide, none, t, rfl, hT2⟩); (refine ⟨(h0 + s) % S.length, Nat.mod_lt _ hL, by rw [if_pos (by omega)], by rw [hs2]; decide, none, s, rfl, fun u hu => hT2 u (by omega)⟩)
    | succ d ih =>
      intro t ht sp hu hs; have hnf := hT2 t (by omega); rw [plc, if_neg hnf]
      by_cases hk : (at60 S ((h0 + t) % S.length)).f0 = 1 ∧ (at60 S ((h0 + t) % S.length)).f1 = k
      · rw [if_pos ⟨hk.1, (key_iff _ _).2 hk.2⟩]
        exact ⟨_, rfl, Or.inl ⟨_, Nat.mod_lt _ hL, rfl, hk.1, hk.2⟩⟩
      · rw [if_neg (fun q => hk ⟨q.1, (key_iff _ _).1 q.2⟩), Nat.mod_add_mod, Nat.add_assoc]
        refine ih (t + 1) (by omega) _ ?_ ?_
        · intro u h
          by_cases hut : u = t
          · rw [hut]; exact hk
          · exact hu u (by omega)
        · by_cases h2 : (at60 S ((h0 + t) % S.length)).f0 = 2 ∧ sp < 0
          · rw [if_pos h2]
            exact Or.inr ⟨t, by omega, rfl, h2.1⟩
          · rw [if_neg h2]
            rcases hs with h | ⟨s, a, b, c⟩
            · exact Or.inl h
            · exact Or.inr ⟨s, by omega, b, c⟩
  obtain ⟨r, h1, h2⟩ := main T 0 (by omega) (-1) (fun u h => absurd h (by omega)) (Or.inl rfl); rw [Nat.add_zero] at h1; exact ⟨T + 1, r, h1, h2⟩
theorem OK.none_of {S : List S81} {live used : Nat} {D : S50 → Option Int} (ok : OK S live used D) {k : S50} (h : ∀ i, i < S.length → (at60 S i).f0 = 1 → (at60 S i).f1 ≠ k) : D k = none := by
  cases hd : D k with
  | none => rfl
  | some v =>
    obtain ⟨j, hj, a, b, _⟩ := (ok.dd k v).1 hd; exact absurd b (h j hj a)
theorem OK.some_of {S : List S81} {live used : Nat} {D : S50 → Option Int} (ok : OK S live used D) {k : S50} {j : Nat} (hj : j < S.length) (h1 : (at60 S j).f0 = 1) (h2 : (at60 S j).f1 = k) : D k = some (at60 S j).f2 :=
  (ok.dd k _).2 ⟨j, hj, h1, h2, rfl⟩
theorem OK.put {S : List S81} {live used : Nat} {D : S50 → Option Int} (ok : OK S live used D) {k : S50} {j : Nat} (v : Int) (hj : j < S.length) (h1 : (at60 S j).f0 ≠ 1)
    (hn : ∀ i, i < S.length → (at60 S i).f0 = 1 → (at60 S i).f1 ≠ k) (ht : ∃ t, j = (hashN k + t) % S.length ∧ ∀ u, u < t → ¬ (at60 S ((hashN k + u) % S.length)).f0 = 0) (hk : Fit k) :
    OK (S.set j ⟨1, k, v⟩) (live + 1) (if (at60 S j).f0 = 0 then used + 1 else used) (upd D k (some v)) := by
  have hz : ∀ u, ¬ (at60 S u).f0 = 0 → ¬ (at60 (S.set j ⟨1, k, v⟩) u).f0 = 0 := by
    intro u hu; rw [at60_set S j _ u hj]; split
    · show ¬ (1 : Int) = 0
      decide
    · exact hu
  constructor; (rw [List.length_set]; exact ok.pw); (rw [List.countP_set hj, ok.hl, ← at60_eq S j hj, if_neg (by simpa using h1), if_pos (by rfl)]; omega)
  · rw [List.countP_set hj, ok.hu, ← at60_eq S j hj]
    have : 0 < S.length := by omega
    by_cases h0 : (at60 S j).f0 = 0
    · rw [if_pos h0, if_neg (by simp [h0]), if_pos (by rfl)]
      omega
    · rw [if_neg h0, if_pos (by simp [h0]), if_pos (by rfl)]
      have : 0 < S.countP (fun x => !(x.f0 == 0)) := List.countP_pos_iff.2 ⟨at60 S j, mem_at60 hj, by simp [h0]⟩
      omega
  · rw [List.length_set]
    intro i hi hs
    by_cases hij : i = j
    · subst hij
      rw [at60_set S i _ i hj, if_pos rfl]
      obtain ⟨t, e, hu⟩ := ht
      exact ⟨t, e, fun u h => hz _ (hu u h)⟩
    · rw [at60_set S j _ i hj, if_neg hij] at hs ⊢
      obtain ⟨t, e, hu⟩ := ok.pr i hi hs
      exact ⟨t, e, fun u h => hz _ (hu u h)⟩
  · rw [List.length_set]
    intro a b ha hb sa sb he
    rw [at60_set S j _ a hj] at sa he
    rw [at60_set S j _ b hj] at sb he
    by_cases haj : a = j
    · by_cases hbj : b = j
      · omega
      · rw [if_pos haj, if_neg hbj] at he
        rw [if_neg hbj] at sb
        exact absurd he.symm (hn b hb sb)
    · rw [if_neg haj] at sa
      by_cases hbj : b = j
      · rw [if_neg haj, if_pos hbj] at he
        exact absurd he (hn a ha sa)
      · rw [if_neg haj, if_neg hbj] at he
        rw [if_neg hbj] at sb
        exact ok.un a b ha hb sa sb he
  · intro k' v'
    rw [List.length_set]
    by_cases hkk : k' = k
    · subst hkk
      rw [upd_same]
      constructor
      · intro h
        refine ⟨j, hj, ?_⟩
        rw [at60_set S j _ j hj, if_pos rfl]
        exact ⟨rfl, rfl, Option.some.inj h⟩
      · rintro ⟨i, hi, a, b, c⟩
        rw [at60_set S j _ i hj] at a b c
        by_cases hij : i = j
        · rw [if_pos hij] at c
          exact congrArg some c
        · rw [if_neg hij] at a b
          exact absurd b (hn i hi a)
    · rw [upd_other _ _ hkk, ok.dd]
      constructor
      · rintro ⟨i, hi, a, b, c⟩
        refine ⟨i, hi, ?_⟩
        rw [at60_set S j _ i hj, if_neg (fun q => h1 (by rw [← q]; exact a))]
        exact ⟨a, b, c⟩
      · rintro ⟨i, hi, a, b, c⟩
        rw [at60_set S j _ i hj] at a b c
        by_cases hij : i = j
        · rw [if_pos hij] at b
          exact absurd b.symm hkk
        · rw [if_neg hij] at a b c
          exact ⟨i, hi, a, b, c⟩
  · rw [List.length_set]
    intro i hi hs
    rw [at60_set S j _ i hj] at hs ⊢
    by_cases hij : i = j
    · rw [if_pos hij]; exact hk
    · rw [if_neg hij] at hs ⊢; exact ok.sz i hi hs
theorem OK.drop {S : List S81} {live used : Nat} {D : S50 → Option Int} (ok : OK S live used D) {k : S50} {j : Nat} (hj : j < S.length) (h1 : (at60 S j).f0 = 1) (h2 : (at60 S j).f1 = k) :
    OK (S.set j ⟨2, z50, 0⟩) (live - 1) used (upd D k none) := by
  have hz : ∀ u, ¬ (at60 S u).f0 = 0 → ¬ (at60 (S.set j ⟨2, z50, 0⟩) u).f0 = 0 := by
    intro u hu; rw [at60_set S j _ u hj]; split
    · show ¬ (2 : Int) = 0
      decide
    · exact hu
  have old : ∀ i, (at60 (S.set j ⟨2, z50, 0⟩) i).f0 = 1 → i ≠ j ∧ at60 (S.set j ⟨2, z50, 0⟩) i = at60 S i := by
    intro i h
    by_cases hij : i = j
    (rw [hij, at60_set S j _ j hj, if_pos rfl] at h; exact absurd h (by decide)); (rw [at60_set S j _ i hj, if_neg hij]; exact ⟨hij, rfl⟩)
  constructor; (rw [List.length_set]; exact ok.pw); (rw [List.countP_set hj, ok.hl, ← at60_eq S j hj, if_pos (by simp [h1]), if_neg (by decide)]; rfl); (rw [List.countP_set hj, ok.hu, ← at60_eq S j hj, if_pos (by simp [h1]), if_pos (by rfl)]; have : 0 < S.countP (fun x => !(x.f0 == 0)) := List.countP_pos_iff.2 ⟨at60 S j, mem_at60 hj, by simp [h1]⟩; omega); (rw [List.length_set]; intro i hi hs; obtain ⟨hij, e⟩ := old i hs; rw [e] at hs ⊢; obtain ⟨t, e, hu⟩ := ok.pr i hi hs; exact ⟨t, e, fun u h => hz _ (hu u h)⟩); (rw [List.length_set]; intro a b ha hb sa sb he; obtain ⟨_, ea⟩ := old a sa; obtain ⟨_, eb⟩ := old b sb; rw [ea] at sa he; rw [eb] at sb he; exact ok.un a b ha hb sa sb he)
  · intro k' v'
    rw [List.length_set]
    by_cases hkk : k' = k
    · subst hkk
      rw [upd_same]
      constructor
      · intro h; cases h
      · rintro ⟨i, hi, a, b, c⟩
        obtain ⟨hij, e⟩ := old i a
        rw [e] at a b
        exact absurd (ok.un i j hi hj a h1 (b.trans h2.symm)) hij
    · rw [upd_other _ _ hkk, ok.dd]
      constructor
      · rintro ⟨i, hi, a, b, c⟩
        refine ⟨i, hi, ?_⟩
        rw [at60_set S j _ i hj, if_neg (fun q => hkk (by rw [← b, ← h2, q]))]
        exact ⟨a, b, c⟩
      · rintro ⟨i, hi, a, b, c⟩
        obtain ⟨hij, e⟩ := old i a
        rw [e] at a b c
        exact ⟨i, hi, a, b, c⟩
  · rw [List.length_set]
    intro i hi hs; obtain ⟨_, e⟩ := old i hs; rw [e] at hs ⊢; exact ok.sz i hi hs
theorem OK.fresh (n : Nat) (hp : ∃ e, n = 2 ^ e ∧ e ≤ 40) : OK (List.replicate n z81) 0 0 (fun _ => none) := by
  have h0 : ∀ j, ¬ (at60 (List.replicate n z81) j).f0 = 1 := by
    intro j; rw [at60_rep]; decide
  constructor; (rw [List.length_replicate]; exact hp); (rw [List.countP_replicate, if_neg (by decide)]); (rw [List.countP_replicate, if_neg (by decide)]); (intro j _ h; exact absurd h (h0 j)); (intro i j _ _ h; exact absurd h (h0 i))
  · intro k v
    constructor
    · intro h; cases h
    · rintro ⟨j, _, a, _⟩; exact absurd a (h0 j)
  · intro j _ h; exact absurd h (h0 j)
theorem OK.zero {S : List S81} {used : Nat} {D : S50 → Option Int} (ok : OK S 0 used D) : D = fun _ => none := by
  funext k
  refine ok.none_of ?_; intro i hi h; have hp : 0 < S.countP (fun x : S81 => x.f0 == 1) := List.countP_pos_iff.2 ⟨at60 S i, mem_at60 hi, by simp [h]⟩; have := ok.hl; omega
/-- The map of the first places. -/
noncomputable def part (S : List S81) (D : S50 → Option Int) (i : Nat) : S50 → Option Int := by
  classical
  exact fun k => if ∃ j, j < i ∧ (at60 S j).f0 = 1 ∧ (at60 S j).f1 = k then D k else none
theorem part_zero (S : List S81) (D : S50 → Option Int) : part S D 0 = fun _ => none := by
  funext k
  unfold part; rw [if_neg]; rintro ⟨j, h, _⟩; omega
theorem part_all {S : List S81} {live used : Nat} {D : S50 → Option Int} (ok : OK S live used D) : part S D S.length = D := by
  funext k
  unfold part; split; (rfl)
  · rename_i h
    exact (ok.none_of (fun i hi a b => h ⟨i, hi, a, b⟩)).symm
theorem part_skip (S : List S81) (D : S50 → Option Int) (i : Nat) (h : ¬ (at60 S i).f0 = 1) : part S D (i + 1) = part S D i := by
  funext k
  unfold part
  by_cases h1 : ∃ j, j < i ∧ (at60 S j).f0 = 1 ∧ (at60 S j).f1 = k
  · rw [if_pos h1, if_pos (by obtain ⟨j, a, b⟩ := h1; exact ⟨j, by omega, b⟩)]
  · rw [if_neg h1, if_neg]
    rintro ⟨j, a, b⟩
    by_cases hji : j = i
    · exact h (hji ▸ b.1)
    · exact h1 ⟨j, by omega, b⟩
theorem part_step {S : List S81} {live used : Nat} {D : S50 → Option Int} (ok : OK S live used D) (i : Nat) (hi : i < S.length) (h : (at60 S i).f0 = 1) :
    part S D i (at60 S i).f1 = none ∧ part S D (i + 1) = upd (part S D i) (at60 S i).f1 (some (at60 S i).f2) := by
  have no : ¬ ∃ j, j < i ∧ (at60 S j).f0 = 1 ∧ (at60 S j).f1 = (at60 S i).f1 := by
    rintro ⟨j, a, b, c⟩; have := ok.un j i (by omega) hi b h c; omega
  refine ⟨by unfold part; rw [if_neg no], ?_⟩
  funext k
  by_cases hk : k = (at60 S i).f1
  · subst hk
    rw [upd_same]; unfold part; rw [if_pos ⟨i, by omega, h, rfl⟩]; exact ok.some_of hi h rfl
  · rw [upd_other _ _ hk]
    unfold part
    by_cases h1 : ∃ j, j < i ∧ (at60 S j).f0 = 1 ∧ (at60 S j).f1 = k
    · rw [if_pos h1, if_pos (by obtain ⟨j, a, b⟩ := h1; exact ⟨j, by omega, b⟩)]
    · rw [if_neg h1, if_neg]
      rintro ⟨j, a, b⟩
      by_cases hji : j = i
      · exact hk (by rw [← b.2, hji])
      · exact h1 ⟨j, by omega, b⟩
/-- How many of the first places are taken. -/
def cnt (S : List S81) (i : Nat) : Nat := (S.take i).countP (fun x => x.f0 == 1)
theorem cnt_zero (S : List S81) : cnt S 0 = 0 := rfl
theorem cnt_all (S : List S81) : cnt S S.length = S.countP (fun x => x.f0 == 1) := by unfold cnt; rw [List.take_length]
theorem cnt_step (S : List S81) (i : Nat) (hi : i < S.length) : cnt S (i + 1) = cnt S i + if (at60 S i).f0 = 1 then 1 else 0 := by
  unfold cnt; rw [List.take_add_one, List.getElem?_eq_getElem hi, List.countP_append, ← at60_eq S i hi]
  congr 1
  by_cases h : (at60 S i).f0 = 1
  (rw [if_pos h]; simp [h]); (rw [if_neg h]; simp [h])
theorem cnt_le (S : List S81) (i : Nat) : cnt S i ≤ S.countP (fun x => x.f0 == 1) := by
  unfold cnt
  conv => rhs; rw [← List.take_append_drop i S, List.countP_append]
  omega
end Go.Proofs.Ytpekchebllobmaa.G
namespace Go.Proofs.Ytpekchebllobmaa.G
open List renaming setIfInBounds_toArray → zt, set_cons_zero → zu, set_cons_succ → zv
open Bool renaming true → T, false → F
open Go.RowKit Go.Proofs.YtpekchebllobmaaW.PrintWords Go.Proofs.YtpekchebllobmaaW.PrintLast Go.Proofs.YtpekchebllobmaaW.PrintMore
set_option linter.unusedVariables false
set_option linter.unusedSimpArgs false
/-- All blocks but two are kept. -/
structure Kp (W w : World) (p g : Nat) : Prop where
  os : w.os = W.os
  tape : w.tape = W.tape
  output : w.output = W.output
  size : W.heap.size ≤ w.heap.size
  block : ∀ b, b < W.heap.size → b ≠ p → b ≠ g → w.heap[b]? = W.heap[b]?
theorem Kp.of {W w : World} (h : Below W.heap.size W w) (p g : Nat) : Kp W w p g := ⟨h.os, h.tape, h.output, h.size, fun b hb _ _ => h.block b hb⟩
theorem Kp.below {W w : World} {p g base : Nat} (h : Kp W w p g) (hp : base ≤ p) (hg : base ≤ g) (hs : base ≤ W.heap.size) : Below base W w := ⟨h.os, h.tape, h.output, h.size, fun b hb => h.block b (by omega) (by omega) (by omega)⟩
theorem Kp.trans {W w v : World} {p g g' : Nat} (h : Kp W w p g) (hg : g' = g ∨ W.heap.size ≤ g') (h2 : Kp w v p g') : Kp W v p g :=
  ⟨h2.os.trans h.os, h2.tape.trans h.tape, h2.output.trans h.output, Nat.le_trans h.size h2.size, fun b hb h3 h4 => (h2.block b (Nat.lt_of_lt_of_le hb h.size) h3 (by rcases hg with e | e <;> omega)).trans (h.block b hb h3 h4)⟩
theorem Kp.set {W : World} {p g : Nat} (a : Addr) (v : Value) (ha : a.block = p ∨ a.block = g) : Kp W (W.setCell a v) p g := by
  have h := (Below.refl a.block W).setCell (Nat.le_refl _) v; exact ⟨h.os, h.tape, h.output, h.size, fun b hb h1 h2 => Below.heap_setCell W a v b (by rcases ha with e | e <;> omega)⟩
/-- A table in memory that holds a map. -/
structure TB (W : World) (base p g : Nat) (S : List S81) (n used : Nat) (D : S50 → Option Int) : Prop where
  tw : TW W base p g S (n : Int) (used : Int)
  ok : OK S n used D
  le : 4 * used ≤ 3 * S.length
theorem TB.below {W W' : World} {base p g : Nat} {S : List S81} {n used : Nat} {D : S50 → Option Int} (h : TB W base p g S n used D) (hb : Below W.heap.size W W') : TB W' base p g S n used D := ⟨h.tw.below hb, h.ok, h.le⟩
set_option maxHeartbeats 4000000 in
set_option maxRecDepth 100000 in
theorem grow_no (W : World) (base p g : Nat) (S : List S81) (n used : Nat) (D : S50 → Option Int) (h : TB W base p g S n used D) (hn : 4 * (used + 1) ≤ 3 * S.length) :
    Calls Try.prog 44 #[.pointer (some ⟨p, 0, none⟩)] W fun e w' => e = .returned (.tuple #[]) ∧ Below W.heap.size W w' := by
  have HT := Aside0.mk h; have hp0 : W.cell? ⟨p, 0, none⟩ = some (.slice (some ⟨g, 0, none⟩) S.length S.length) := (zC h.tw.bp 0).trans rfl; have hp2 : W.cell? ⟨p, 2, none⟩ = some (.int .i64 (used : Int)) := (zC h.tw.bp 2).trans rfl; have hL := h.ok.len.2
  have w1 : wrap64 ((used : Int) + 1) = (used : Int) + 1 := by unfold wrap64; omega
  have w2 : wrap64 (4 * ((used : Int) + 1)) = 4 * ((used : Int) + 1) := by unfold wrap64; omega
  have w3 : wrap64 (3 * (S.length : Int)) = 3 * (S.length : Int) := by unfold wrap64; omega
  have hd : decide (4 * ((used : Int) + 1) ≤ 3 * (S.length : Int)) = true := decide_eq_true (by omega); clear h hn hL
  go_enter Try.func44, Try.ntmps44
  go_upto_region 0 with (fail)
  refine start_ (n := 13) (S := (fun w' => w'.cell? ⟨p, 0, none⟩ = some (.slice (some ⟨g, 0, none⟩) S.length S.length) ∧ w'.cell? ⟨p, 2, none⟩ = some (.int .i64 (used : Int)))) (ds := []) #[F,F,F,F,F,F,F,F,F,F,F,F,F] (by kernel_rfl) rfl rfl ?_ ?_; (exact ⟨hp0, hp2⟩); intro hHeld; refine pure_ (i := 0) (N := some 6) (v := ?_) (a' := ?_) #[T,F,F,F,F,F,F,F,F,F,F,F,F] rfl rfl (by kernel_rfl) (fun _ _ _ h => h) (Or.inl ⟨by rfl, ?_⟩) ?_ ?_; rotate_left; (intro w'; go_simp; (with_reducible rfl)); rotate_left; (simp only [Act.put, zt, zu, zv, i64_w, i32_w]; rfl); refine pure_ (i := 1) (N := some 7) (v := ?_) (a' := ?_) #[T,T,F,F,F,F,F,F,F,F,F,F,F] rfl rfl (by kernel_rfl) (fun _ _ _ h => h) (Or.inl ⟨by rfl, ?_⟩) ?_ ?_; rotate_left; (intro w'; go_simp; (with_reducible rfl)); rotate_left; (simp only [Act.put, zt, zu, zv, i64_w, i32_w]; rfl); refine pure_ (i := 2) (N := some 8) (v := ?_) (a' := ?_) #[T,T,T,F,F,F,F,F,F,F,F,F,F] rfl rfl (by kernel_rfl) (fun _ _ _ h => h) (Or.inl ⟨by rfl, ?_⟩) ?_ ?_; rotate_left; (intro w'; go_simp; (with_reducible rfl)); rotate_left; (simp only [Act.put, zt, zu, zv, i64_w, i32_w]; rfl); refine pure_ (i := 6) (N := some 12) (v := ?_) (a' := ?_) #[T,T,T,F,F,F,T,F,F,F,F,F,F] rfl rfl (by kernel_rfl) (fun _ _ _ h => h) (Or.inl ⟨by rfl, ?_⟩) ?_ ?_; rotate_left; (intro w'; go_simp; (with_reducible rfl)); rotate_left; (simp only [Act.put, zt, zu, zv, i64_w, i32_w]; rfl); refine pure_ (i := 7) (N := some 13) (v := ?_) (a' := ?_) #[T,T,T,F,F,F,T,T,F,F,F,F,F] rfl rfl (by kernel_rfl) (fun _ _ _ h => h) (Or.inl ⟨by rfl, ?_⟩) ?_ ?_; rotate_left; (intro w'; go_simp; (with_reducible rfl)); rotate_left; (simp only [Act.put, zt, zu, zv, i64_w, i32_w]; rfl); refine pure_ (i := 8) (N := some 14) (v := ?_) (a' := ?_) #[T,T,T,F,F,F,T,T,T,F,F,F,F] rfl rfl (by kernel_rfl) (fun _ _ _ h => h) (Or.inl ⟨by rfl, ?_⟩) ?_ ?_; rotate_left; (intro w'; go_simp; (with_reducible rfl)); rotate_left; (simp only [Act.put, zt, zu, zv, i64_w, i32_w]; rfl); refine take_ (i := 3) (N := some 9) (v := ?_) (a' := ?_) #[T,T,T,T,F,F,T,T,T,F,F,F,F] rfl rfl (by kernel_rfl) (fun _ _ _ h => h) (Or.inl ⟨by rfl, ?_⟩) hHeld ?_ ?_; rotate_left; (rintro w' ⟨s0, s1⟩; go_simp; (with_reducible rfl)); rotate_left; (simp only [Act.put, zt, zu, zv, i64_w, i32_w]; rfl); refine pure_ (i := 4) (N := some 10) (v := ?_) (a' := ?_) #[T,T,T,T,T,F,T,T,T,F,F,F,F] rfl rfl (by kernel_rfl) (fun _ _ _ h => h) (Or.inl ⟨by rfl, ?_⟩) ?_ ?_; rotate_left; (intro w'; go_simp; (with_reducible rfl)); rotate_left; (simp only [Act.put, zt, zu, zv, i64_w, i32_w]; rfl); refine pure_ (i := 5) (N := some 11) (v := ?_) (a' := ?_) #[T,T,T,T,T,T,T,T,T,F,F,F,F] rfl rfl (by kernel_rfl) (fun _ _ _ h => h) (Or.inl ⟨by rfl, ?_⟩) ?_ ?_; rotate_left; (intro w'; go_simp; (with_reducible rfl)); rotate_left; (simp only [Act.put, zt, zu, zv, i64_w, i32_w]; rfl); refine take_ (i := 9) (N := some 15) (v := ?_) (a' := ?_) #[T,T,T,T,T,T,T,T,T,T,F,F,F] rfl rfl (by kernel_rfl) (fun _ _ _ h => h) (Or.inl ⟨by rfl, ?_⟩) hHeld ?_ ?_; rotate_left; (rintro w' ⟨s0, s1⟩; go_simp; (with_reducible rfl)); rotate_left; (simp only [Act.put, zt, zu, zv, i64_w, i32_w]; rfl); refine pure_ (i := 10) (N := some 16) (v := ?_) (a' := ?_) #[T,T,T,T,T,T,T,T,T,T,T,F,F] rfl rfl (by kernel_rfl) (fun _ _ _ h => h) (Or.inl ⟨by rfl, ?_⟩) ?_ ?_; rotate_left; (intro w'; go_simp; (with_reducible rfl)); rotate_left; (simp only [Act.put, zt, zu, zv, i64_w, i32_w]; rfl); refine pure_ (i := 11) (N := some 17) (v := ?_) (a' := ?_) #[T,T,T,T,T,T,T,T,T,T,T,T,F] rfl rfl (by kernel_rfl) (fun _ _ _ h => h) (Or.inl ⟨by rfl, ?_⟩) ?_ ?_; rotate_left; (intro w'; go_simp; (with_reducible rfl)); rotate_left; (simp only [Act.put, zt, zu, zv, i64_w, i32_w]; rfl); refine pure_ (i := 12) (N := some 18) (v := ?_) (a' := ?_) #[T,T,T,T,T,T,T,T,T,T,T,T,T] rfl rfl (by kernel_rfl) (fun _ _ _ h => h) (Or.inl ⟨by rfl, ?_⟩) ?_ ?_; rotate_left; (intro w'; go_simp; (with_reducible rfl)); rotate_left; (simp only [Act.put, zt, zu, zv, i64_w, i32_w]; rfl); refine done_ (by kernel_rfl) ?_
  go_wp2_with fail
  refine bodyPost_ret (results_none rfl _ _ _) rfl ?_; exact ⟨rfl, (Below.refl _ W).drew⟩
theorem TB.ne {W : World} {base p g : Nat} {S : List S81} {n used : Nat} {D : S50 → Option Int} (h : TB W base p g S n used D) : p ≠ g := by
  intro e; have a := h.tw.bp; have b := h.tw.bg; rw [e] at a; rw [a] at b; simp at b
theorem OK.place2 {S : List S81} {live used : Nat} {D : S50 → Option Int} (ok : OK S live used D) (hf : 4 * used ≤ 3 * S.length) (k : S50) :
    ∃ (f j : Nat) (b : Bool), plc S k f (hashN k % S.length) (-1) = some ((j : Int), b) ∧ j < S.length ∧
      ((b = true ∧ (at60 S j).f0 = 1 ∧ (at60 S j).f1 = k) ∨
       (b = false ∧ (at60 S j).f0 ≠ 1 ∧ (∀ i, i < S.length → (at60 S i).f0 = 1 → (at60 S i).f1 ≠ k) ∧ ∃ t, j = (hashN k + t) % S.length ∧ ∀ u, u < t → ¬ (at60 S ((hashN k + u) % S.length)).f0 = 0)) := by
  have hL := ok.len.1; obtain ⟨f, r, h1, ⟨j, hj, rfl, h2⟩ | ⟨j, hj, rfl, h2⟩⟩ := ok.place (by omega) k; (exact ⟨f, j, true, h1, hj, Or.inl ⟨rfl, h2⟩⟩); (exact ⟨f, j, false, h1, hj, Or.inr ⟨rfl, h2⟩⟩)
theorem fs_set (x : S81) : ∀ (S : List S81) (j : Nat), j < S.length → ((((((fs S).set (j * 5) (.int .i64 x.f0)).set (j * 5 + 1) (.string x.f1.f0)).set (j * 5 + 2) (.string x.f1.f1)).set (j * 5 + 3) (.int .i64 x.f1.f2)).set (j * 5 + 4) (.int .i64 x.f2)) = fs (S.set j x) := by
  intro S
  induction S with
  | nil => intro j h; exact absurd h (Nat.not_lt_zero _)
  | cons y S ih =>
    intro j h
    cases j with
    | zero => rfl
    | succ j =>
      have h' : j < S.length := by simpa using h
      rw [zv, fs, fs, ← ih j h', show (j + 1) * 5 = j * 5 + 5 by omega]; rfl
theorem TW.slot {W : World} {base p g : Nat} {S : List S81} {live used : Int} (h : TW W base p g S live used) (hpg : p ≠ g) (j : Nat) (hj : j < S.length) (x : S81) :
    TW (((((W.setCell ⟨g, j * 5, none⟩ (.int .i64 x.f0)).setCell ⟨g, j * 5 + 1, none⟩ (.string x.f1.f0)).setCell ⟨g, j * 5 + 2, none⟩ (.string x.f1.f1)).setCell ⟨g, j * 5 + 3, none⟩ (.int .i64 x.f1.f2)).setCell ⟨g, j * 5 + 4, none⟩ (.int .i64 x.f2)) base p g (S.set j x) live used := by
  have e := zP (zP (zP (zP (zP h.bg (j * 5) (.int .i64 x.f0) rfl) (j * 5 + 1) (.string x.f1.f0) rfl) (j * 5 + 2) (.string x.f1.f1) rfl) (j * 5 + 3) (.int .i64 x.f1.f2) rfl) (j * 5 + 4) (.int .i64 x.f2) rfl; refine ⟨?_, ?_, h.hp, h.hg⟩; (rw [List.length_set]; exact zG (zG (zG (zG (zG h.bp (p := ⟨g, j * 5, none⟩) hpg _) (p := ⟨g, j * 5 + 1, none⟩) hpg _) (p := ⟨g, j * 5 + 2, none⟩) hpg _) (p := ⟨g, j * 5 + 3, none⟩) hpg _) (p := ⟨g, j * 5 + 4, none⟩) hpg _); (rw [e]; simp only [zt]; rw [fs_set x S j hj])
theorem Kp.slot {W V : World} {p g g' : Nat} (h : Kp W V p g) (hg : g' = g ∨ W.heap.size ≤ g') (a b c d e : Nat) (v1 v2 v3 v4 v5 : Value) :
    Kp W (((((V.setCell ⟨g', a, none⟩ v1).setCell ⟨g', b, none⟩ v2).setCell ⟨g', c, none⟩ v3).setCell ⟨g', d, none⟩ v4).setCell ⟨g', e, none⟩ v5) p g :=
  ((((h.trans hg (Kp.set _ _ (Or.inr rfl))).trans hg (Kp.set _ _ (Or.inr rfl))).trans hg (Kp.set _ _ (Or.inr rfl))).trans hg (Kp.set _ _ (Or.inr rfl))).trans hg (Kp.set _ _ (Or.inr rfl))
theorem TW.used {W : World} {base p g : Nat} {S : List S81} {live used : Int} (h : TW W base p g S live used) (hpg : p ≠ g) (u : Int) : TW (W.setCell ⟨p, 2, none⟩ (.int .i64 u)) base p g S live u :=
  ⟨zP h.bp 2 _ rfl, zG h.bg (p := ⟨p, 2, none⟩) (Ne.symm hpg) _, h.hp, h.hg⟩
theorem TW.live {W : World} {base p g : Nat} {S : List S81} {live used : Int} (h : TW W base p g S live used) (hpg : p ≠ g) (u : Int) : TW (W.setCell ⟨p, 1, none⟩ (.int .i64 u)) base p g S u used :=
  ⟨zP h.bp 1 _ rfl, zG h.bg (p := ⟨p, 1, none⟩) (Ne.symm hpg) _, h.hp, h.hg⟩
theorem box_kept {W w1 w2 : World} {gb p g : Nat} {o : Obj} (h : w1.heap[gb]? = some o) (hgb : gb = W.heap.size) (hl : p < W.heap.size ∧ g < W.heap.size) (hk : Kp w1 w2 p g) : w2.heap[gb]? = some o :=
  (hk.block gb (blk_lt h) (by omega) (by omega)).trans h
/-- What growing leaves. -/
def Grown (W w : World) (base p g n : Nat) (D : S50 → Option Int) (P : Nat → Nat → Prop) : Prop := Kp W w p g ∧ ∃ g' S' used', (g' = g ∨ W.heap.size ≤ g') ∧ TB w base p g' S' n used' D ∧ 4 * (used' + 1) ≤ 3 * S'.length ∧ P S'.length used'
/-- What putting leaves. -/
def Put (W w : World) (base p g n : Nat) (D : S50 → Option Int) (P : Nat → Nat → Prop) : Prop := Kp W w p g ∧ ∃ g' S' used', (g' = g ∨ W.heap.size ≤ g') ∧ TB w base p g' S' n used' D ∧ ∃ u, P S'.length u ∧ used' ≤ u + 1
set_option maxHeartbeats 4000000 in
set_option maxRecDepth 100000 in
theorem put_walk (W : World) (base p g : Nat) (n : Nat) (D : S50 → Option Int) (k : S50) (v : Int) (hk : Fit k) (hnb : n ≤ 1073741824) (P : Nat → Nat → Prop)
    (HT0 : ∃ S used, TB W base p g S n used D)
    (Hg : ∀ W1, Below W.heap.size W W1 → Calls Try.prog 44 #[.pointer (some ⟨p, 0, none⟩)] W1 fun e w' => e = .returned (.tuple #[]) ∧ Grown W1 w' base p g n D P) :
    Calls Try.prog 41 #[.pointer (some ⟨p, 0, none⟩), .agg #[.string k.f0, .string k.f1, .int .i64 k.f2], .int .i64 v] W fun e w' => (D k ≠ none ∧ e = .returned (.bool false) ∧ Put W w' base p g n D P) ∨ (D k = none ∧ e = .returned (.bool true) ∧ Put W w' base p g (n + 1) (upd D k (some v)) P) := by
  have HK := Aside0.mk hk; have HN := Aside0.mk hnb; have HG := Aside0.mk Hg; have hlt : Aside0 (p < W.heap.size ∧ g < W.heap.size) := ⟨by obtain ⟨S, used, h⟩ := HT0; exact ⟨blk_lt h.tw.bp, blk_lt h.tw.bg⟩⟩; clear hk hnb Hg HT0
  go_enter Try.func41, Try.ntmps41
  go_upto_region 3 with (first | ((with_reducible refine gd (N := 4) rfl ?_); refine zb ?hg (N := 4) ?hd (cs := #[.string k.f0, .string k.f1, .int .i64 k.f2]) (t := 50) ?hr ?_; (case hd => rfl); (case hg => rfl); (case hr => go_simp; first | done | rfl); intro gb hg w1 hbox hb; have G1 := Aside0.mk hg; have X1 := Aside0.mk hbox; have B1 := Aside0.mk hb; clear hbox hb hg) | (go_at_call 44; refine (HG.out w1 B1.out).mono ?_; rintro e w2 ⟨rfl, hgr⟩; obtain ⟨hk2, g', S', used', hgg, hT2, hle, hP⟩ := hgr; have PP := Aside0.mk hP; obtain ⟨f, j, b, hplc, hjl, hcase⟩ := hT2.ok.place2 hT2.le k; have K2 := Aside0.mk hk2; have GG := Aside0.mk hgg; have T2 := Aside0.mk hT2; have LE := Aside0.mk hle; have PL := Aside0.mk hplc; have JL := Aside0.mk hjl; have CA := Aside0.mk hcase; have X2 := Aside0.mk (box_kept X1.out G1.out hlt.out hk2); clear hgg hT2 hle hplc hjl hcase hk2 hP; have c0 : w2.cell? ⟨gb, 0, none⟩ = some (.string k.f0) := (zC X2.out 0).trans rfl; have c1 : w2.cell? ⟨gb, 1, none⟩ = some (.string k.f1) := (zC X2.out 1).trans rfl; have c2 : w2.cell? ⟨gb, 2, none⟩ = some (.int .i64 k.f2) := (zC X2.out 2).trans rfl) | (go_at_call 42; refine (place f w2 base p g' S' n used' k _ _ T2.out.tw T2.out.ok.pw.choose_spec.1 T2.out.ok.pw.choose_spec.2 PL.out HK.out.1 HK.out.2).mono ?_; rintro e w3 ⟨rfl, hb3⟩; have B3 := Aside0.mk hb3; clear hb3))
  have T3 := Aside0.mk (T2.out.below B3.out); have X3 := Aside0.mk (blk_below X2.out B3.out); have KP := Aside0.mk (show Kp W w3 p g from ((Kp.of B1.out p g).trans (Or.inl rfl) K2.out).trans (by have := GG.out; have := B1.out.size; rcases GG.out with e | e <;> omega) (Kp.of B3.out p g')); have GF := Aside0.mk (show g' = g ∨ W.heap.size ≤ g' from by have := B1.out.size; rcases GG.out with e | e <;> omega)
  have GB := Aside0.mk (show gb ≠ p ∧ gb ≠ g' from by
    have h1 := G1.out; have h2 := hlt.out; have h3 := X3.out; refine ⟨by omega, fun e => ?_⟩; have h4 := T3.out.tw.bg; rw [← e, h3] at h4
    simp at h4)
  clear c0 c1 c2 T2 X2 X1 B1 B3 K2 GG HG G1
  rcases CA.out with ⟨rfl, q1, q2⟩ | ⟨rfl, q1, q2, q3⟩
  · have Q := Aside0.mk (T3.out.ok.some_of JL.out q1 q2)
    clear q1 q2 CA
    go_wp2_with fail
    refine bodyPost_ret (results_tmp rfl _ _ _) rfl ?_
    exact Or.inl ⟨(by rw [Q.out]; intro h; cases h), rfl, KP.out, g', S', used', GF.out, T3.out, used', PP.out, by omega⟩
  · have hp0 : w3.cell? ⟨p, 0, none⟩ = some (.slice (some ⟨g', 0, none⟩) S'.length S'.length) := (zC T3.out.tw.bp 0).trans rfl
    have hp1 : w3.cell? ⟨p, 1, none⟩ = some (.int .i64 (n : Int)) := (zC T3.out.tw.bp 1).trans rfl
    have hp2 : w3.cell? ⟨p, 2, none⟩ = some (.int .i64 (used' : Int)) := (zC T3.out.tw.bp 2).trans rfl
    have fz := zR T3.out.tw.bp 2
    have fz1 := zR T3.out.tw.bp 1
    obtain ⟨s0, hs0⟩ : ∃ s0, (at60 S' j).f0 = s0 := ⟨_, rfl⟩
    have t0 : w3.cell? ⟨g', j * 5, none⟩ = some (.int .i64 s0) := hs0 ▸ T3.out.tw.cell j JL.out 0 (by omega)
    have c0 : w3.cell? ⟨gb, 0, none⟩ = some (.string k.f0) := (zC X3.out 0).trans rfl
    have c1 : w3.cell? ⟨gb, 1, none⟩ = some (.string k.f1) := (zC X3.out 1).trans rfl
    have c2 : w3.cell? ⟨gb, 2, none⟩ = some (.int .i64 k.f2) := (zC X3.out 2).trans rfl
    have hjb : (0 : Int) ≤ (j : Int) ∧ (j : Int) < (S'.length : Int) := by have := JL.out; omega
    have Q1 := Aside0.mk q1
    have Q2 := Aside0.mk q2
    have Q3 := Aside0.mk q3
    have HS0 := Aside0.mk hs0
    clear q1 q2 q3 CA hs0
    by_cases h0 : s0 = 0
    · have h0b : (s0 == 0) = true := by simp [h0]
      have U4 := Aside0.mk (show (if (at60 S' j).f0 = 0 then used' + 1 else used') = used' + 1 from by rw [HS0.out, if_pos h0])
      clear h0
      go_upto_region 7 with (fail)
      obtain ⟨w4, hw4⟩ : ∃ w4, w3.setCell ⟨p, 2, none⟩ (.int .i64 (wrap64 ((used' : Int) + 1))) = w4 := ⟨_, rfl⟩
      rw [hw4]
      have hwu : wrap64 ((used' : Int) + 1) = ((used' + 1 : Nat) : Int) := by have := LE.out; have := T3.out.ok.len.2; unfold wrap64; omega
      rw [hwu] at hw4
      obtain ⟨u4, hu4⟩ : ∃ u4, used' + 1 = u4 := ⟨_, rfl⟩
      have U4 := Aside0.mk (show (if (at60 S' j).f0 = 0 then used' + 1 else used') = u4 from U4.out.trans hu4)
      rw [hu4] at hw4
      have HU := Aside0.mk (show u4 ≤ used' + 1 from by omega)
      have T4 := Aside0.mk (show TW w4 base p g' S' (n : Int) (u4 : Int) from hw4 ▸ T3.out.tw.used T3.out.ne _)
      have X4 := Aside0.mk (show w4.heap[gb]? = some (.cells #[.string k.f0, .string k.f1, .int .i64 k.f2] 50 (0, 0)) from by
        rw [← hw4]; refine zG (p := ⟨p, 2, none⟩) X3.out ?_ _; have := GB.out.1
        exact this)
      have KP4 := Aside0.mk (show Kp W w4 p g from hw4 ▸ KP.out.trans GF.out (Kp.set _ _ (Or.inl rfl)))
      clear hp0 hp1 hp2 t0 c0 c1 c2 fz fz1 hw4 X3 KP
      have hp0 : w4.cell? ⟨p, 0, none⟩ = some (.slice (some ⟨g', 0, none⟩) S'.length S'.length) := (zC T4.out.bp 0).trans rfl
      have c0 : w4.cell? ⟨gb, 0, none⟩ = some (.string k.f0) := (zC X4.out 0).trans rfl
      have c1 : w4.cell? ⟨gb, 1, none⟩ = some (.string k.f1) := (zC X4.out 1).trans rfl
      have c2 : w4.cell? ⟨gb, 2, none⟩ = some (.int .i64 k.f2) := (zC X4.out 2).trans rfl
      refine start_ (n := 10) (S := (fun w' => w'.cell? ⟨p, 0, none⟩ = some (.slice (some ⟨g', 0, none⟩) S'.length S'.length) ∧ w'.cell? ⟨gb, 0, none⟩ = some (.string k.f0) ∧ w'.cell? ⟨gb, 1, none⟩ = some (.string k.f1) ∧ w'.cell? ⟨gb, 2, none⟩ = some (.int .i64 k.f2))) (ds := [9]) #[F,F,F,F,F,F,F,F,F,F] (by kernel_rfl) rfl rfl ?_ ?_
      · exact ⟨hp0, c0, c1, c2⟩
      intro hHeld
      refine pure_ (i := 0) (N := some 34) (v := ?_) (a' := ?_) #[T,F,F,F,F,F,F,F,F,F] rfl rfl (by kernel_rfl) (fun _ _ _ h => h) (Or.inl ⟨by rfl, ?_⟩) ?_ ?_
      rotate_left
      · intro w'
        go_simp
        with_reducible rfl
      rotate_left
      · simp only [Act.put, zt, zu, zv, i64_w, i32_w]
        rfl
      refine pure_ (i := 1) (N := some 35) (v := ?_) (a' := ?_) #[T,T,F,F,F,F,F,F,F,F] rfl rfl (by kernel_rfl) (fun _ _ _ h => h) (Or.inl ⟨by rfl, ?_⟩) ?_ ?_
      rotate_left
      · intro w'
        go_simp
        with_reducible rfl
      rotate_left
      · simp only [Act.put, zt, zu, zv, i64_w, i32_w]
        rfl
      refine pure_ (i := 2) (N := some 36) (v := ?_) (a' := ?_) #[T,T,T,F,F,F,F,F,F,F] rfl rfl (by kernel_rfl) (fun _ _ _ h => h) (Or.inl ⟨by rfl, ?_⟩) ?_ ?_
      rotate_left
      · intro w'
        go_simp
        with_reducible rfl
      rotate_left
      · simp only [Act.put, zt, zu, zv, i64_w, i32_w]
        rfl
      refine pure_ (i := 4) (N := some 38) (v := ?_) (a' := ?_) #[T,T,T,F,T,F,F,F,F,F] rfl rfl (by kernel_rfl) (fun _ _ _ h => h) (Or.inl ⟨by rfl, ?_⟩) ?_ ?_
      rotate_left
      · intro w'
        go_simp
        with_reducible rfl
      rotate_left
      · simp only [Act.put, zt, zu, zv, i64_w, i32_w]
        rfl
      refine pure_ (i := 6) (N := some 40) (v := ?_) (a' := ?_) #[T,T,T,F,T,F,T,F,F,F] rfl rfl (by kernel_rfl) (fun _ _ _ h => h) (Or.inl ⟨by rfl, ?_⟩) ?_ ?_
      rotate_left
      · intro w'
        go_simp
        with_reducible rfl
      rotate_left
      · simp only [Act.put, zt, zu, zv, i64_w, i32_w]
        rfl
      refine take_ (i := 3) (N := some 37) (v := ?_) (a' := ?_) #[T,T,T,T,T,F,T,F,F,F] rfl rfl (by kernel_rfl) (fun _ _ _ h => h) (Or.inl ⟨by rfl, ?_⟩) hHeld ?_ ?_
      rotate_left
      · rintro w' ⟨s0, s1, s2, s3⟩
        go_simp
        with_reducible rfl
      rotate_left
      · simp only [Act.put, zt, zu, zv, i64_w, i32_w]
        rfl
      refine take_ (i := 5) (N := some 39) (v := ?_) (a' := ?_) #[T,T,T,T,T,T,T,F,F,F] rfl rfl (by kernel_rfl) (fun _ _ _ h => h) (Or.inl ⟨by rfl, ?_⟩) hHeld ?_ ?_
      rotate_left
      · rintro w' ⟨s0, s1, s2, s3⟩
        go_simp
        with_reducible rfl
      rotate_left
      · simp only [Act.put, zt, zu, zv, i64_w, i32_w]
        rfl
      refine pure_ (i := 7) (N := some 41) (v := ?_) (a' := ?_) #[T,T,T,T,T,T,T,T,F,F] rfl rfl (by kernel_rfl) (fun _ _ _ h => h) (Or.inl ⟨by rfl, ?_⟩) ?_ ?_
      rotate_left
      · intro w'
        go_simp
        with_reducible rfl
      rotate_left
      · simp only [Act.put, zt, zu, zv, i64_w, i32_w]
        rfl
      refine pure_ (i := 8) (N := some 42) (v := ?_) (a' := ?_) #[T,T,T,T,T,T,T,T,T,F] rfl rfl (by kernel_rfl) (fun _ _ _ h => h) (Or.inl ⟨by rfl, ?_⟩) ?_ ?_
      rotate_left
      · intro w'
        go_simp
        with_reducible rfl
      rotate_left
      · simp only [Act.put, zt, zu, zv, i64_w, i32_w]
        rfl
      refine last_ (i := 9) (N := none) #[T,T,T,T,T,T,T,T,T,T] rfl rfl (by kernel_rfl) (by decide) (fun K hK => ?_)
      obtain ⟨W5, hW5⟩ : ∃ W5, w4.drew = W5 := ⟨_, rfl⟩
      rw [hW5]
      have T5 := Aside0.mk (show TW W5 base p g' S' (n : Int) (u4 : Int) from hW5 ▸ T4.out.below ((Below.refl _ w4).drew))
      have KP5 := Aside0.mk (show Kp W W5 p g from hW5 ▸ KP4.out.trans GF.out (Kp.of (Below.refl _ w4).drew p g'))
      have z0 := zR T5.out.bg (j * 5)
      have z1 := zR T5.out.bg (j * 5 + 1)
      have z2 := zR T5.out.bg (j * 5 + 2)
      have z3 := zR T5.out.bg (j * 5 + 3)
      have z4 := zR T5.out.bg (j * 5 + 4)
      have y0 : W5.cell? ⟨g', j * 5, none⟩ = some (.int .i64 (at60 S' j).f0) := T5.out.cell j JL.out 0 (by omega)
      have y1 : W5.cell? ⟨g', j * 5 + 1, none⟩ = some (.string (at60 S' j).f1.f0) := T5.out.cell j JL.out 1 (by omega)
      have y2 : W5.cell? ⟨g', j * 5 + 2, none⟩ = some (.string (at60 S' j).f1.f1) := T5.out.cell j JL.out 2 (by omega)
      have y3 : W5.cell? ⟨g', j * 5 + 3, none⟩ = some (.int .i64 (at60 S' j).f1.f2) := T5.out.cell j JL.out 3 (by omega)
      have y4 : W5.cell? ⟨g', j * 5 + 4, none⟩ = some (.int .i64 (at60 S' j).f2) := T5.out.cell j JL.out 4 (by omega)
      refine skip_ (w1 := ?_) (by rfl) rfl ?_ ?_
      rotate_left
      · go_simp
        rfl
      refine hK.out _ _ ?_
      clear hK K
      refine done_ (by kernel_rfl) ?_
      obtain ⟨W6, hW6⟩ : ∃ W6, ((((W5.setCell ⟨g', j * 5, none⟩ (.int .i64 1)).setCell ⟨g', j * 5 + 1, none⟩ (.string k.f0)).setCell ⟨g', j * 5 + 2, none⟩ (.string k.f1)).setCell ⟨g', j * 5 + 3, none⟩ (.int .i64 k.f2)).setCell ⟨g', j * 5 + 4, none⟩ (.int .i64 v) = W6 := ⟨_, rfl⟩
      rw [hW6]
      have T6 := Aside0.mk (show TW W6 base p g' (S'.set j ⟨1, k, v⟩) (n : Int) (u4 : Int) from hW6 ▸ T5.out.slot T3.out.ne j JL.out ⟨1, k, v⟩)
      have KP6 := Aside0.mk (show Kp W W6 p g from hW6 ▸ KP5.out.slot GF.out _ _ _ _ _ _ _ _ _ _)
      have hp1 : W6.cell? ⟨p, 1, none⟩ = some (.int .i64 (n : Int)) := (zC T6.out.bp 1).trans rfl
      have fz1 := zR T6.out.bp 1
      clear hW6 z0 z1 z2 z3 z4 y0 y1 y2 y3 y4 hp0 c0 c1 c2 hHeld hW5
      go_wp2_with fail
      refine bodyPost_ret (results_tmp rfl _ _ _) rfl ?_
      have hwn : wrap64 ((n : Int) + 1) = ((n + 1 : Nat) : Int) := by have := HN.out; unfold wrap64; omega
      rw [hwn]
      have K7 := KP6.out.trans GF.out (Kp.set (W := W6) (p := p) (g := g') ⟨p, 1, none⟩ (.int .i64 ((n + 1 : Nat) : Int)) (Or.inl rfl))
      have T7 := T6.out.live T3.out.ne ((n + 1 : Nat) : Int)
      have O7 := T3.out.ok.put v JL.out Q1.out Q2.out Q3.out HK.out
      rw [U4.out] at O7
      exact Or.inr ⟨T3.out.ok.none_of Q2.out, rfl, K7, g', _, u4, GF.out, ⟨T7, O7, by rw [List.length_set]; have := LE.out; have := HU.out; omega⟩, used', by rw [List.length_set]; exact PP.out, HU.out⟩
    · have h0b : (s0 == 0) = false := by simp [h0]
      have U4 := Aside0.mk (show (if (at60 S' j).f0 = 0 then used' + 1 else used') = used' from by rw [HS0.out, if_neg h0])
      clear h0
      go_upto_region 7 with (fail)
      obtain ⟨w4, hw4⟩ : ∃ w4, w3 = w4 := ⟨_, rfl⟩
      obtain ⟨u4, hu4⟩ : ∃ u4, used' = u4 := ⟨_, rfl⟩
      have HU := Aside0.mk (show u4 ≤ used' + 1 from by omega)
      have U4 := Aside0.mk (show (if (at60 S' j).f0 = 0 then used' + 1 else used') = u4 from U4.out.trans hu4)
      have T4 := Aside0.mk (show TW w4 base p g' S' (n : Int) (u4 : Int) from by rw [← hw4, ← hu4]; exact T3.out.tw)
      have X4 := Aside0.mk (hw4 ▸ X3.out)
      have KP4 := Aside0.mk (hw4 ▸ KP.out)
      rw [hw4]
      clear hp0 hp1 hp2 t0 c0 c1 c2 fz fz1 hw4 hu4 X3 KP
      have hp0 : w4.cell? ⟨p, 0, none⟩ = some (.slice (some ⟨g', 0, none⟩) S'.length S'.length) := (zC T4.out.bp 0).trans rfl
      have c0 : w4.cell? ⟨gb, 0, none⟩ = some (.string k.f0) := (zC X4.out 0).trans rfl
      have c1 : w4.cell? ⟨gb, 1, none⟩ = some (.string k.f1) := (zC X4.out 1).trans rfl
      have c2 : w4.cell? ⟨gb, 2, none⟩ = some (.int .i64 k.f2) := (zC X4.out 2).trans rfl
      refine start_ (n := 10) (S := (fun w' => w'.cell? ⟨p, 0, none⟩ = some (.slice (some ⟨g', 0, none⟩) S'.length S'.length) ∧ w'.cell? ⟨gb, 0, none⟩ = some (.string k.f0) ∧ w'.cell? ⟨gb, 1, none⟩ = some (.string k.f1) ∧ w'.cell? ⟨gb, 2, none⟩ = some (.int .i64 k.f2))) (ds := [9]) #[F,F,F,F,F,F,F,F,F,F] (by kernel_rfl) rfl rfl ?_ ?_
      · exact ⟨hp0, c0, c1, c2⟩
      intro hHeld
      refine pure_ (i := 0) (N := some 34) (v := ?_) (a' := ?_) #[T,F,F,F,F,F,F,F,F,F] rfl rfl (by kernel_rfl) (fun _ _ _ h => h) (Or.inl ⟨by rfl, ?_⟩) ?_ ?_
      rotate_left
      · intro w'
        go_simp
        with_reducible rfl
      rotate_left
      · simp only [Act.put, zt, zu, zv, i64_w, i32_w]
        rfl
      refine pure_ (i := 1) (N := some 35) (v := ?_) (a' := ?_) #[T,T,F,F,F,F,F,F,F,F] rfl rfl (by kernel_rfl) (fun _ _ _ h => h) (Or.inl ⟨by rfl, ?_⟩) ?_ ?_
      rotate_left
      · intro w'
        go_simp
        with_reducible rfl
      rotate_left
      · simp only [Act.put, zt, zu, zv, i64_w, i32_w]
        rfl
      refine pure_ (i := 2) (N := some 36) (v := ?_) (a' := ?_) #[T,T,T,F,F,F,F,F,F,F] rfl rfl (by kernel_rfl) (fun _ _ _ h => h) (Or.inl ⟨by rfl, ?_⟩) ?_ ?_
      rotate_left
      · intro w'
        go_simp
        with_reducible rfl
      rotate_left
      · simp only [Act.put, zt, zu, zv, i64_w, i32_w]
        rfl
      refine pure_ (i := 4) (N := some 38) (v := ?_) (a' := ?_) #[T,T,T,F,T,F,F,F,F,F] rfl rfl (by kernel_rfl) (fun _ _ _ h => h) (Or.inl ⟨by rfl, ?_⟩) ?_ ?_
      rotate_left
      · intro w'
        go_simp
        with_reducible rfl
      rotate_left
      · simp only [Act.put, zt, zu, zv, i64_w, i32_w]
        rfl
      refine pure_ (i := 6) (N := some 40) (v := ?_) (a' := ?_) #[T,T,T,F,T,F,T,F,F,F] rfl rfl (by kernel_rfl) (fun _ _ _ h => h) (Or.inl ⟨by rfl, ?_⟩) ?_ ?_
      rotate_left
      · intro w'
        go_simp
        with_reducible rfl
      rotate_left
      · simp only [Act.put, zt, zu, zv, i64_w, i32_w]
        rfl
      refine take_ (i := 3) (N := some 37) (v := ?_) (a' := ?_) #[T,T,T,T,T,F,T,F,F,F] rfl rfl (by kernel_rfl) (fun _ _ _ h => h) (Or.inl ⟨by rfl, ?_⟩) hHeld ?_ ?_
      rotate_left
      · rintro w' ⟨s0, s1, s2, s3⟩
        go_simp
        with_reducible rfl
      rotate_left
      · simp only [Act.put, zt, zu, zv, i64_w, i32_w]
        rfl
      refine take_ (i := 5) (N := some 39) (v := ?_) (a' := ?_) #[T,T,T,T,T,T,T,F,F,F] rfl rfl (by kernel_rfl) (fun _ _ _ h => h) (Or.inl ⟨by rfl, ?_⟩) hHeld ?_ ?_
      rotate_left
      · rintro w' ⟨s0, s1, s2, s3⟩
        go_simp
        with_reducible rfl
      rotate_left
      · simp only [Act.put, zt, zu, zv, i64_w, i32_w]
        rfl
      refine pure_ (i := 7) (N := some 41) (v := ?_) (a' := ?_) #[T,T,T,T,T,T,T,T,F,F] rfl rfl (by kernel_rfl) (fun _ _ _ h => h) (Or.inl ⟨by rfl, ?_⟩) ?_ ?_
      rotate_left
      · intro w'
        go_simp
        with_reducible rfl
      rotate_left
      · simp only [Act.put, zt, zu, zv, i64_w, i32_w]
        rfl
      refine pure_ (i := 8) (N := some 42) (v := ?_) (a' := ?_) #[T,T,T,T,T,T,T,T,T,F] rfl rfl (by kernel_rfl) (fun _ _ _ h => h) (Or.inl ⟨by rfl, ?_⟩) ?_ ?_
      rotate_left
      · intro w'
        go_simp
        with_reducible rfl
      rotate_left
      · simp only [Act.put, zt, zu, zv, i64_w, i32_w]
        rfl
      refine last_ (i := 9) (N := none) #[T,T,T,T,T,T,T,T,T,T] rfl rfl (by kernel_rfl) (by decide) (fun K hK => ?_)
      obtain ⟨W5, hW5⟩ : ∃ W5, w4.drew = W5 := ⟨_, rfl⟩
      rw [hW5]
      have T5 := Aside0.mk (show TW W5 base p g' S' (n : Int) (u4 : Int) from hW5 ▸ T4.out.below ((Below.refl _ w4).drew))
      have KP5 := Aside0.mk (show Kp W W5 p g from hW5 ▸ KP4.out.trans GF.out (Kp.of (Below.refl _ w4).drew p g'))
      have z0 := zR T5.out.bg (j * 5)
      have z1 := zR T5.out.bg (j * 5 + 1)
      have z2 := zR T5.out.bg (j * 5 + 2)
      have z3 := zR T5.out.bg (j * 5 + 3)
      have z4 := zR T5.out.bg (j * 5 + 4)
      have y0 : W5.cell? ⟨g', j * 5, none⟩ = some (.int .i64 (at60 S' j).f0) := T5.out.cell j JL.out 0 (by omega)
      have y1 : W5.cell? ⟨g', j * 5 + 1, none⟩ = some (.string (at60 S' j).f1.f0) := T5.out.cell j JL.out 1 (by omega)
      have y2 : W5.cell? ⟨g', j * 5 + 2, none⟩ = some (.string (at60 S' j).f1.f1) := T5.out.cell j JL.out 2 (by omega)
      have y3 : W5.cell? ⟨g', j * 5 + 3, none⟩ = some (.int .i64 (at60 S' j).f1.f2) := T5.out.cell j JL.out 3 (by omega)
      have y4 : W5.cell? ⟨g', j * 5 + 4, none⟩ = some (.int .i64 (at60 S' j).f2) := T5.out.cell j JL.out 4 (by omega)
      refine skip_ (w1 := ?_) (by rfl) rfl ?_ ?_
      rotate_left
      · go_simp
        rfl
      refine hK.out _ _ ?_
      clear hK K
      refine done_ (by kernel_rfl) ?_
      obtain ⟨W6, hW6⟩ : ∃ W6, ((((W5.setCell ⟨g', j * 5, none⟩ (.int .i64 1)).setCell ⟨g', j * 5 + 1, none⟩ (.string k.f0)).setCell ⟨g', j * 5 + 2, none⟩ (.string k.f1)).setCell ⟨g', j * 5 + 3, none⟩ (.int .i64 k.f2)).setCell ⟨g', j * 5 + 4, none⟩ (.int .i64 v) = W6 := ⟨_, rfl⟩
      rw [hW6]
      have T6 := Aside0.mk (show TW W6 base p g' (S'.set j ⟨1, k, v⟩) (n : Int) (u4 : Int) from hW6 ▸ T5.out.slot T3.out.ne j JL.out ⟨1, k, v⟩)
      have KP6 := Aside0.mk (show Kp W W6 p g from hW6 ▸ KP5.out.slot GF.out _ _ _ _ _ _ _ _ _ _)
      have hp1 : W6.cell? ⟨p, 1, none⟩ = some (.int .i64 (n : Int)) := (zC T6.out.bp 1).trans rfl
      have fz1 := zR T6.out.bp 1
      clear hW6 z0 z1 z2 z3 z4 y0 y1 y2 y3 y4 hp0 c0 c1 c2 hHeld hW5
      go_wp2_with fail
      refine bodyPost_ret (results_tmp rfl _ _ _) rfl ?_
      have hwn : wrap64 ((n : Int) + 1) = ((n + 1 : Nat) : Int) := by have := HN.out; unfold wrap64; omega
      rw [hwn]
      have K7 := KP6.out.trans GF.out (Kp.set (W := W6) (p := p) (g := g') ⟨p, 1, none⟩ (.int .i64 ((n + 1 : Nat) : Int)) (Or.inl rfl))
      have T7 := T6.out.live T3.out.ne ((n + 1 : Nat) : Int)
      have O7 := T3.out.ok.put v JL.out Q1.out Q2.out Q3.out HK.out
      rw [U4.out] at O7
      exact Or.inr ⟨T3.out.ok.none_of Q2.out, rfl, K7, g', _, u4, GF.out, ⟨T7, O7, by rw [List.length_set]; have := LE.out; have := HU.out; omega⟩, used', by rw [List.length_set]; exact PP.out, HU.out⟩
theorem made60 (m : Nat) : madeCells (Value.agg #[(.int .i64 0), (.string ⟨#[]⟩), (.string ⟨#[]⟩), (.int .i64 0), (.int .i64 0)]).cells (m * 5) = (fs (List.replicate m z81)).toArray := by
  apply Array.ext'; apply List.ext_getElem?; intro i
  by_cases hi : i < m * 5
  · have h1 : i / 5 < m := by omega
    have h2 : i = i / 5 * 5 + i % 5 := by omega
    have h3 : i % 5 < 5 := by omega
    have e := fs_at (List.replicate m z81) (i / 5) (by rw [List.length_replicate]; exact h1) (i % 5) h3
    rw [← h2, List.getElem_replicate] at e
    show _ = (fs (List.replicate m z81))[i]?
    rw [e]
    unfold madeCells
    rw [Array.getElem?_toList, Array.getElem?_map, Array.getElem?_range, if_pos hi]
    show some ((#[(.int .i64 0), (.string ⟨#[]⟩), (.string ⟨#[]⟩), (.int .i64 0), (.int .i64 0)] : Array Value)[i % 5]!) = _
    generalize i % 5 = r at h3
    match r, h3 with
    | 0, _ => rfl
    | 1, _ => rfl
    | 2, _ => rfl
    | 3, _ => rfl
    | 4, _ => rfl
  · rw [List.getElem?_eq_none, List.getElem?_eq_none]
    · rw [List.toList_toArray, fs_len, List.length_replicate]; omega
    · rw [Array.length_toList, size_madeCells]; omega
theorem make60 (w : World) (m : Nat) (hm : m ≤ 1099511627776) : (Instr.makeSlice 68 (.int .i64 (m : Int)) (.int .i64 (m : Int))).run Try.prog w = .ok (.slice (some ⟨w.heap.size, 0, none⟩) m m) (w.alloc (.cells (fs (List.replicate m z81)).toArray 81)) := by
  have hi := info81
  cases hq : Try.prog.info? 81 with
  | none => rw [hq] at hi; cases hi
  | some i =>
    rw [hq] at hi; simp only [Option.map_some, Option.some.injEq, Prod.mk.injEq] at hi; have h := run_make (P := Try.prog) w 68 81 i _ Try.underlying68 hq hi.1 .i64 .i64 (m : Int) (m : Int) (by omega) (by omega) (by rw [hi.2.2]; omega) (by omega); rw [hi.2.1, Int.toNat_natCast, made60] at h; exact h
/-- Putting where there is room. -/
theorem put_no (W : World) (base p g : Nat) (S : List S81) (n used : Nat) (D : S50 → Option Int) (k : S50) (v : Int) (hk : Fit k) (hnb : n ≤ 1073741824) (h : TB W base p g S n used D) (hn : 4 * (used + 1) ≤ 3 * S.length) :
    Calls Try.prog 41 #[.pointer (some ⟨p, 0, none⟩), .agg #[.string k.f0, .string k.f1, .int .i64 k.f2], .int .i64 v] W fun e w' => (D k ≠ none ∧ e = .returned (.bool false) ∧ Put W w' base p g n D (fun L u => L = S.length ∧ u = used)) ∨ (D k = none ∧ e = .returned (.bool true) ∧ Put W w' base p g (n + 1) (upd D k (some v)) (fun L u => L = S.length ∧ u = used)) := by
  refine put_walk W base p g n D k v hk hnb _ ⟨S, used, h⟩ ?_; intro W1 hb; have h1 := h.below hb; refine (grow_no W1 base p g S n used D h1 hn).mono ?_; rintro e w' ⟨rfl, hb2⟩; exact ⟨rfl, Kp.of hb2 p g, g, S, used, Or.inl rfl, h1.below hb2, hn, rfl, rfl⟩
/-- The old places, and the new ones under way. -/
structure GL (W w : World) (base p g m : Nat) (S : List S81) (D : S50 → Option Int) (i g' : Nat) (S' : List S81) (u' : Nat) : Prop where
  kp : Kp W w p g
  old : w.heap[g]? = some (.cells (fs S).toArray 81 (0, 0))
  tb : TB w base p g' S' (cnt S i) u' (part S D i)
  hg : W.heap.size ≤ g'
  hm : S'.length = m
  hu : u' ≤ cnt S i
theorem GL.below {W w w' : World} {base p g m : Nat} {S : List S81} {D : S50 → Option Int} {i g' : Nat} {S' : List S81} {u' : Nat} (h : GL W w base p g m S D i g' S' u') (hb : Below w.heap.size w w') : GL W w' base p g m S D i g' S' u' :=
  ⟨h.kp.trans (Or.inl rfl) (Kp.of hb p g), blk_below h.old hb, h.tb.below hb, h.hg, h.hm, h.hu⟩
set_option maxHeartbeats 4000000 in
set_option maxRecDepth 100000 in
theorem grow (W : World) (base p g : Nat) (S : List S81) (n used : Nat) (D : S50 → Option Int) (h : TB W base p g S n used D) (hnb : n ≤ 1073741824) (hbase : base ≤ W.heap.size) :
    Calls Try.prog 44 #[.pointer (some ⟨p, 0, none⟩)] W fun e w' => e = .returned (.tuple #[]) ∧ Grown W w' base p g n D (fun _ _ => True) := by
  by_cases hn : 4 * (used + 1) ≤ 3 * S.length
  (refine (grow_no W base p g S n used D h hn).mono ?_; rintro e w' ⟨rfl, hb⟩; exact ⟨rfl, Kp.of hb p g, g, S, used, Or.inl rfl, h.below hb, hn, trivial⟩); have HT := Aside0.mk h; have HN := Aside0.mk hnb; have HBS := Aside0.mk hbase; have hp0 : W.cell? ⟨p, 0, none⟩ = some (.slice (some ⟨g, 0, none⟩) S.length S.length) := (zC h.tw.bp 0).trans rfl; have hp2 : W.cell? ⟨p, 2, none⟩ = some (.int .i64 (used : Int)) := (zC h.tw.bp 2).trans rfl; have hL := h.ok.len.2; have hU := h.ok.live_le
  have w1 : wrap64 ((used : Int) + 1) = (used : Int) + 1 := by unfold wrap64; omega
  have w2 : wrap64 (4 * ((used : Int) + 1)) = 4 * ((used : Int) + 1) := by unfold wrap64; omega
  have w3 : wrap64 (3 * (S.length : Int)) = 3 * (S.length : Int) := by unfold wrap64; omega
  have hd : decide (4 * ((used : Int) + 1) ≤ 3 * (S.length : Int)) = false := decide_eq_false (by omega); clear h hn hL hU hnb hbase
  go_enter Try.func44, Try.ntmps44
  go_upto_region 0 with (fail)
  refine start_ (n := 13) (S := (fun w' => w'.cell? ⟨p, 0, none⟩ = some (.slice (some ⟨g, 0, none⟩) S.length S.length) ∧ w'.cell? ⟨p, 2, none⟩ = some (.int .i64 (used : Int)))) (ds := []) #[F,F,F,F,F,F,F,F,F,F,F,F,F] (by kernel_rfl) rfl rfl ?_ ?_; (exact ⟨hp0, hp2⟩); intro hHeld; refine pure_ (i := 0) (N := some 6) (v := ?_) (a' := ?_) #[T,F,F,F,F,F,F,F,F,F,F,F,F] rfl rfl (by kernel_rfl) (fun _ _ _ h => h) (Or.inl ⟨by rfl, ?_⟩) ?_ ?_; rotate_left; (intro w'; go_simp; (with_reducible rfl)); rotate_left; (simp only [Act.put, zt, zu, zv, i64_w, i32_w]; rfl); refine pure_ (i := 1) (N := some 7) (v := ?_) (a' := ?_) #[T,T,F,F,F,F,F,F,F,F,F,F,F] rfl rfl (by kernel_rfl) (fun _ _ _ h => h) (Or.inl ⟨by rfl, ?_⟩) ?_ ?_; rotate_left; (intro w'; go_simp; (with_reducible rfl)); rotate_left; (simp only [Act.put, zt, zu, zv, i64_w, i32_w]; rfl); refine pure_ (i := 2) (N := some 8) (v := ?_) (a' := ?_) #[T,T,T,F,F,F,F,F,F,F,F,F,F] rfl rfl (by kernel_rfl) (fun _ _ _ h => h) (Or.inl ⟨by rfl, ?_⟩) ?_ ?_; rotate_left; (intro w'; go_simp; (with_reducible rfl)); rotate_left; (simp only [Act.put, zt, zu, zv, i64_w, i32_w]; rfl); refine pure_ (i := 6) (N := some 12) (v := ?_) (a' := ?_) #[T,T,T,F,F,F,T,F,F,F,F,F,F] rfl rfl (by kernel_rfl) (fun _ _ _ h => h) (Or.inl ⟨by rfl, ?_⟩) ?_ ?_; rotate_left; (intro w'; go_simp; (with_reducible rfl)); rotate_left; (simp only [Act.put, zt, zu, zv, i64_w, i32_w]; rfl); refine pure_ (i := 7) (N := some 13) (v := ?_) (a' := ?_) #[T,T,T,F,F,F,T,T,F,F,F,F,F] rfl rfl (by kernel_rfl) (fun _ _ _ h => h) (Or.inl ⟨by rfl, ?_⟩) ?_ ?_; rotate_left; (intro w'; go_simp; (with_reducible rfl)); rotate_left; (simp only [Act.put, zt, zu, zv, i64_w, i32_w]; rfl); refine pure_ (i := 8) (N := some 14) (v := ?_) (a' := ?_) #[T,T,T,F,F,F,T,T,T,F,F,F,F] rfl rfl (by kernel_rfl) (fun _ _ _ h => h) (Or.inl ⟨by rfl, ?_⟩) ?_ ?_; rotate_left; (intro w'; go_simp; (with_reducible rfl)); rotate_left; (simp only [Act.put, zt, zu, zv, i64_w, i32_w]; rfl); refine take_ (i := 3) (N := some 9) (v := ?_) (a' := ?_) #[T,T,T,T,F,F,T,T,T,F,F,F,F] rfl rfl (by kernel_rfl) (fun _ _ _ h => h) (Or.inl ⟨by rfl, ?_⟩) hHeld ?_ ?_; rotate_left; (rintro w' ⟨s0, s1⟩; go_simp; (with_reducible rfl)); rotate_left; (simp only [Act.put, zt, zu, zv, i64_w, i32_w]; rfl); refine pure_ (i := 4) (N := some 10) (v := ?_) (a' := ?_) #[T,T,T,T,T,F,T,T,T,F,F,F,F] rfl rfl (by kernel_rfl) (fun _ _ _ h => h) (Or.inl ⟨by rfl, ?_⟩) ?_ ?_; rotate_left; (intro w'; go_simp; (with_reducible rfl)); rotate_left; (simp only [Act.put, zt, zu, zv, i64_w, i32_w]; rfl); refine pure_ (i := 5) (N := some 11) (v := ?_) (a' := ?_) #[T,T,T,T,T,T,T,T,T,F,F,F,F] rfl rfl (by kernel_rfl) (fun _ _ _ h => h) (Or.inl ⟨by rfl, ?_⟩) ?_ ?_; rotate_left; (intro w'; go_simp; (with_reducible rfl)); rotate_left; (simp only [Act.put, zt, zu, zv, i64_w, i32_w]; rfl); refine take_ (i := 9) (N := some 15) (v := ?_) (a' := ?_) #[T,T,T,T,T,T,T,T,T,T,F,F,F] rfl rfl (by kernel_rfl) (fun _ _ _ h => h) (Or.inl ⟨by rfl, ?_⟩) hHeld ?_ ?_; rotate_left; (rintro w' ⟨s0, s1⟩; go_simp; (with_reducible rfl)); rotate_left; (simp only [Act.put, zt, zu, zv, i64_w, i32_w]; rfl); refine pure_ (i := 10) (N := some 16) (v := ?_) (a' := ?_) #[T,T,T,T,T,T,T,T,T,T,T,F,F] rfl rfl (by kernel_rfl) (fun _ _ _ h => h) (Or.inl ⟨by rfl, ?_⟩) ?_ ?_; rotate_left; (intro w'; go_simp; (with_reducible rfl)); rotate_left; (simp only [Act.put, zt, zu, zv, i64_w, i32_w]; rfl); refine pure_ (i := 11) (N := some 17) (v := ?_) (a' := ?_) #[T,T,T,T,T,T,T,T,T,T,T,T,F] rfl rfl (by kernel_rfl) (fun _ _ _ h => h) (Or.inl ⟨by rfl, ?_⟩) ?_ ?_; rotate_left; (intro w'; go_simp; (with_reducible rfl)); rotate_left; (simp only [Act.put, zt, zu, zv, i64_w, i32_w]; rfl); refine pure_ (i := 12) (N := some 18) (v := ?_) (a' := ?_) #[T,T,T,T,T,T,T,T,T,T,T,T,T] rfl rfl (by kernel_rfl) (fun _ _ _ h => h) (Or.inl ⟨by rfl, ?_⟩) ?_ ?_; rotate_left; (intro w'; go_simp; (with_reducible rfl)); rotate_left; (simp only [Act.put, zt, zu, zv, i64_w, i32_w]; rfl); refine done_ (by kernel_rfl) ?_; obtain ⟨W1, hW1⟩ : ∃ W1, W.drew = W1 := ⟨_, rfl⟩; rw [hW1]; have T1 := Aside0.mk (show TB W1 base p g S n used D from hW1 ▸ HT.out.below (Below.refl _ W).drew); have K1 := Aside0.mk (show Kp W W1 p g from hW1 ▸ Kp.of (Below.refl _ W).drew p g); have Z1 := Aside0.mk (show W1.heap.size = W.heap.size from hW1 ▸ rfl); clear hp0 hp2 hW1 w1 w2 w3 hd; have hp0 : W1.cell? ⟨p, 0, none⟩ = some (.slice (some ⟨g, 0, none⟩) S.length S.length) := (zC T1.out.tw.bp 0).trans rfl; have hp1 : W1.cell? ⟨p, 1, none⟩ = some (.int .i64 (n : Int)) := (zC T1.out.tw.bp 1).trans rfl
  have wn : wrap64 ((n : Int) + 1) = (n : Int) + 1 := by have := HN.out; unfold wrap64; omega
  have wn4 : wrap64 (4 * ((n : Int) + 1)) = 4 * ((n : Int) + 1) := by have := HN.out; unfold wrap64; omega
  go_wp2_with fail
  go_loopg [2] 37 (fun kq v2 W' => ∃ m : Nat, v2 = .int .i64 (m : Int) ∧ Aside0 (W' = W1) ∧ Aside0 (∃ e, m = 2 ^ e ∧ e + kq = 40))
  case atStart => exact ⟨8, rfl, ⟨rfl⟩, ⟨3, rfl, rfl⟩⟩
  case round =>
  obtain ⟨m, rfl, ⟨rfl⟩, HM⟩ := hrel; obtain ⟨e, he, hek⟩ := HM.out; have hm40 : Aside0 (m ≤ 1099511627776) := ⟨by rw [he]; exact Nat.le_trans (Nat.pow_le_pow_right (by decide) (show e ≤ 40 by omega)) (by decide)⟩
  by_cases hlt : (m : Int) < 4 * ((n : Int) + 1)
  · have hltb : decide ((m : Int) < 4 * ((n : Int) + 1)) = true := decide_eq_true hlt
    have hk : Aside0 (∃ k1, gk = k1 + 1) := ⟨by
      cases gk with
      | succ k => exact ⟨k, rfl⟩
      | zero =>
        have : e = 40 := by omega
        rw [this] at he; have := HN.out
        omega⟩
    have HE := Aside0.mk (And.intro he hek)
    clear hlt he hek HM
    go_wp2_with fail
    obtain ⟨k1, hk1⟩ := hk.out
    go_roundg k1
    case measure => omega
    case rel =>
      have hw : wrap64 ((m : Int) * 2) = ((m * 2 : Nat) : Int) := by have := hm40.out; unfold wrap64; omega
      exact ⟨m * 2, by rw [hw], ⟨rfl⟩, ⟨e + 1, by rw [HE.out.1, Nat.pow_succ], by have := HE.out.2; omega⟩⟩
  have hltb : decide ((m : Int) < 4 * ((n : Int) + 1)) = false := decide_eq_false hlt; have HM2 := Aside0.mk (show 4 * (n + 1) ≤ m ∧ ∃ e, m = 2 ^ e ∧ e ≤ 40 from ⟨by omega, e, he, by omega⟩); clear hlt he hek HM
  go_wp2_with fail
  rw [make60 wr m hm40.out]; simp only [Result.andThen]; rw [Oper.upon_value]; obtain ⟨g2, hg2⟩ : ∃ g2, wr.heap.size = g2 := ⟨_, rfl⟩; rw [hg2]; obtain ⟨W2, hW2⟩ : ∃ W2, wr.alloc (.cells (fs (List.replicate m z81)).toArray 81) = W2 := ⟨_, rfl⟩; rw [hW2]; have B2 := Aside0.mk (show Below wr.heap.size wr W2 from hW2 ▸ zA (Below.refl _ wr) _); have G2 := Aside0.mk (show W2.heap[g2]? = some (.cells (fs (List.replicate m z81)).toArray 81 (0, 0)) from by rw [← hW2, ← hg2]; exact heap_alloc_new wr _); have L2 := Aside0.mk (And.intro hg2 (blk_lt T1.out.tw.bp)); have P2 := Aside0.mk (blk_below T1.out.tw.bp B2.out); have Q2 := Aside0.mk (blk_below T1.out.tw.bg B2.out); clear hg2 hW2 hp0 hp1 wn wn4 hltb; have fz := zR P2.out 0; have hp0 : W2.cell? ⟨p, 0, none⟩ = some (.slice (some ⟨g, 0, none⟩) S.length S.length) := (zC P2.out 0).trans rfl; have hp1 : W2.cell? ⟨p, 1, none⟩ = some (.int .i64 (n : Int)) := (zC P2.out 1).trans rfl; have hp2 : W2.cell? ⟨p, 2, none⟩ = some (.int .i64 (used : Int)) := (zC P2.out 2).trans rfl; have fz1 := zR P2.out 1; have fz2 := zR P2.out 2
  go_wp2_with fail
  obtain ⟨W3, hW3⟩ : ∃ W3, ((W2.setCell ⟨p, 0, none⟩ (.slice (some ⟨g2, 0, none⟩) m m)).setCell ⟨p, 1, none⟩ (.int .i64 0)).setCell ⟨p, 2, none⟩ (.int .i64 0) = W3 := ⟨_, rfl⟩; rw [hW3]
  have hpg : p ≠ g2 := by have := L2.out.1; have := L2.out.2; omega
  have GS := Aside0.mk (show GL W W3 base p g m S D 0 g2 (List.replicate m z81) 0 from by
    have k2 := K1.out.trans (Or.inl rfl) (Kp.of B2.out p g); refine ⟨?_, ?_, ⟨⟨?_, ?_, T1.out.tw.hp, ?_⟩, ?_, by omega⟩, ?_, List.length_replicate, by rw [cnt_zero]; exact Nat.le_refl _⟩; (rw [← hW3]; exact ((k2.trans (Or.inl rfl) (Kp.set _ _ (Or.inl rfl))).trans (Or.inl rfl) (Kp.set _ _ (Or.inl rfl))).trans (Or.inl rfl) (Kp.set _ _ (Or.inl rfl))); (rw [← hW3]; exact zG (zG (zG Q2.out (p := ⟨p, 0, none⟩) (Ne.symm T1.out.ne) _) (p := ⟨p, 1, none⟩) (Ne.symm T1.out.ne) _) (p := ⟨p, 2, none⟩) (Ne.symm T1.out.ne) _); (rw [← hW3, List.length_replicate, cnt_zero]; exact zP (zP (zP P2.out 0 _ rfl) 1 _ rfl) 2 _ rfl); (rw [← hW3]; exact zG (zG (zG G2.out (p := ⟨p, 0, none⟩) (Ne.symm hpg) _) (p := ⟨p, 1, none⟩) (Ne.symm hpg) _) (p := ⟨p, 2, none⟩) (Ne.symm hpg) _); (have := HBS.out; have := K1.out.size; have := L2.out.1; omega); (rw [part_zero, cnt_zero]; exact OK.fresh m HM2.out.2)
    · have := K1.out.size; have := L2.out.1; omega)
  have HS := Aside0.mk (And.intro T1.out.ok.hl (And.intro (blk_lt HT.out.tw.bg) T1.out.ne)); have OKS := Aside0.mk T1.out.ok; have SL := Aside0.mk T1.out.ok.len.2; clear fz fz1 fz2 hp0 hp1 hp2 hW3 hpg B2 G2 L2 P2 Q2 T1 K1 Z1
  go_loopg [46] S.length (fun kq v46 w => ∃ i g' S' u', v46 = .int .i64 ((i : Nat) : Int) ∧ Aside0 (i + kq = S.length) ∧ Aside0 (GL W w base p g m S D i g' S' u'))
  case atStart => exact ⟨0, g2, _, 0, rfl, ⟨by omega⟩, GS⟩
  case round =>
  clear GS; obtain ⟨i, g', S', u', rfl, HI, GLi⟩ := hrel
  cases gk with
  | zero =>
    have hlt : decide ((i : Int) < (S.length : Int)) = false := decide_eq_false (by have := HI.out; omega)
    have hlt2 : ¬ i < S.length := by have := HI.out; omega
    go_wp2_with fail
    refine bodyPost_end (results_none rfl _ _ _) rfl ?_
    have hi : i = S.length := by have := HI.out; omega
    subst hi; have hc := cnt_all S; rw [← HS.out.1] at hc; have ht := GLi.out.tb; have hu := GLi.out.hu; rw [part_all OKS.out, hc] at ht; rw [hc] at hu; exact ⟨rfl, GLi.out.kp, g', S', u', Or.inr GLi.out.hg, ht, by rw [GLi.out.hm]; have := HM2.out.1; omega, trivial⟩
  | succ k1 =>
    have hlt : i < S.length := by have := HI.out; omega
    have HIL := Aside0.mk hlt; obtain ⟨x, hx⟩ : ∃ x, at60 S i = x := ⟨_, rfl⟩; have HX := Aside0.mk hx
    have old : ∀ j, j < 5 → wr.cell? ⟨g, i * 5 + j, none⟩ = [Value.int .i64 x.f0, .string x.f1.f0, .string x.f1.f1, .int .i64 x.f1.f2, .int .i64 x.f2][j]? := by
      intro j hj; rw [zC GLi.out.old, ← hx, at60_eq S i hlt, ← fs_at S i hlt j hj]; simp
    have t0 : wr.cell? ⟨g, i * 5, none⟩ = some (.int .i64 x.f0) := old 0 (by omega); have t1 : wr.cell? ⟨g, i * 5 + 1, none⟩ = some (.string x.f1.f0) := old 1 (by omega); have t2 : wr.cell? ⟨g, i * 5 + 2, none⟩ = some (.string x.f1.f1) := old 2 (by omega); have t3 : wr.cell? ⟨g, i * 5 + 3, none⟩ = some (.int .i64 x.f1.f2) := old 3 (by omega); have t4 : wr.cell? ⟨g, i * 5 + 4, none⟩ = some (.int .i64 x.f2) := old 4 (by omega); clear old hx; have hwi : Aside0 (wrap64 ((i : Int) + 1) = ((i + 1 : Nat) : Int)) := ⟨by have := SL.out; have := HIL.out; unfold wrap64; omega⟩
    by_cases s1 : x.f0 = 1
    · have s1b : (x.f0 == 1) = true := by simp [s1]
      have H1 := Aside0.mk s1
      clear s1
      have PN := Aside0.mk (part_step OKS.out i HIL.out (by rw [HX.out]; exact H1.out))
      have CN := Aside0.mk (show cnt S (i + 1) = cnt S i + 1 from by rw [cnt_step S i HIL.out, if_pos (by rw [HX.out]; exact H1.out)])
      have RM := Aside0.mk (show 4 * (u' + 1) ≤ 3 * S'.length ∧ cnt S i ≤ 1073741824 from by
        have h1 := cnt_le S (i + 1); have h2 := HS.out.1; have h3 := CN.out; have h4 := GLi.out.hu; have h5 := HM2.out.1; have h6 := HN.out; rw [GLi.out.hm]
        omega)
      have HP := Aside0.mk (fun (w : World) (hb : Below wr.heap.size wr w) => put_no w base p g' S' (cnt S i) u' (part S D i) x.f1 x.f2 (HX.out ▸ OKS.out.sz i HIL.out (by rw [HX.out]; exact H1.out)) RM.out.2 (GLi.out.tb.below hb) RM.out.1)
      go_wp2_with (go_at_call 41; refine (HP.out _ (zA (Below.refl _ wr) _)).mono ?_; rintro e w' (⟨hno, rfl, hput⟩ | ⟨hyes, rfl, hput⟩); exact absurd (HX.out ▸ PN.out.1) hno; have PT := Aside0.mk hput; clear hput hyes)
      go_roundg k1
      case measure => omega
      case rel =>
        obtain ⟨kp, g'', S'', u'', hgg, tb, u, ⟨hl, hu⟩, hu2⟩ := PT.out; have hg := GLi.out.below (zA (Below.refl _ wr) (.cells #[.int .i64 x.f0, .string x.f1.f0, .string x.f1.f1, .int .i64 x.f1.f2, .int .i64 x.f2] 81)); have hgw := HS.out.2; refine ⟨i + 1, g'', S'', u'', by rw [hwi.out], ⟨by have := HI.out; omega⟩, ⟨⟨hg.kp.trans (Or.inr hg.hg) kp, ?_, ?_, ?_, hl.trans hg.hm, ?_⟩⟩⟩; (refine (kp.block g (blk_lt hg.old) (Ne.symm hgw.2) ?_).trans hg.old; have := hg.hg; have := hgw.1; omega); (rw [CN.out, PN.out.2, HX.out]; exact tb)
        · have := hg.hg
          have := hg.kp.size
          rcases hgg with e | e <;> omega
        · have := hg.hu
          have := CN.out; omega
    · have s1b : (x.f0 == 1) = false := by simp [s1]
      have H1 := Aside0.mk s1
      clear s1
      go_wp2_with fail
      go_roundg k1
      case measure => omega
      case rel =>
        have hc : cnt S (i + 1) = cnt S i := by rw [cnt_step S i HIL.out, if_neg (by rw [HX.out]; exact H1.out)]; rfl
        have hp : part S D (i + 1) = part S D i := part_skip S D i (by rw [HX.out]; exact H1.out); have hg := GLi.out.below (zA (Below.refl _ wr) (.cells #[.int .i64 x.f0, .string x.f1.f0, .string x.f1.f1, .int .i64 x.f1.f2, .int .i64 x.f2] 81)); exact ⟨i + 1, g', S', u', by rw [hwi.out], ⟨by have := HI.out; omega⟩, ⟨⟨hg.kp, hg.old, by rw [hc, hp]; exact hg.tb, hg.hg, hg.hm, by rw [hc]; exact hg.hu⟩⟩⟩
/-- An index in memory: a map from labels to numbers, of n labels. -/
def IX (W : World) (base p n : Nat) (D : S50 → Option Int) : Prop := ∃ g S used, TB W base p g S n used D
theorem IX.below {W W' : World} {base p n : Nat} {D : S50 → Option Int} (h : IX W base p n D) (hb : Below W.heap.size W W') : IX W' base p n D := by
  obtain ⟨g, S, used, h⟩ := h; exact ⟨g, S, used, h.below hb⟩
theorem put (W : World) (base p n : Nat) (D : S50 → Option Int) (k : S50) (v : Int) (hk : Fit k) (hnb : n ≤ 1073741824) (hbase : base ≤ W.heap.size) (h : IX W base p n D) :
    Calls Try.prog 41 #[.pointer (some ⟨p, 0, none⟩), .agg #[.string k.f0, .string k.f1, .int .i64 k.f2], .int .i64 v] W fun e w' => Below base W w' ∧ ((D k ≠ none ∧ e = .returned (.bool false) ∧ IX w' base p n D) ∨ (D k = none ∧ e = .returned (.bool true) ∧ IX w' base p (n + 1) (upd D k (some v)))) := by
  obtain ⟨g, S, used, ht⟩ := h; refine (put_walk W base p g n D k v hk hnb (fun _ _ => True) ⟨S, used, ht⟩ ?_).mono ?_; (intro W1 hb; exact grow W1 base p g S n used D (ht.below hb) hnb (Nat.le_trans hbase hb.size))
  · rintro e w' (⟨h1, rfl, kp, g', S', used', hgg, tb, _⟩ | ⟨h1, rfl, kp, g', S', used', hgg, tb, _⟩)
    · exact ⟨kp.below ht.tw.hp ht.tw.hg hbase, Or.inl ⟨h1, rfl, g', S', used', tb⟩⟩
    · exact ⟨kp.below ht.tw.hp ht.tw.hg hbase, Or.inr ⟨h1, rfl, g', S', used', tb⟩⟩
set_option maxHeartbeats 4000000 in
set_option maxRecDepth 100000 in
theorem get (W : World) (base p n : Nat) (D : S50 → Option Int) (k : S50) (hk : Fit k) (h : IX W base p n D) :
    Calls Try.prog 36 #[.pointer (some ⟨p, 0, none⟩), .agg #[.string k.f0, .string k.f1, .int .i64 k.f2]] W fun e w' => Below W.heap.size W w' ∧ e = .returned (.tuple #[.int .i64 ((D k).getD 0), .bool (D k).isSome]) := by
  obtain ⟨g, S, used, ht⟩ := h; have HK := Aside0.mk hk; have HT := Aside0.mk ht; have hp1 : W.cell? ⟨p, 1, none⟩ = some (.int .i64 (n : Int)) := (zC ht.tw.bp 1).trans rfl; obtain ⟨f, j, b, hplc, hjl, hcase⟩ := ht.ok.place2 ht.le k; have PL := Aside0.mk hplc; have JL := Aside0.mk hjl; have CA := Aside0.mk hcase; clear hk ht hplc hjl hcase
  by_cases hn : n = 0
  · have H0 := Aside0.mk (show D k = none from by have := HT.out.ok; rw [hn] at this; rw [this.zero])
    have hnb : ((n : Int) == 0) = true := by simp [hn]
    clear hn
    go_enter Try.func36, Try.ntmps36
    go_wp2_with ((with_reducible refine gd (N := 3) rfl ?_); refine zb ?hg (N := 3) ?hd (cs := #[.string k.f0, .string k.f1, .int .i64 k.f2]) (t := 50) ?hr ?_; (case hd => rfl); (case hg => rfl); (case hr => go_simp; first | done | rfl); intro gb hg w1 hbox hb; have G1 := Aside0.mk hg; have B1 := Aside0.mk hb; have hp1 : w1.cell? ⟨p, 1, none⟩ = some (.int .i64 (n : Int)) := (zC (HT.out.below hb).tw.bp 1).trans rfl; clear hbox hb hg)
    go_ret2
    exact ⟨B1.out, by rw [H0.out]; rfl⟩
  · have hnb : ((n : Int) == 0) = false := by simp [hn]
    clear hn
    go_enter Try.func36, Try.ntmps36
    go_upto_region 4 with (first | ((with_reducible refine gd (N := 3) rfl ?_); refine zb ?hg (N := 3) ?hd (cs := #[.string k.f0, .string k.f1, .int .i64 k.f2]) (t := 50) ?hr ?_; (case hd => rfl); (case hg => rfl); (case hr => go_simp; first | done | rfl); intro gb hg w1 hbox hb; have G1 := Aside0.mk hg; have B1 := Aside0.mk hb; have X1 := Aside0.mk hbox; have hp1 : w1.cell? ⟨p, 1, none⟩ = some (.int .i64 (n : Int)) := (zC (HT.out.below hb).tw.bp 1).trans rfl; have c0 : w1.cell? ⟨gb, 0, none⟩ = some (.string k.f0) := (zC hbox 0).trans rfl; have c1 : w1.cell? ⟨gb, 1, none⟩ = some (.string k.f1) := (zC hbox 1).trans rfl; have c2 : w1.cell? ⟨gb, 2, none⟩ = some (.int .i64 k.f2) := (zC hbox 2).trans rfl; clear hbox hb hg) | (go_at_call 42; refine (place f w1 base p g S n used k _ _ (HT.out.below B1.out).tw HT.out.ok.pw.choose_spec.1 HT.out.ok.pw.choose_spec.2 PL.out HK.out.1 HK.out.2).mono ?_; rintro e w3 ⟨rfl, hb3⟩; have B3 := Aside0.mk (B1.out.trans (hb3.mono B1.out.size)); clear hb3))
    have T3 := Aside0.mk (HT.out.below B3.out)
    clear hp1 c0 c1 c2 X1 B1
    rcases CA.out with ⟨rfl, q1, q2⟩ | ⟨rfl, q1, q2, q3⟩
    · have Q := Aside0.mk (HT.out.ok.some_of JL.out q1 q2)
      have hp0 : w3.cell? ⟨p, 0, none⟩ = some (.slice (some ⟨g, 0, none⟩) S.length S.length) := (zC T3.out.tw.bp 0).trans rfl
      obtain ⟨s0, hs0⟩ : ∃ s0, (at60 S j).f2 = s0 := ⟨_, rfl⟩
      have t0 : w3.cell? ⟨g, j * 5 + 4, none⟩ = some (.int .i64 s0) := hs0 ▸ T3.out.tw.cell j JL.out 4 (by omega)
      have hjn := JL.out
      have HS := Aside0.mk hs0
      clear q1 q2 CA hs0
      go_wp2_with fail
      go_ret2
      exact ⟨B3.out, by rw [Q.out, HS.out]; rfl⟩
    · have Q := Aside0.mk (HT.out.ok.none_of q2)
      clear q1 q2 q3 CA
      go_wp2_with fail
      go_ret2
      exact ⟨B3.out, by rw [Q.out]; rfl⟩
/-- What putting makes of a map. -/
noncomputable def putD (D : S50 → Option Int) (k : S50) (v : Int) : S50 → Option Int := if (D k).isNone then upd D k (some v) else D
theorem putU (W : World) (base p n : Nat) (D : S50 → Option Int) (k : S50) (v : Int) (hk : Fit k) (hnb : n ≤ 1073741824) (hbase : base ≤ W.heap.size) (h : IX W base p n D) :
    Calls Try.prog 41 #[.pointer (some ⟨p, 0, none⟩), .agg #[.string k.f0, .string k.f1, .int .i64 k.f2], .int .i64 v] W fun e w' => e = .returned (.bool (D k).isNone) ∧ Below base W w' ∧ IX w' base p (if (D k).isNone then n + 1 else n) (putD D k v) := by
  refine (put W base p n D k v hk hnb hbase h).mono ?_; rintro e w' ⟨hb, ⟨h1, rfl, hi⟩ | ⟨h1, rfl, hi⟩⟩
  · cases hd : D k with
    | none => exact absurd hd h1
    | some x =>
      refine ⟨rfl, hb, ?_⟩; unfold putD; rw [hd]; exact hi
  · unfold putD
    rw [h1]; exact ⟨rfl, hb, hi⟩
set_option maxHeartbeats 4000000 in
set_option maxRecDepth 100000 in
theorem Index_Put (W : World) (base p n : Nat) (D : S50 → Option Int) (k : S50) (v : Int) (hk : Fit k) (hnb : n ≤ 1073741824) (hbase : base ≤ W.heap.size) (h : IX W base p n D) :
    Calls Try.prog 35 #[.pointer (some ⟨p, 0, none⟩), .agg #[.string k.f0, .string k.f1, .int .i64 k.f2], .int .i64 v] W fun e w' => e = .returned (.bool (D k).isNone) ∧ Below base W w' ∧ IX w' base p (if (D k).isNone then n + 1 else n) (putD D k v) := by
  have HH := Aside0.mk (And.intro hk (And.intro hnb hbase)); have HI := Aside0.mk h; clear hk hnb hbase h; obtain ⟨b, hbb⟩ : ∃ b, (D k).isNone = b := ⟨_, rfl⟩; obtain ⟨n', hnn⟩ : ∃ n', (if (D k).isNone then n + 1 else n) = n' := ⟨_, rfl⟩; rw [hbb] at hnn; have HBB := Aside0.mk (And.intro hbb hnn); rw [hbb, hnn]; clear hbb hnn
  go_enter Try.func35, Try.ntmps35
  go_upto_region 1 with ((with_reducible refine gd (N := 4) rfl ?_); refine zb ?hg (N := 4) ?hd (cs := #[.string k.f0, .string k.f1, .int .i64 k.f2]) (t := 50) ?hr ?_; (case hd => rfl); (case hg => rfl); (case hr => go_simp; first | done | rfl); intro gb hg w1 hbox hb; have G1 := Aside0.mk hg; have B1 := Aside0.mk hb; have c0 : w1.cell? ⟨gb, 0, none⟩ = some (.string k.f0) := (zC hbox 0).trans rfl; have c1 : w1.cell? ⟨gb, 1, none⟩ = some (.string k.f1) := (zC hbox 1).trans rfl; have c2 : w1.cell? ⟨gb, 2, none⟩ = some (.int .i64 k.f2) := (zC hbox 2).trans rfl; clear hbox hb hg)
  refine start_ (n := 11) (S := (fun w' => w'.cell? ⟨gb, 0, none⟩ = some (.string k.f0) ∧ w'.cell? ⟨gb, 1, none⟩ = some (.string k.f1) ∧ w'.cell? ⟨gb, 2, none⟩ = some (.int .i64 k.f2))) (ds := [8]) #[F,F,F,F,F,F,F,F,F,F,F] (by kernel_rfl) rfl rfl ?_ ?_; (exact ⟨c0, c1, c2⟩); intro hHeld; refine pure_ (i := 0) (N := some 7) (v := ?_) (a' := ?_) #[T,F,F,F,F,F,F,F,F,F,F] rfl rfl (by kernel_rfl) (fun _ _ _ h => h) (Or.inl ⟨by rfl, ?_⟩) ?_ ?_; rotate_left; (intro w'; go_simp; (with_reducible rfl)); rotate_left; (simp only [Act.put, zt, zu, zv, i64_w, i32_w]; rfl); refine pure_ (i := 1) (N := some 8) (v := ?_) (a' := ?_) #[T,T,F,F,F,F,F,F,F,F,F] rfl rfl (by kernel_rfl) (fun _ _ _ h => h) (Or.inl ⟨by rfl, ?_⟩) ?_ ?_; rotate_left; (intro w'; go_simp; (with_reducible rfl)); rotate_left; (simp only [Act.put, zt, zu, zv, i64_w, i32_w]; rfl); refine pure_ (i := 2) (N := some 9) (v := ?_) (a' := ?_) #[T,T,T,F,F,F,F,F,F,F,F] rfl rfl (by kernel_rfl) (fun _ _ _ h => h) (Or.inl ⟨by rfl, ?_⟩) ?_ ?_; rotate_left; (intro w'; go_simp; (with_reducible rfl)); rotate_left; (simp only [Act.put, zt, zu, zv, i64_w, i32_w]; rfl); refine pure_ (i := 3) (N := some 10) (v := ?_) (a' := ?_) #[T,T,T,T,F,F,F,F,F,F,F] rfl rfl (by kernel_rfl) (fun _ _ _ h => h) (Or.inl ⟨by rfl, ?_⟩) ?_ ?_; rotate_left; (intro w'; go_simp; (with_reducible rfl)); rotate_left; (simp only [Act.put, zt, zu, zv, i64_w, i32_w]; rfl); refine pure_ (i := 4) (N := some 11) (v := ?_) (a' := ?_) #[T,T,T,T,T,F,F,F,F,F,F] rfl rfl (by kernel_rfl) (fun _ _ _ h => h) (Or.inl ⟨by rfl, ?_⟩) ?_ ?_; rotate_left; (intro w'; go_simp; (with_reducible rfl)); rotate_left; (simp only [Act.put, zt, zu, zv, i64_w, i32_w]; rfl); refine pure_ (i := 5) (N := some 12) (v := ?_) (a' := ?_) #[T,T,T,T,T,T,F,F,F,F,F] rfl rfl (by kernel_rfl) (fun _ _ _ h => h) (Or.inl ⟨by rfl, ?_⟩) ?_ ?_; rotate_left; (intro w'; go_simp; (with_reducible rfl)); rotate_left; (simp only [Act.put, zt, zu, zv, i64_w, i32_w]; rfl); refine pure_ (i := 7) (N := some 14) (v := ?_) (a' := ?_) #[T,T,T,T,T,T,F,T,F,F,F] rfl rfl (by kernel_rfl) (fun _ _ _ h => h) (Or.inl ⟨by rfl, ?_⟩) ?_ ?_; rotate_left; (intro w'; go_simp; (with_reducible rfl)); rotate_left; (simp only [Act.put, zt, zu, zv, i64_w, i32_w]; rfl); refine take_ (i := 6) (N := some 13) (v := ?_) (a' := ?_) #[T,T,T,T,T,T,T,T,F,F,F] rfl rfl (by kernel_rfl) (fun _ _ _ h => h) (Or.inl ⟨by rfl, ?_⟩) hHeld ?_ ?_; rotate_left; (rintro w' ⟨s0, s1, s2⟩; go_simp; (with_reducible rfl)); rotate_left; (simp only [Act.put, zt, zu, zv, i64_w, i32_w]; rfl); refine last_ (i := 8) (N := some 15) #[T,T,T,T,T,T,T,T,T,F,F] rfl rfl (by kernel_rfl) (by decide) (fun K hK => ?_); refine goes_ Try.func41 (by kernel_rfl) rfl #[.pointer (some ⟨p, 0, none⟩), .agg #[.string k.f0, .string k.f1, .int .i64 k.f2], .int .i64 v] (by rfl) rfl rfl (by (try simp only [List.map_toArray, List.map_cons, List.map_nil]); first | done | rfl) ?_; have B2 := (B1.out.trans (Below.refl _ w1).drew |> fun h => h); refine (putU w1.drew base p n D k v HH.out.1 HH.out.2.1 (Nat.le_trans HH.out.2.2 B1.out.size) ((HI.out.below B1.out).below (Below.refl _ w1).drew)).mono ?_; rintro e W2 ⟨rfl, hb, hi⟩; rw [HBB.out.1, HBB.out.2] at hi; refine ⟨_, by rw [HBB.out.1], ?_⟩; have B3 := Aside0.mk ((B1.out.mono HH.out.2.2).trans (((Below.refl _ w1).drew.mono (Nat.le_trans HH.out.2.2 B1.out.size)).trans hb)); have I3 := Aside0.mk hi; clear hb hi; refine hK.out _ _ ?_; clear hK K; refine norm_ (a' := ?_) ?_ ?_; rotate_left
  · show Act.put _ (some 15) _ = _
    simp only [Act.put, zt, zu, zv, i64_w, i32_w]
    rfl
  refine pure_ (i := 9) (N := some 16) (v := ?_) (a' := ?_) #[T,T,T,T,T,T,T,T,T,T,F] rfl rfl (by kernel_rfl) (fun _ _ _ h => h) (Or.inl ⟨by rfl, ?_⟩) ?_ ?_; rotate_left; (intro w'; go_simp; (with_reducible rfl)); rotate_left; (simp only [Act.put, zt, zu, zv, i64_w, i32_w]; rfl); refine pure_ (i := 10) (N := some 6) (v := ?_) (a' := ?_) #[T,T,T,T,T,T,T,T,T,T,T] rfl rfl (by kernel_rfl) (fun _ _ _ h => h) (Or.inl ⟨by rfl, ?_⟩) ?_ ?_; rotate_left; (intro w'; go_simp; (with_reducible rfl)); rotate_left; (simp only [Act.put, zt, zu, zv, i64_w, i32_w]; rfl); refine done_ (by kernel_rfl) ?_
  go_wp2_with fail
  refine bodyPost_ret (results_tmp rfl _ _ _) rfl ?_; exact ⟨rfl, B3.out, I3.out⟩
set_option maxHeartbeats 4000000 in
set_option maxRecDepth 100000 in
theorem Index_Get (W : World) (base p n : Nat) (D : S50 → Option Int) (k : S50) (hk : Fit k) (h : IX W base p n D) :
    Calls Try.prog 31 #[.pointer (some ⟨p, 0, none⟩), .agg #[.string k.f0, .string k.f1, .int .i64 k.f2]] W fun e w' => e = .returned (.tuple #[.int .i64 ((D k).getD 0), .bool (D k).isSome]) ∧ Below W.heap.size W w' := by
  have HH := Aside0.mk hk; have HI := Aside0.mk h; clear hk h
  go_enter Try.func31, Try.ntmps31
  go_upto_region 3 with ((with_reducible refine gd (N := 3) rfl ?_); refine zb ?hg (N := 3) ?hd (cs := #[.string k.f0, .string k.f1, .int .i64 k.f2]) (t := 50) ?hr ?_; (case hd => rfl); (case hg => rfl); (case hr => go_simp; first | done | rfl); intro gb hg w1 hbox hb; have G1 := Aside0.mk hg; have B1 := Aside0.mk hb; have c0 : w1.cell? ⟨gb, 0, none⟩ = some (.string k.f0) := (zC hbox 0).trans rfl; have c1 : w1.cell? ⟨gb, 1, none⟩ = some (.string k.f1) := (zC hbox 1).trans rfl; have c2 : w1.cell? ⟨gb, 2, none⟩ = some (.int .i64 k.f2) := (zC hbox 2).trans rfl; clear hbox hb hg)
  refine start_ (n := 9) (S := (fun w' => w'.cell? ⟨gb, 0, none⟩ = some (.string k.f0) ∧ w'.cell? ⟨gb, 1, none⟩ = some (.string k.f1) ∧ w'.cell? ⟨gb, 2, none⟩ = some (.int .i64 k.f2))) (ds := [4]) #[F,F,F,F,F,F,F,F,F] (by kernel_rfl) rfl rfl ?_ ?_; (exact ⟨c0, c1, c2⟩); intro hHeld; refine pure_ (i := 0) (N := some 8) (v := ?_) (a' := ?_) #[T,F,F,F,F,F,F,F,F] rfl rfl (by kernel_rfl) (fun _ _ _ h => h) (Or.inl ⟨by rfl, ?_⟩) ?_ ?_; rotate_left; (intro w'; go_simp; (with_reducible rfl)); rotate_left; (simp only [Act.put, zt, zu, zv, i64_w, i32_w]; rfl); refine pure_ (i := 1) (N := some 9) (v := ?_) (a' := ?_) #[T,T,F,F,F,F,F,F,F] rfl rfl (by kernel_rfl) (fun _ _ _ h => h) (Or.inl ⟨by rfl, ?_⟩) ?_ ?_; rotate_left; (intro w'; go_simp; (with_reducible rfl)); rotate_left; (simp only [Act.put, zt, zu, zv, i64_w, i32_w]; rfl); refine pure_ (i := 2) (N := some 10) (v := ?_) (a' := ?_) #[T,T,T,F,F,F,F,F,F] rfl rfl (by kernel_rfl) (fun _ _ _ h => h) (Or.inl ⟨by rfl, ?_⟩) ?_ ?_; rotate_left; (intro w'; go_simp; (with_reducible rfl)); rotate_left; (simp only [Act.put, zt, zu, zv, i64_w, i32_w]; rfl); refine take_ (i := 3) (N := some 11) (v := ?_) (a' := ?_) #[T,T,T,T,F,F,F,F,F] rfl rfl (by kernel_rfl) (fun _ _ _ h => h) (Or.inl ⟨by rfl, ?_⟩) hHeld ?_ ?_; rotate_left; (rintro w' ⟨s0, s1, s2⟩; go_simp; (with_reducible rfl)); rotate_left; (simp only [Act.put, zt, zu, zv, i64_w, i32_w]; rfl); refine last_ (i := 4) (N := some 12) #[T,T,T,T,T,F,F,F,F] rfl rfl (by kernel_rfl) (by decide) (fun K hK => ?_); refine goes_ Try.func36 (by kernel_rfl) rfl #[.pointer (some ⟨p, 0, none⟩), .agg #[.string k.f0, .string k.f1, .int .i64 k.f2]] (by rfl) rfl rfl (by (try simp only [List.map_toArray, List.map_cons, List.map_nil]); first | done | rfl) ?_; refine (get w1.drew base p n D k HH.out ((HI.out.below B1.out).below (Below.refl _ w1).drew)).mono ?_; rintro e W2 ⟨hb, rfl⟩; refine ⟨_, rfl, ?_⟩; have B3 := Aside0.mk (B1.out.trans (((Below.refl _ w1).drew).trans (hb.mono B1.out.size))); clear hb; refine hK.out _ _ ?_; clear hK K; refine norm_ (a' := ?_) ?_ ?_; rotate_left
  · show Act.put _ (some 12) _ = _
    simp only [Act.put, zt, zu, zv, i64_w, i32_w]
    rfl
  refine pure_ (i := 5) (N := some 13) (v := ?_) (a' := ?_) #[T,T,T,T,T,T,F,F,F] rfl rfl (by kernel_rfl) (fun _ _ _ h => h) (Or.inl ⟨by rfl, ?_⟩) ?_ ?_; rotate_left; (intro w'; go_simp; (with_reducible rfl)); rotate_left; (simp only [Act.put, zt, zu, zv, i64_w, i32_w]; rfl); refine pure_ (i := 6) (N := some 14) (v := ?_) (a' := ?_) #[T,T,T,T,T,T,T,F,F] rfl rfl (by kernel_rfl) (fun _ _ _ h => h) (Or.inl ⟨by rfl, ?_⟩) ?_ ?_; rotate_left; (intro w'; go_simp; (with_reducible rfl)); rotate_left; (simp only [Act.put, zt, zu, zv, i64_w, i32_w]; rfl); refine pure_ (i := 7) (N := some 4) (v := ?_) (a' := ?_) #[T,T,T,T,T,T,T,T,F] rfl rfl (by kernel_rfl) (fun _ _ _ h => h) (Or.inl ⟨by rfl, ?_⟩) ?_ ?_; rotate_left; (intro w'; go_simp; (with_reducible rfl)); rotate_left; (simp only [Act.put, zt, zu, zv, i64_w, i32_w]; rfl); refine pure_ (i := 8) (N := some 5) (v := ?_) (a' := ?_) #[T,T,T,T,T,T,T,T,T] rfl rfl (by kernel_rfl) (fun _ _ _ h => h) (Or.inl ⟨by rfl, ?_⟩) ?_ ?_; rotate_left; (intro w'; go_simp; (with_reducible rfl)); rotate_left; (simp only [Act.put, zt, zu, zv, i64_w, i32_w]; rfl); refine done_ (by kernel_rfl) ?_
  go_wp2_with fail
  go_ret2
  exact ⟨rfl, B3.out⟩
set_option maxHeartbeats 4000000 in
set_option maxRecDepth 100000 in
theorem Index_Len (W : World) (base p n : Nat) (D : S50 → Option Int) (h : IX W base p n D) :
    Calls Try.prog 30 #[.pointer (some ⟨p, 0, none⟩)] W fun e w' => e = .returned (.int .i64 (n : Int)) ∧ w' = W := by
  obtain ⟨g, S, used, ht⟩ := h; have hp1 : W.cell? ⟨p, 1, none⟩ = some (.int .i64 (n : Int)) := (zC ht.tw.bp 1).trans rfl; clear ht
  go_enter Try.func30, Try.ntmps30
  go_wp2_with fail
  refine bodyPost_ret (results_tmp rfl _ _ _) rfl ?_; exact ⟨rfl, rfl⟩
set_option maxHeartbeats 4000000 in
set_option maxRecDepth 100000 in
theorem New (W : World) (room : Int) : Calls Try.prog 34 #[.int .i64 room] W fun e w' => ∃ p, e = .returned (.pointer (some ⟨p, 0, none⟩)) ∧ Below W.heap.size W w' ∧ IX w' W.heap.size p 0 (fun _ => none) := by
  obtain ⟨a, ha⟩ : ∃ a, (if room < 0 then 0 else room) = a := ⟨_, rfl⟩; obtain ⟨R, hR⟩ : ∃ R, (if 4096 < a then 4096 else a) = R := ⟨_, rfl⟩
  have HR := Aside0.mk (show 0 ≤ R ∧ R ≤ 4096 from by
    constructor; (rw [← hR, ← ha]; split <;> split <;> omega)
    · rw [← hR]; split <;> omega)
  have hw4 : wrap64 (4 * R) = 4 * R := by have := HR.out; unfold wrap64; omega
  go_enter Try.func34, Try.ntmps34
  go_wp2_with ((with_reducible refine gd (N := 6) rfl ?_); refine zb ?hg (N := 6) ?hd (cs := #[.slice none 0 0, .int .i64 0, .int .i64 0]) (t := 72) ?hr ?_; (case hd => rfl); (case hg => rfl); (case hr => go_simp; first | done | rfl); intro p hg w1 hbox hb; have G1 := Aside0.mk hg; have B1 := Aside0.mk hb; have X1 := Aside0.mk hbox; clear hbox hb hg)
  go_loopg [4] 37 (fun kq v4 W' => ∃ m : Nat, v4 = .int .i64 (m : Int) ∧ Aside0 (W' = w1) ∧ Aside0 (∃ e, m = 2 ^ e ∧ e + kq = 40))
  case atStart => exact ⟨8, rfl, ⟨rfl⟩, ⟨3, rfl, rfl⟩⟩
  case round =>
  obtain ⟨m, rfl, HW, HM⟩ := hrel; have hw := HW.out; subst hw; clear HW; have hm40 : Aside0 (m ≤ 1099511627776) := ⟨by obtain ⟨e, he, hek⟩ := HM.out; rw [he]; exact Nat.le_trans (Nat.pow_le_pow_right (by decide) (show e ≤ 40 by omega)) (by decide)⟩
  have hw3 : wrap64 (3 * (m : Int)) = 3 * (m : Int) := by have := hm40.out; unfold wrap64; omega
  by_cases hlt : 3 * (m : Int) < 4 * R
  · have hltb : decide (3 * (m : Int) < 4 * R) = true := decide_eq_true hlt
    have hk : Aside0 (∃ k1, gk = k1 + 1) := ⟨by
      obtain ⟨e, he, hek⟩ := HM.out
      cases gk with
      | succ k => exact ⟨k, rfl⟩
      | zero =>
        have : e = 40 := by omega
        rw [this] at he; have := HR.out
        omega⟩
    clear hlt
    go_wp2_with fail
    obtain ⟨k1, hk1⟩ := hk.out
    go_roundg k1
    case measure => omega
    case rel =>
      have hw : wrap64 ((m : Int) * 2) = ((m * 2 : Nat) : Int) := by have := hm40.out; unfold wrap64; omega
      obtain ⟨e, he, hek⟩ := HM.out; exact ⟨m * 2, by rw [hw], ⟨rfl⟩, ⟨e + 1, by rw [he, Nat.pow_succ], by omega⟩⟩
  have hltb : decide (3 * (m : Int) < 4 * R) = false := decide_eq_false hlt; clear hlt
  go_wp2_with fail
  rw [make60 wr m hm40.out]; simp only [Result.andThen]; rw [Oper.upon_value]; obtain ⟨g2, hg2⟩ : ∃ g2, wr.heap.size = g2 := ⟨_, rfl⟩; rw [hg2]; obtain ⟨W2, hW2⟩ : ∃ W2, wr.alloc (.cells (fs (List.replicate m z81)).toArray 81) = W2 := ⟨_, rfl⟩; rw [hW2]; have B2 := Aside0.mk (show Below wr.heap.size wr W2 from hW2 ▸ zA (Below.refl _ wr) _); have G2 := Aside0.mk (show W2.heap[g2]? = some (.cells (fs (List.replicate m z81)).toArray 81 (0, 0)) from by rw [← hW2, ← hg2]; exact heap_alloc_new wr _); have L2 := Aside0.mk (show g2 = wr.heap.size ∧ p < wr.heap.size from ⟨hg2.symm, blk_lt X1.out⟩); have P2 := Aside0.mk (blk_below X1.out B2.out); clear hg2 hW2 hltb ha hR hw4 hw3; have fz := zR P2.out 0; have hp0 : W2.cell? ⟨p, 0, none⟩ = some (.slice none 0 0) := (zC P2.out 0).trans rfl
  go_wp2_with fail
  refine bodyPost_ret (results_tmp rfl _ _ _) rfl ?_
  have hpg : p ≠ g2 := by have := L2.out; omega
  have hsz := B1.out.size; have hB := (B1.out.trans (B2.out.mono hsz)).setCell (p := ⟨p, 0, none⟩) (by have := G1.out; show W.heap.size ≤ p; omega) (.slice (some ⟨g2, 0, none⟩) m m); refine ⟨p, rfl, hB, g2, List.replicate m z81, 0, ⟨?_, ?_, ?_, ?_⟩, OK.fresh m ?_, by omega⟩; (rw [List.length_replicate]; exact zP P2.out 0 _ rfl); (exact zG G2.out (p := ⟨p, 0, none⟩) (Ne.symm hpg) _); (have := G1.out; omega); (have := L2.out; omega); (obtain ⟨e, he, hek⟩ := HM.out; exact ⟨e, he, by omega⟩)
/-- The map of the first i labels, and how many there are. -/
noncomputable def ofM (xs : List S50) : Nat → S50 → Option Int
  | 0 => fun _ => none
  | i + 1 => putD (ofM xs i) (rd_T50 xs i) i
noncomputable def ofN (xs : List S50) : Nat → Nat
  | 0 => 0
  | i + 1 => if (ofM xs i (rd_T50 xs i)).isNone then ofN xs i + 1 else ofN xs i
theorem ofN_le (xs : List S50) : ∀ i, ofN xs i ≤ i := by
  intro i
  induction i with
  | zero => exact Nat.le_refl _
  | succ i ih =>
    unfold ofN; split <;> omega
set_option maxHeartbeats 4000000 in
set_option maxRecDepth 100000 in
theorem Of (W : World) (A : Option Addr) (c : Nat) (xs : List S50) (hC : Kd.C k50 W A xs.length xs) (hfit : ∀ i : Nat, i < xs.length → Fit (rd_T50 xs i)) (hn : xs.length ≤ 1073741824) :
    Calls Try.prog 29 #[.slice A xs.length c] W fun e w' => ∃ p, e = .returned (.pointer (some ⟨p, 0, none⟩)) ∧ Below W.heap.size W w' ∧ IX w' W.heap.size p (ofN xs xs.length) (ofM xs xs.length) := by
  have HC := Aside0.mk hC; have HF := Aside0.mk hfit; have HN := Aside0.mk hn; clear hC hfit hn
  go_enter Try.func29, Try.ntmps29
  go_wp2_with (go_at_call 34; refine (New W _).mono ?_; rintro e w1 ⟨p, rfl, hb, hi⟩; have B1 := Aside0.mk hb; have I1 := Aside0.mk hi; clear hb hi)
  go_loopg [11] xs.length (fun kq v11 w => ∃ i : Nat, v11 = .int .i64 (i : Int) ∧ Aside0 (i + kq = xs.length) ∧ Aside0 (Below W.heap.size W w) ∧ Aside0 (IX w W.heap.size p (ofN xs i) (ofM xs i)))
  case atStart => exact ⟨0, rfl, ⟨by omega⟩, B1, I1⟩
  case round =>
  clear B1 I1; obtain ⟨i, rfl, HI, HB, HX⟩ := hrel
  cases gk with
  | zero =>
    have hlt2 : ¬ i < xs.length := by have := HI.out; omega
    go_wp2_with fail
    refine bodyPost_ret (results_tmp rfl _ _ _) rfl ?_
    have hi : i = xs.length := by have := HI.out; omega
    have hx := HX.out; rw [hi] at hx; exact ⟨p, rfl, HB.out, hx⟩
  | succ k1 =>
    have hlt : i < xs.length := by have := HI.out; omega
    have HL := Aside0.mk hlt; obtain ⟨ad, rfl, t0, t1, t2⟩ := at_T50 (Kd.C_below HC.out HB.out) i (by omega) (by omega); obtain ⟨x, hx⟩ : ∃ x, rd_T50 xs i = x := ⟨_, rfl⟩; rw [hx] at t0 t1 t2; rw [Int.toNat_natCast] at t0 t1 t2; have HXX := Aside0.mk hx; have hwi : Aside0 (wrap64 ((i : Int) + 1) = ((i + 1 : Nat) : Int)) := ⟨by have := HN.out; have := HL.out; unfold wrap64; omega⟩; have HP := Aside0.mk (fun (w : World) (hb : Below wr.heap.size wr w) => Index_Put w W.heap.size p (ofN xs i) (ofM xs i) x i (by rw [← HXX.out]; exact HF.out i HL.out) (by have := ofN_le xs i; have := HL.out; have := HN.out; omega) (Nat.le_trans HB.out.size hb.size) (HX.out.below hb)); clear hx
    go_wp2_with (go_at_call 35; refine (HP.out _ (zA (Below.refl _ wr) _)).mono ?_; rintro e w' ⟨rfl, hb, hi⟩; have B2 := Aside0.mk (HB.out.trans ((zA (Below.refl _ wr) (.cells #[.string x.f0, .string x.f1, .int .i64 x.f2] 50)).mono HB.out.size |>.trans hb)); have I2 := Aside0.mk hi; clear hb hi)
    go_roundg k1
    case measure => omega
    case rel =>
      refine ⟨i + 1, by rw [hwi.out], ⟨by have := HI.out; omega⟩, B2, ⟨?_⟩⟩; have := I2.out; rw [← HXX.out] at this; exact this
/-- Two labels are one and the same. -/
def labEq (x y : S50) : Bool := x.f0.toList == y.f0.toList && (x.f1.toList == y.f1.toList && x.f2 == y.f2)
theorem labEq_iff (x y : S50) : labEq x y = true ↔ x = y := by
  unfold labEq; simp only [Bool.and_eq_true, beq_iff_eq]; exact key_iff x y
/-- The first place of a label. -/
def fnd : List S50 → S50 → Option Nat
  | [], _ => none
  | x :: xs, y => if labEq x y then some 0 else (fnd xs y).map (· + 1)
theorem fnd_snoc : ∀ (xs : List S50) (x y : S50), fnd (xs ++ [x]) y = match fnd xs y with | some j => some j | none => if labEq x y then some xs.length else none
  | [], x, y => by
    simp only [List.nil_append, fnd, List.length_nil]
    split <;> rfl
  | z :: zs, x, y => by
    rw [List.cons_append, fnd, fnd, fnd_snoc zs x y]
    by_cases c : labEq z y = true
    · simp only [c, if_true]
    · simp only [c, if_false, Bool.false_eq_true]
      cases fnd zs y with
      | some j => rfl
      | none =>
        simp only [Option.map_none]
        split <;> rfl
theorem take_snoc (xs : List S50) (i : Nat) (h : i < xs.length) : xs.take (i + 1) = xs.take i ++ [rd_T50 xs i] := by
  rw [List.take_add_one, List.getElem?_eq_getElem h]; unfold rd_T50; rw [List.getD_eq_getElem?_getD, Int.toNat_natCast, List.getElem?_eq_getElem h]; rfl
def toI : Option Nat → Option Int
  | none => none
  | some n => some (n : Int)
/-- The index of labels, by their first places. -/
theorem ofM_fnd (xs : List S50) (y : S50) : ∀ i, i ≤ xs.length → ofM xs i y = toI (fnd (xs.take i) y) := by
  intro i
  induction i with
  | zero => intro _; simp [ofM, fnd, toI]
  | succ i ih =>
    intro hi; have h1 := ih (by omega); rw [ofM, take_snoc xs i (by omega), fnd_snoc, List.length_take, Nat.min_eq_left (by omega)]; unfold putD
    by_cases c : labEq (rd_T50 xs i) y = true
    · obtain rfl := (labEq_iff _ _).1 c
      rw [if_pos c]
      cases hf : fnd (xs.take i) (rd_T50 xs i) with
      | some j =>
        rw [hf] at h1
        have hn : ¬ (ofM xs i (rd_T50 xs i)).isNone = true := by rw [h1]; exact fun h => by cases h
        rw [if_neg hn, h1]
      | none =>
        rw [hf] at h1
        have hn : (ofM xs i (rd_T50 xs i)).isNone = true := by rw [h1]; rfl
        rw [if_pos hn, upd_same]; rfl
    · have hne : y ≠ rd_T50 xs i := fun e => c ((labEq_iff _ _).2 e.symm)
      rw [if_neg c]
      have e2 : (if (ofM xs i (rd_T50 xs i)).isNone = true then upd (ofM xs i) (rd_T50 xs i) (some (i : Int)) else ofM xs i) y = ofM xs i y := by
        split; (rw [upd_other _ _ hne]); (rfl)
      rw [e2, h1]
      cases fnd (xs.take i) y <;> rfl
/-- Whether one of the first labels stands twice. -/
def twiceN (xs : List S50) : Nat → Bool
  | 0 => false
  | i + 1 => twiceN xs i || (fnd (xs.take i) (rd_T50 xs i)).isSome
theorem ofN_twice (xs : List S50) : ∀ i, i ≤ xs.length → (ofN xs i = i ↔ twiceN xs i = false) := by
  intro i
  induction i with
  | zero => intro _; simp [ofN, twiceN]
  | succ i ih =>
    intro hi; have h1 := ih (by omega); have h2 := ofN_le xs i; rw [ofN, twiceN, ofM_fnd xs _ i (by omega)]
    cases hf : fnd (xs.take i) (rd_T50 xs i) with
    | none =>
      simp only [toI, Option.isNone_none, if_true, Option.isSome_none, Bool.or_false]; rw [← h1]; omega
    | some j =>
      simp only [toI, Option.isNone_some, Option.isSome_some, Bool.or_true]; constructor; (intro h; simp at h; omega); (intro h; cases h)
def fitB (x : S50) : Bool := decide (x.f0.size ≤ 140737488351232) && decide (x.f1.size ≤ 140737488351232)
theorem fitB_iff (x : S50) : fitB x = true ↔ Fit x := by
  unfold fitB Fit; simp
theorem rd_T50_mem (xs : List S50) (i : Nat) (h : i < xs.length) : rd_T50 xs i ∈ xs := by
  unfold rd_T50; rw [List.getD_eq_getElem?_getD, Int.toNat_natCast, List.getElem?_eq_getElem h]; exact List.getElem_mem h
theorem all_fit {xs : List S50} (h : xs.all fitB = true) : ∀ i : Nat, i < xs.length → Fit (rd_T50 xs i) := fun i hi => (fitB_iff _).1 (List.all_eq_true.1 h _ (rd_T50_mem xs i hi))
def kids_twice.f (l0 : List S50) : Option Bool := if l0.length ≤ 1000000 ∧ l0.all fitB = true then some (twiceN l0 l0.length) else none
set_option maxHeartbeats 4000000 in
set_option maxRecDepth 100000 in
theorem kids_twice.calls (A0 : Option Addr) (c0 : Nat) (l0 : List S50) (r : Bool) (w : World) (hr0 : Kd.C k50 w A0 l0.length l0) (hc0 : l0.length ≤ c0) (h : kids_twice.f l0 = some r) :
    Calls Try.prog 23 #[.slice A0 l0.length c0] w fun e w' => e = .returned (.bool r) ∧ Below w.heap.size w w' := by
  unfold kids_twice.f at h; split at h
  case isFalse => cases h
  rename_i hg
  obtain rfl := Option.some.inj h; have HO := Aside0.mk (Of w A0 c0 l0 hr0 (all_fit hg.2) (by omega)); have HT := Aside0.mk (ofN_twice l0 l0.length (Nat.le_refl _)); have HN := Aside0.mk (ofN_le l0 l0.length); have HL := Aside0.mk hg.1; clear hr0 hc0 h hg; obtain ⟨n, hn⟩ : ∃ n, l0.length = n := ⟨_, rfl⟩; obtain ⟨m, hm⟩ : ∃ m, ofN l0 l0.length = m := ⟨_, rfl⟩; obtain ⟨b, hb⟩ : ∃ b, twiceN l0 l0.length = b := ⟨_, rfl⟩; rw [hm] at HO HT HN; rw [hb] at HT; rw [hb]
  have HB := Aside0.mk (show decide (m < l0.length) = b from by
    have h1 := HT.out; have h2 := HN.out
    cases b with
    | false => have := h1.2 rfl; simp; omega
    | true =>
      have : ¬ m = l0.length := fun e => by have := h1.1 e; cases this
      simp; omega)
  clear hm hb hn HT HN HL
  go_enter Try.func23, Try.ntmps23
  go_wp2_with (first | (go_at_call 29; refine (HO.out).mono ?_; rintro e w1 ⟨p, rfl, hb, hi⟩; have B1 := Aside0.mk hb; have I1 := Aside0.mk hi; clear hb hi) | (go_at_call 30; refine (Index_Len _ _ _ _ _ I1.out).mono ?_; rintro e w2 ⟨rfl, rfl⟩))
  go_ret; exact ⟨by rw [← HB.out]; rfl, B1.out⟩
end Go.Proofs.Ytpekchebllobmaa.G
