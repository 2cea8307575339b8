/- What the claim LawMovesLeast rests on, part 1 of 4: the kit's words, the printed walks, the walks by hand, the plain laws. -/
import Derived.Test.YtconhodokldcbaaB0
import Derived.Deep.DrawnRows
import Derived.Deep.AppendLies
import Derived.StillTailTactics
import Derived.IntWalk
import Derived.Shelf.Slices.Delete
namespace Go.Proofs.Ytconhodokldcbaa.G
open Go.RowKit Go.Proofs.YtconhodokldcbaaW.PrintWords Go.Proofs.YtconhodokldcbaaW.PrintLast Go.Proofs.YtconhodokldcbaaW.PrintMore
attribute [local go_sem] max2_int min2_int max_two min_two max_three min_three max_four min_four
set_option linter.unusedVariables false
set_option linter.unusedSimpArgs false
mutual
def r08_Start.l0 : Nat → List Int → List Int → Int → Int → Option (List Int)
 | 0, _, _, _, _ => none
 | k + 1, x0, x3, x7, x8 => if x8 < x7 then (r08_Start.l1 k x0 x3 x8 0 x7 x8) else (some x3)
def r08_Start.l1 : Nat → List Int → List Int → Int → Int → Int → Int → Option (List Int)
 | 0, _, _, _, _, _, _ => none
 | k + 1, x0, x3, x4, x5, x7, x8 => if x5 < (x3.length : Int) then (if 0 ≤ x4 then (if x4 < (x0.length : Int) then (if (rd x0 x4) ≥ 0 then (if 0 ≤ x5 then (if 0 ≤ (rd x3 x5) then (if (rd x3 x5) < (x0.length : Int) then (if (rd x0 (rd x3 x5)) < (rd x0 x4) then (r08_Start.l1 k x0 x3 x4 (wrap64 (x5 + 1)) x7 x8) else ((r08_put.f x3 x5 x4).bind fun t236 => (r08_Start.l0 k x0 t236 x7 (wrap64 (x8 + 1))))) else (none)) else (none)) else (none)) else (r08_Start.l0 k x0 x3 x7 (wrap64 (x8 + 1)))) else (none)) else (none)) else (if 0 ≤ x4 then (if x4 < (x0.length : Int) then (if (rd x0 x4) ≥ 0 then ((r08_put.f x3 x5 x4).bind fun t241 => (r08_Start.l0 k x0 t241 x7 (wrap64 (x8 + 1)))) else (r08_Start.l0 k x0 x3 x7 (wrap64 (x8 + 1)))) else (none)) else (none))
end
def r08_Start.f (k : Nat) (l0 : List Int) : Option (List Int) := r08_Start.l0 k l0 ([] : List Int) (l0.length : Int) 0
set_option maxHeartbeats 8000000 in
set_option maxRecDepth 100000 in
theorem r08_Start.calls (k : Nat) (A0 : Option Addr) (c0 : Nat) (l0 : List Int) (r : List Int) (w : World) (hr0 : Kd.C (Kd.int .i64) w A0 l0.length l0) (hc0 : l0.length ≤ c0) (h : r08_Start.f k l0 = some r) :
  Calls Try.prog 25 #[.slice A0 l0.length c0] w fun e w' => ∃ v0_ : Value, e = .returned (v0_) ∧ Kd.R (Kd.int .i64) 3 w' w.heap.size (fun _ => True) v0_ r ∧ Below w.heap.size w w' := by
 have HR0 := zk hr0
 have HC0 := zk hc0
 clear hr0 hc0
 have HB := zk (Below.refl w.heap.size w)
 have H : (r08_Start.l0 k l0 ([] : List Int) (l0.length : Int) 0) = some r := h
 clear h
 have H' := zk H
 clear H
 go_enter Try.func25, Try.ntmps25
 go_wp2
 repeat (go_quiet (fail); try go_wp2)
 go_loopg [3, 8] k (fun kq v3 v8 w' => ∃ (x3_1 : List Int) (x8_1 : Int), v8 = .int .i64 x8_1 ∧ Aside0 (r08_Start.l0 kq l0 x3_1 (l0.length : Int) x8_1 = some r) ∧ Aside0 (kq ≤ k) ∧ Aside0 (Kd.R (Kd.int .i64) 3 w' w.heap.size (fun _ => True) v3 x3_1) ∧ Aside0 (Below w.heap.size w w'))
 case atStart => exact ⟨(([] : List Int)), (0), (by first | rfl | (simp; done) | (simp [*]; done)), H', ⟨Nat.le_refl _⟩, ⟨by first | exact Kd.R_nil _ _ _ _ _ | exact Kd.N_nil _ _ _ _ _ | exact Kd.V_nil _ _ _ _ _ | exact Kd.Q_nil _ _ _ _ _ | exact Kd.S_nil _ _ _ _ _⟩, ⟨by with_reducible repeat first | exact HB.out | apply zA | apply zN | apply zD⟩⟩
 case round =>
  clear H'; obtain ⟨x3_1, x8_1, rfl, HA, HK1, HO_3, HB⟩ := hrel
  cases gk with
  | zero => exact absurd HA.out (by simp [r08_Start.l0])
  | succ k1 =>
   have H := HA.out; clear HA; simp only [r08_Start.l0] at H
   by_cases c2 : x8_1 < (l0.length : Int)
   ·
    rw [if_pos c2] at H; have c2b0 := decide_eq_true c2; clear c2; have H' := zk H; clear H; go_wp2
    repeat (go_quiet (fail); try go_wp2)
    go_loopg [5] k1 (fun kq v5 w' => ∃ (x5_2 : Int), v5 = .int .i64 x5_2 ∧ Aside0 (r08_Start.l1 kq l0 x3_1 x8_1 x5_2 (l0.length : Int) x8_1 = some r) ∧ Aside0 (kq ≤ k1) ∧ Aside0 (Kd.R (Kd.int .i64) 3 w' w.heap.size (fun _ => True) u3 x3_1) ∧ Aside0 (Below w.heap.size w w'))
    case atStart => exact ⟨(0), (by first | rfl | (simp; done) | (simp [*]; done)), H', ⟨Nat.le_refl _⟩, ⟨by (with_reducible repeat (first | apply Kd.R_alloc | apply Kd.R_drewN | apply Kd.R_drew)); exact HO_3.out⟩, ⟨by with_reducible repeat first | exact HB.out | apply zA | apply zN | apply zD⟩⟩
    case round =>
     clear H'; (try clear c2); (try clear c2b0); (try clear p2); obtain ⟨x5_2, rfl, HA, HK2, HO_3, HB⟩ := hrel
     cases gk with
     | zero => exact absurd HA.out (by simp [r08_Start.l1])
     | succ k2 =>
      have H := HA.out; clear HA; simp only [r08_Start.l1] at H
      by_cases c3 : x5_2 < (x3_1.length : Int)
      ·
       rw [if_pos c3] at H; have c3b0 : decide (x5_2 < (x3_1.length : Int)) = true := decide_eq_true c3; clear c3
       by_cases c4 : 0 ≤ x8_1
       ·
        rw [if_pos c4] at H; have c4b0 := decide_eq_true c4; clear c4
        by_cases c5 : x8_1 < (l0.length : Int)
        ·
         rw [if_pos c5] at H; have c5b0 := decide_eq_true c5; clear c5
         by_cases c6 : (rd l0 x8_1) ≥ 0
         ·
          rw [if_pos c6] at H; have c6b0 : decide (0 ≤ (rd l0 x8_1)) = true := decide_eq_true c6; clear c6
          by_cases c7 : 0 ≤ x5_2
          ·
           rw [if_pos c7] at H; have c7b0 := decide_eq_true c7; clear c7
           by_cases c8 : 0 ≤ (rd x3_1 x5_2)
           ·
            rw [if_pos c8] at H; have c8b0 : decide (0 ≤ (rd x3_1 x5_2)) = true := decide_eq_true c8; clear c8
            by_cases c9 : (rd x3_1 x5_2) < (l0.length : Int)
            ·
             rw [if_pos c9] at H; have c9b0 := decide_eq_true c9; clear c9
             by_cases c10 : (rd l0 (rd x3_1 x5_2)) < (rd l0 x8_1)
             ·
              rw [if_pos c10] at H; have c10b0 := decide_eq_true c10; clear c10; have H' := zk H; clear H; obtain ⟨Ao11, co11, eo11⟩ := Kd.R_slice HO_3.out; subst eo11; have p231 : 0 ≤ (x8_1 : Int) := zo (by assumption); have q231 : x8_1 < (l0.length : Int) := zo (by assumption); obtain ⟨ad231, e231, hx231_0⟩ := Kd.at_int HR0.out x8_1 p231 q231; cases e231; replace hx231_0 := zB HB hx231_0; replace p231 := eq_true p231; replace q231 := eq_true q231; have p232 : 0 ≤ (x5_2 : Int) := zo (by assumption); have q232 : x5_2 < (x3_1.length : Int) := zo (by assumption); obtain ⟨ad232, e232, hx232_0⟩ := Kd.at_int (Kd.R_reads' HO_3.out).2.2 x5_2 p232 q232; cases e232; replace p232 := eq_true p232; replace q232 := eq_true q232; have p233 : 0 ≤ ((rd x3_1 x5_2) : Int) := zo (by assumption); have q233 : (rd x3_1 x5_2) < (l0.length : Int) := zo (by assumption); obtain ⟨ad233, e233, hx233_0⟩ := Kd.at_int HR0.out (rd x3_1 x5_2) p233 q233; obtain rfl : ad231 = ad233 := (by injection e233); replace hx233_0 := zB HB hx233_0; replace p233 := eq_true p233; replace q233 := eq_true q233; have p234 : 0 ≤ (x8_1 : Int) := zo (by assumption); have q234 : x8_1 < (l0.length : Int) := zo (by assumption); obtain ⟨ad234, e234, hx234_0⟩ := Kd.at_int HR0.out x8_1 p234 q234; obtain rfl : ad231 = ad234 := (by injection e234); replace hx234_0 := zB HB hx234_0; replace p234 := eq_true p234; replace q234 := eq_true q234; go_wp2
              repeat (go_quiet (fail); try go_wp2)
              go_roundg k2
              case measure => have := HK1.out; have := HK2.out; omega
              case rel => exact ⟨(wrap64 (x5_2 + 1)), (by first | rfl | (simp; done) | (simp [*]; done)), H', ⟨by have := HK1.out; have := HK2.out; omega⟩, ⟨by (with_reducible repeat (first | apply Kd.R_alloc | apply Kd.R_drewN | apply Kd.R_drew)); exact HO_3.out⟩, ⟨by with_reducible repeat first | exact HB.out | apply zA | apply zN | apply zD⟩⟩
             ·
              rw [if_neg c10] at H; have c10b0 := decide_eq_false c10; clear c10; replace H := Option.bind_eq_some_iff.mp H; obtain ⟨t236, A120, H⟩ := H; replace H : (r08_Start.l0 k2 l0 t236 (l0.length : Int) (wrap64 (x8_1 + 1))) = some r := H; have A12 := zk A120; clear A120; have H' := zk H; clear H; obtain ⟨Ao13, co13, eo13⟩ := Kd.R_slice HO_3.out; subst eo13; have p231 : 0 ≤ (x8_1 : Int) := zo (by assumption); have q231 : x8_1 < (l0.length : Int) := zo (by assumption); obtain ⟨ad231, e231, hx231_0⟩ := Kd.at_int HR0.out x8_1 p231 q231; cases e231; replace hx231_0 := zB HB hx231_0; replace p231 := eq_true p231; replace q231 := eq_true q231; have p232 : 0 ≤ (x5_2 : Int) := zo (by assumption); have q232 : x5_2 < (x3_1.length : Int) := zo (by assumption); obtain ⟨ad232, e232, hx232_0⟩ := Kd.at_int (Kd.R_reads' HO_3.out).2.2 x5_2 p232 q232; cases e232; replace p232 := eq_true p232; replace q232 := eq_true q232; have p233 : 0 ≤ ((rd x3_1 x5_2) : Int) := zo (by assumption); have q233 : (rd x3_1 x5_2) < (l0.length : Int) := zo (by assumption); obtain ⟨ad233, e233, hx233_0⟩ := Kd.at_int HR0.out (rd x3_1 x5_2) p233 q233; obtain rfl : ad231 = ad233 := (by injection e233); replace hx233_0 := zB HB hx233_0; replace p233 := eq_true p233; replace q233 := eq_true q233; have p234 : 0 ≤ (x8_1 : Int) := zo (by assumption); have q234 : x8_1 < (l0.length : Int) := zo (by assumption); obtain ⟨ad234, e234, hx234_0⟩ := Kd.at_int HR0.out x8_1 p234 q234; obtain rfl : ad231 = ad234 := (by injection e234); replace hx234_0 := zB HB hx234_0; replace p234 := eq_true p234; replace q234 := eq_true q234; have p235 : 0 ≤ (x8_1 : Int) := zo (by assumption); have q235 : x8_1 < (l0.length : Int) := zo (by assumption); obtain ⟨ad235, e235, hx235_0⟩ := Kd.at_int HR0.out x8_1 p235 q235; obtain rfl : ad231 = ad235 := (by injection e235); replace hx235_0 := zB HB hx235_0; replace p235 := eq_true p235; replace q235 := eq_true q235
              go_wp2_with (first | (go_at_call 36; (with_reducible refine (r08_put.calls _ _ x3_1 x5_2 x8_1 t236 _ ?side1 ?side2 A12.out).mono ?_); (case side1 => repeat (first | exact (Kd.R_reads' HO_3.out).2.2 | (with_reducible refine Kd.C_alloc ?_ _) | (with_reducible refine Kd.C_drewN ?_ _) | (with_reducible refine Kd.C_drew ?_))); (case side2 => exact (Kd.R_reads' HO_3.out).2.1); rintro e w14 ⟨v237, rfl, ho0, hb⟩; have n0_ := zk (Kd.R_elder' (by (with_reducible repeat (first | apply Kd.R_alloc | apply Kd.R_drewN | apply Kd.R_drew)); exact HO_3.out) (Kd.R_base ho0) hb); have n1_ := zk (Kd.R_lower (Kd.R_new' ho0 (Kd.R_lt (by (with_reducible repeat (first | apply Kd.R_alloc | apply Kd.R_drewN | apply Kd.R_drew)); exact HO_3.out))) (zq (by with_reducible repeat first | exact HB.out | apply zA | apply zN | apply zD))); have n2_ := zk (zs (by with_reducible repeat first | exact HB.out | apply zA | apply zN | apply zD) hb); clear HO_3; clear HB; have HO_3 := n0_; have HO238 := n1_; have HB := n2_; clear n0_ n1_ n2_; (try clear hb); (try clear hb2); (try clear hk); (try clear hi); (try clear ho0)))
              repeat (go_quiet (first | (go_at_call 36; (with_reducible refine (r08_put.calls _ _ x3_1 x5_2 x8_1 t236 _ ?side1 ?side2 A12.out).mono ?_); (case side1 => repeat (first | exact (Kd.R_reads' HO_3.out).2.2 | (with_reducible refine Kd.C_alloc ?_ _) | (with_reducible refine Kd.C_drewN ?_ _) | (with_reducible refine Kd.C_drew ?_))); (case side2 => exact (Kd.R_reads' HO_3.out).2.1); rintro e w14 ⟨v237, rfl, ho0, hb⟩; have n0_ := zk (Kd.R_elder' (by (with_reducible repeat (first | apply Kd.R_alloc | apply Kd.R_drewN | apply Kd.R_drew)); exact HO_3.out) (Kd.R_base ho0) hb); have n1_ := zk (Kd.R_lower (Kd.R_new' ho0 (Kd.R_lt (by (with_reducible repeat (first | apply Kd.R_alloc | apply Kd.R_drewN | apply Kd.R_drew)); exact HO_3.out))) (zq (by with_reducible repeat first | exact HB.out | apply zA | apply zN | apply zD))); have n2_ := zk (zs (by with_reducible repeat first | exact HB.out | apply zA | apply zN | apply zD) hb); clear HO_3; clear HB; have HO_3 := n0_; have HO238 := n1_; have HB := n2_; clear n0_ n1_ n2_; (try clear hb); (try clear hb2); (try clear hk); (try clear hi); (try clear ho0))); try go_wp2_with (first | (go_at_call 36; (with_reducible refine (r08_put.calls _ _ x3_1 x5_2 x8_1 t236 _ ?side1 ?side2 A12.out).mono ?_); (case side1 => repeat (first | exact (Kd.R_reads' HO_3.out).2.2 | (with_reducible refine Kd.C_alloc ?_ _) | (with_reducible refine Kd.C_drewN ?_ _) | (with_reducible refine Kd.C_drew ?_))); (case side2 => exact (Kd.R_reads' HO_3.out).2.1); rintro e w14 ⟨v237, rfl, ho0, hb⟩; have n0_ := zk (Kd.R_elder' (by (with_reducible repeat (first | apply Kd.R_alloc | apply Kd.R_drewN | apply Kd.R_drew)); exact HO_3.out) (Kd.R_base ho0) hb); have n1_ := zk (Kd.R_lower (Kd.R_new' ho0 (Kd.R_lt (by (with_reducible repeat (first | apply Kd.R_alloc | apply Kd.R_drewN | apply Kd.R_drew)); exact HO_3.out))) (zq (by with_reducible repeat first | exact HB.out | apply zA | apply zN | apply zD))); have n2_ := zk (zs (by with_reducible repeat first | exact HB.out | apply zA | apply zN | apply zD) hb); clear HO_3; clear HB; have HO_3 := n0_; have HO238 := n1_; have HB := n2_; clear n0_ n1_ n2_; (try clear hb); (try clear hb2); (try clear hk); (try clear hi); (try clear ho0))))
              go_roundg k2
              case measure => have := HK1.out; have := HK2.out; omega
              case rel => exact ⟨(t236), (wrap64 (x8_1 + 1)), (by first | rfl | (simp; done) | (simp [*]; done)), H', ⟨by have := HK1.out; have := HK2.out; omega⟩, ⟨by (with_reducible repeat (first | apply Kd.R_alloc | apply Kd.R_drewN | apply Kd.R_drew)); exact Kd.R_mono HO238.out (fun _ hk => trivial)⟩, ⟨by with_reducible repeat first | exact HB.out | apply zA | apply zN | apply zD⟩⟩
            ·
             rw [if_neg c9] at H; exact absurd H (by simp)
           ·
            rw [if_neg c8] at H; exact absurd H (by simp)
          ·
           rw [if_neg c7] at H; exact absurd H (by simp)
         ·
          rw [if_neg c6] at H; have c6b0 : decide (0 ≤ (rd l0 x8_1)) = false := decide_eq_false c6; clear c6; have H' := zk H; clear H; obtain ⟨Ao15, co15, eo15⟩ := Kd.R_slice HO_3.out; subst eo15; have p231 : 0 ≤ (x8_1 : Int) := zo (by assumption); have q231 : x8_1 < (l0.length : Int) := zo (by assumption); obtain ⟨ad231, e231, hx231_0⟩ := Kd.at_int HR0.out x8_1 p231 q231; cases e231; replace hx231_0 := zB HB hx231_0; replace p231 := eq_true p231; replace q231 := eq_true q231; have p239 : 0 ≤ (x8_1 : Int) := zo (by assumption); have q239 : x8_1 < (l0.length : Int) := zo (by assumption); obtain ⟨ad239, e239, hx239_0⟩ := Kd.at_int HR0.out x8_1 p239 q239; obtain rfl : ad231 = ad239 := (by injection e239); replace hx239_0 := zB HB hx239_0; replace p239 := eq_true p239; replace q239 := eq_true q239; go_wp2
          repeat (go_quiet (fail); try go_wp2)
          go_roundg k2
          case measure => have := HK1.out; have := HK2.out; omega
          case rel => exact ⟨(x3_1), (wrap64 (x8_1 + 1)), (by first | rfl | (simp; done) | (simp [*]; done)), H', ⟨by have := HK1.out; have := HK2.out; omega⟩, ⟨by (with_reducible repeat (first | apply Kd.R_alloc | apply Kd.R_drewN | apply Kd.R_drew)); exact HO_3.out⟩, ⟨by with_reducible repeat first | exact HB.out | apply zA | apply zN | apply zD⟩⟩
        ·
         rw [if_neg c5] at H; exact absurd H (by simp)
       ·
        rw [if_neg c4] at H; exact absurd H (by simp)
      ·
       rw [if_neg c3] at H; have c3b0 : decide (x5_2 < (x3_1.length : Int)) = false := decide_eq_false c3; clear c3
       by_cases c16 : 0 ≤ x8_1
       ·
        rw [if_pos c16] at H; have c16b0 := decide_eq_true c16; clear c16
        by_cases c17 : x8_1 < (l0.length : Int)
        ·
         rw [if_pos c17] at H; have c17b0 : decide (x8_1 < (l0.length : Int)) = true := decide_eq_true c17; clear c17
         by_cases c18 : (rd l0 x8_1) ≥ 0
         ·
          rw [if_pos c18] at H; have c18b0 : decide (0 ≤ (rd l0 x8_1)) = true := decide_eq_true c18; clear c18; replace H := Option.bind_eq_some_iff.mp H; obtain ⟨t241, A190, H⟩ := H; replace H : (r08_Start.l0 k2 l0 t241 (l0.length : Int) (wrap64 (x8_1 + 1))) = some r := H; have A19 := zk A190; clear A190; have H' := zk H; clear H; obtain ⟨Ao20, co20, eo20⟩ := Kd.R_slice HO_3.out; subst eo20; have p240 : 0 ≤ (x8_1 : Int) := zo (by assumption); have q240 : x8_1 < (l0.length : Int) := zo (by assumption); obtain ⟨ad240, e240, hx240_0⟩ := Kd.at_int HR0.out x8_1 p240 q240; cases e240; replace hx240_0 := zB HB hx240_0; replace p240 := eq_true p240; replace q240 := eq_true q240
          go_wp2_with (first | (go_at_call 36; (with_reducible refine (r08_put.calls _ _ x3_1 x5_2 x8_1 t241 _ ?side1 ?side2 A19.out).mono ?_); (case side1 => repeat (first | exact (Kd.R_reads' HO_3.out).2.2 | (with_reducible refine Kd.C_alloc ?_ _) | (with_reducible refine Kd.C_drewN ?_ _) | (with_reducible refine Kd.C_drew ?_))); (case side2 => exact (Kd.R_reads' HO_3.out).2.1); rintro e w21 ⟨v242, rfl, ho0, hb⟩; have n0_ := zk (Kd.R_elder' (by (with_reducible repeat (first | apply Kd.R_alloc | apply Kd.R_drewN | apply Kd.R_drew)); exact HO_3.out) (Kd.R_base ho0) hb); have n1_ := zk (Kd.R_lower (Kd.R_new' ho0 (Kd.R_lt (by (with_reducible repeat (first | apply Kd.R_alloc | apply Kd.R_drewN | apply Kd.R_drew)); exact HO_3.out))) (zq (by with_reducible repeat first | exact HB.out | apply zA | apply zN | apply zD))); have n2_ := zk (zs (by with_reducible repeat first | exact HB.out | apply zA | apply zN | apply zD) hb); clear HO_3; clear HB; have HO_3 := n0_; have HO243 := n1_; have HB := n2_; clear n0_ n1_ n2_; (try clear hb); (try clear hb2); (try clear hk); (try clear hi); (try clear ho0)))
          repeat (go_quiet (first | (go_at_call 36; (with_reducible refine (r08_put.calls _ _ x3_1 x5_2 x8_1 t241 _ ?side1 ?side2 A19.out).mono ?_); (case side1 => repeat (first | exact (Kd.R_reads' HO_3.out).2.2 | (with_reducible refine Kd.C_alloc ?_ _) | (with_reducible refine Kd.C_drewN ?_ _) | (with_reducible refine Kd.C_drew ?_))); (case side2 => exact (Kd.R_reads' HO_3.out).2.1); rintro e w21 ⟨v242, rfl, ho0, hb⟩; have n0_ := zk (Kd.R_elder' (by (with_reducible repeat (first | apply Kd.R_alloc | apply Kd.R_drewN | apply Kd.R_drew)); exact HO_3.out) (Kd.R_base ho0) hb); have n1_ := zk (Kd.R_lower (Kd.R_new' ho0 (Kd.R_lt (by (with_reducible repeat (first | apply Kd.R_alloc | apply Kd.R_drewN | apply Kd.R_drew)); exact HO_3.out))) (zq (by with_reducible repeat first | exact HB.out | apply zA | apply zN | apply zD))); have n2_ := zk (zs (by with_reducible repeat first | exact HB.out | apply zA | apply zN | apply zD) hb); clear HO_3; clear HB; have HO_3 := n0_; have HO243 := n1_; have HB := n2_; clear n0_ n1_ n2_; (try clear hb); (try clear hb2); (try clear hk); (try clear hi); (try clear ho0))); try go_wp2_with (first | (go_at_call 36; (with_reducible refine (r08_put.calls _ _ x3_1 x5_2 x8_1 t241 _ ?side1 ?side2 A19.out).mono ?_); (case side1 => repeat (first | exact (Kd.R_reads' HO_3.out).2.2 | (with_reducible refine Kd.C_alloc ?_ _) | (with_reducible refine Kd.C_drewN ?_ _) | (with_reducible refine Kd.C_drew ?_))); (case side2 => exact (Kd.R_reads' HO_3.out).2.1); rintro e w21 ⟨v242, rfl, ho0, hb⟩; have n0_ := zk (Kd.R_elder' (by (with_reducible repeat (first | apply Kd.R_alloc | apply Kd.R_drewN | apply Kd.R_drew)); exact HO_3.out) (Kd.R_base ho0) hb); have n1_ := zk (Kd.R_lower (Kd.R_new' ho0 (Kd.R_lt (by (with_reducible repeat (first | apply Kd.R_alloc | apply Kd.R_drewN | apply Kd.R_drew)); exact HO_3.out))) (zq (by with_reducible repeat first | exact HB.out | apply zA | apply zN | apply zD))); have n2_ := zk (zs (by with_reducible repeat first | exact HB.out | apply zA | apply zN | apply zD) hb); clear HO_3; clear HB; have HO_3 := n0_; have HO243 := n1_; have HB := n2_; clear n0_ n1_ n2_; (try clear hb); (try clear hb2); (try clear hk); (try clear hi); (try clear ho0))))
          go_roundg k2
          case measure => have := HK1.out; have := HK2.out; omega
          case rel => exact ⟨(t241), (wrap64 (x8_1 + 1)), (by first | rfl | (simp; done) | (simp [*]; done)), H', ⟨by have := HK1.out; have := HK2.out; omega⟩, ⟨by (with_reducible repeat (first | apply Kd.R_alloc | apply Kd.R_drewN | apply Kd.R_drew)); exact Kd.R_mono HO243.out (fun _ hk => trivial)⟩, ⟨by with_reducible repeat first | exact HB.out | apply zA | apply zN | apply zD⟩⟩
         ·
          rw [if_neg c18] at H; have c18b0 : decide (0 ≤ (rd l0 x8_1)) = false := decide_eq_false c18; clear c18; have H' := zk H; clear H; obtain ⟨Ao22, co22, eo22⟩ := Kd.R_slice HO_3.out; subst eo22; have p240 : 0 ≤ (x8_1 : Int) := zo (by assumption); have q240 : x8_1 < (l0.length : Int) := zo (by assumption); obtain ⟨ad240, e240, hx240_0⟩ := Kd.at_int HR0.out x8_1 p240 q240; cases e240; replace hx240_0 := zB HB hx240_0; replace p240 := eq_true p240; replace q240 := eq_true q240; go_wp2
          repeat (go_quiet (fail); try go_wp2)
          go_roundg k2
          case measure => have := HK1.out; have := HK2.out; omega
          case rel => exact ⟨(x3_1), (wrap64 (x8_1 + 1)), (by first | rfl | (simp; done) | (simp [*]; done)), H', ⟨by have := HK1.out; have := HK2.out; omega⟩, ⟨by (with_reducible repeat (first | apply Kd.R_alloc | apply Kd.R_drewN | apply Kd.R_drew)); exact HO_3.out⟩, ⟨by with_reducible repeat first | exact HB.out | apply zA | apply zN | apply zD⟩⟩
        ·
         rw [if_neg c17] at H; exact absurd H (by simp)
       ·
        rw [if_neg c16] at H; exact absurd H (by simp)
   ·
    rw [if_neg c2] at H; have c2b0 := decide_eq_false c2; clear c2; obtain rfl := Option.some.inj H; go_wp2
    repeat (go_quiet (fail); try go_wp2)
    go_ret; exact ⟨_, by first | rfl | (simp [wN, wS] <;> rfl) | (simp [*, wN, wS] <;> rfl), by (with_reducible repeat (first | apply Kd.R_alloc | apply Kd.R_drewN | apply Kd.R_drew)); exact HO_3.out, by with_reducible repeat first | exact HB.out | apply zA | apply zN | apply zD⟩
def r08_find.l0 : Nat → List Int → Int → Int → Int → Option (Int)
  | 0, _, _, _, _ => none
  | k + 1, x0, x1, x7, x8 => if x8 < x7 then (if 0 ≤ x8 then (if x8 < (x0.length : Int) then (if (rd x0 x8) = x1 then (some x8) else (r08_find.l0 k x0 x1 x7 (wrap64 (x8 + 1)))) else (none)) else (none)) else (some (-1))
def r08_find.f (k : Nat) (l0 : List Int) (a1 : Int) : Option (Int) := r08_find.l0 k l0 a1 (l0.length : Int) 0
set_option maxHeartbeats 8000000 in
set_option maxRecDepth 100000 in
theorem r08_find.calls (k : Nat) (A0 : Option Addr) (c0 : Nat) (l0 : List Int) (a1 : Int) (r : Int) (w : World) (hr0 : Kd.C (Kd.int .i64) w A0 l0.length l0) (hc0 : l0.length ≤ c0) (h : r08_find.f k l0 a1 = some r) :
    Calls Try.prog 37 #[.slice A0 l0.length c0, .int .i64 a1] w fun e w' => e = .returned (.int .i64 r) ∧ Drawn0 w w' := by
  have HR0 := zk hr0; have HC0 := zk hc0; clear hr0 hc0; have H : (r08_find.l0 k l0 a1 (l0.length : Int) 0) = some r := h; clear h; have H' := zk H; clear H
  go_enter Try.func37, Try.ntmps37
  go_wp2
  go_loopg [8] k (fun kq v8 w' => ∃ (x8_1 : Int), v8 = .int .i64 x8_1 ∧ Aside0 (r08_find.l0 kq l0 a1 (l0.length : Int) x8_1 = some r) ∧ Aside0 (kq ≤ k) ∧ Drawn0 w w')
  case atStart => exact ⟨(0), (by first | rfl | (simp; done) | (simp [*]; done)), H', ⟨Nat.le_refl _⟩, by repeat (first | exact Drawn0.refl _ | apply Drawn0.step)⟩
  case round =>
    clear H'; (try clear p2); obtain ⟨x8_1, rfl, HA, HK1, ⟨m1, rfl⟩⟩ := hrel
    cases gk with
    | zero => exact absurd HA.out (by simp [r08_find.l0])
    | succ k1 =>
      have H := HA.out; clear HA; simp only [r08_find.l0] at H
      by_cases c3 : x8_1 < (l0.length : Int)
      · rw [if_pos c3] at H
        have c3b0 : decide (x8_1 < (l0.length : Int)) = true := decide_eq_true c3
        clear c3
        by_cases c4 : 0 ≤ x8_1
        · rw [if_pos c4] at H
          have c4b0 := decide_eq_true c4
          clear c4
          by_cases c5 : x8_1 < (l0.length : Int)
          · rw [if_pos c5] at H
            have c5b0 := decide_eq_true c5
            clear c5
            by_cases c6 : (rd l0 x8_1) = a1
            · rw [if_pos c6] at H
              have c6b0 : ((rd l0 x8_1) == a1) = true := beq_iff_eq.mpr c6
              have c6b1 : ((rd l0 x8_1) != a1) = false := bne_eq_false_iff_eq.mpr c6
              clear c6
              obtain rfl := Option.some.inj H
              have p244 : 0 ≤ (x8_1 : Int) := zo (by assumption)
              have q244 : x8_1 < (l0.length : Int) := zo (by assumption)
              obtain ⟨ad244, e244, hx244_0⟩ := Kd.at_int HR0.out x8_1 p244 q244
              cases e244
              replace p244 := eq_true p244
              replace q244 := eq_true q244
              go_wp2
              go_ret
              exact ⟨by first | rfl | (simp; done) | (simp [*]; done), by repeat (first | exact Drawn0.refl _ | apply Drawn0.step)⟩
            · rw [if_neg c6] at H
              have c6b0 : ((rd l0 x8_1) == a1) = false := beq_eq_false_iff_ne.mpr c6
              have c6b1 : ((rd l0 x8_1) != a1) = true := bne_iff_ne.mpr c6
              have H' := zk H
              clear H
              have p244 : 0 ≤ (x8_1 : Int) := zo (by assumption)
              have q244 : x8_1 < (l0.length : Int) := zo (by assumption)
              obtain ⟨ad244, e244, hx244_0⟩ := Kd.at_int HR0.out x8_1 p244 q244
              cases e244
              replace p244 := eq_true p244
              replace q244 := eq_true q244
              go_wp2
              go_roundg k1
              case measure => have := HK1.out; omega
              case rel => exact ⟨(wrap64 (x8_1 + 1)), (by first | rfl | (simp; done) | (simp [*]; done)), H', ⟨by have := HK1.out; omega⟩, by repeat (first | exact Drawn0.refl _ | apply Drawn0.step)⟩
          · rw [if_neg c5] at H
            exact absurd H (by simp)
        · rw [if_neg c4] at H
          exact absurd H (by simp)
      · rw [if_neg c3] at H
        have c3b0 : decide (x8_1 < (l0.length : Int)) = false := decide_eq_false c3; clear c3; obtain rfl := Option.some.inj H; go_wp2; go_ret; exact ⟨by first | rfl | (simp; done) | (simp [*]; done), by repeat (first | exact Drawn0.refl _ | apply Drawn0.step)⟩
mutual
def r08_One.j0 : Nat → List Int → Bool → Int → Int → Option (List Int × Bool)
 | 0, _, _, _, _ => none
 | k + 1, x0, x26, x246000, x246001 => if x26 = true then (some (([] : List Int), false)) else (r08_One.l0 k x0 ([] : List Int) (x0.length : Int) 0 x246000 x246001)
def r08_One.l0 : Nat → List Int → List Int → Int → Int → Int → Int → Option (List Int × Bool)
 | 0, _, _, _, _, _, _ => none
 | k + 1, x0, x8, x28, x29, x246000, x246001 => if x29 < x28 then (if 0 ≤ x29 then (if x29 < (x0.length : Int) then (if (rd x0 x29) = x246000 then (r08_One.l0 k x0 x8 x28 (wrap64 (x29 + 1)) x246000 x246001) else (if x8.length < 17592186044416 then (r08_One.l0 k x0 (x8 ++ [rd x0 x29]) x28 (wrap64 (x29 + 1)) x246000 x246001) else (none))) else (none)) else (none)) else (if x246001 = (-1) then (if (x8.length : Int) < 0 then (some (([] : List Int), false)) else ((r08_put.f x8 (x8.length : Int) x246000).bind fun t251 => (some (t251, true)))) else ((r08_find.f k x8 x246001).bind fun t254 => (if t254 < 0 then (some (([] : List Int), false)) else ((r08_put.f x8 t254 x246000).bind fun t255 => (some (t255, true))))))
end
def r08_One.f (k : Nat) (l0 : List Int) (a1_0 : Int) (a1_1 : Int) (a2 : Int) : Option (List Int × Bool) := if a1_0 < 0 then (r08_One.j0 k l0 true a1_0 a1_1) else (if a1_0 ≥ a2 then (r08_One.j0 k l0 true a1_0 a1_1) else (r08_One.j0 k l0 (a1_1 == a1_0) a1_0 a1_1))
set_option maxHeartbeats 8000000 in
set_option maxRecDepth 100000 in
theorem r08_One.calls (k : Nat) (A0 : Option Addr) (c0 : Nat) (l0 : List Int) (a1_0 : Int) (a1_1 : Int) (a2 : Int) (r1 : List Int) (r2 : Bool) (w : World) (hr0 : Kd.C (Kd.int .i64) w A0 l0.length l0) (hc0 : l0.length ≤ c0) (h : r08_One.f k l0 a1_0 a1_1 a2 = some (r1, r2)) :
  Calls Try.prog 26 #[.slice A0 l0.length c0, .agg #[.int .i64 a1_0, .int .i64 a1_1], .int .i64 a2] w fun e w' => ∃ v0_ : Value, e = .returned (.tuple #[v0_, .bool r2]) ∧ Kd.R (Kd.int .i64) 3 w' w.heap.size (fun _ => True) v0_ r1 ∧ Below w.heap.size w w' := by
 have hu37 := Try.underlying37
 have HR0 := zk hr0
 have HC0 := zk hc0
 clear hr0 hc0
 have HB := zk (Below.refl w.heap.size w)
 have H : (if a1_0 < 0 then (r08_One.j0 k l0 true a1_0 a1_1) else (if a1_0 ≥ a2 then (r08_One.j0 k l0 true a1_0 a1_1) else (r08_One.j0 k l0 (a1_1 == a1_0) a1_0 a1_1))) = some (r1, r2) := h
 clear h
 have HC4 := zk H
 clear H
 go_enter Try.func26, Try.ntmps26
 go_upto_region 1 with (first | ((with_reducible refine zgd (N := 4) rfl ?_); refine zb ?hg (N := 4) ?hd (cs := #[.int .i64 a1_0, .int .i64 a1_1]) (t := 37) ?hr ?_; (case hd => rfl); (case hg => rfl); (case hr => go_simp; first | done | rfl); intro gb245 hg w5 hbox hb; have n0_ := zk (zs (by with_reducible repeat first | exact HB.out | apply zA | apply zN | apply zD) hb); have n1_ := zk (hbox); have n2_ := zk ((by rw [hg]; exact (zq (by with_reducible repeat first | exact HB.out | apply zA | apply zN | apply zD)) : w.heap.size ≤ gb245)); have n3_ := n2_; clear HB; have HB := n0_; have BK245 := n1_; have GW245 := n2_; have GE245 := n3_; clear n0_ n1_ n2_ n3_; clear hb hbox hg))
 repeat (go_quiet (first | ((with_reducible refine zgd (N := 4) rfl ?_); refine zb ?hg (N := 4) ?hd (cs := #[.int .i64 a1_0, .int .i64 a1_1]) (t := 37) ?hr ?_; (case hd => rfl); (case hg => rfl); (case hr => go_simp; first | done | rfl); intro gb245 hg w5 hbox hb; have n0_ := zk (zs (by with_reducible repeat first | exact HB.out | apply zA | apply zN | apply zD) hb); have n1_ := zk (hbox); have n2_ := zk ((by rw [hg]; exact (zq (by with_reducible repeat first | exact HB.out | apply zA | apply zN | apply zD)) : w.heap.size ≤ gb245)); have n3_ := n2_; clear HB; have HB := n0_; have BK245 := n1_; have GW245 := n2_; have GE245 := n3_; clear n0_ n1_ n2_ n3_; clear hb hbox hg)); go_upto_region 1 with (first | ((with_reducible refine zgd (N := 4) rfl ?_); refine zb ?hg (N := 4) ?hd (cs := #[.int .i64 a1_0, .int .i64 a1_1]) (t := 37) ?hr ?_; (case hd => rfl); (case hg => rfl); (case hr => go_simp; first | done | rfl); intro gb245 hg w5 hbox hb; have n0_ := zk (zs (by with_reducible repeat first | exact HB.out | apply zA | apply zN | apply zD) hb); have n1_ := zk (hbox); have n2_ := zk ((by rw [hg]; exact (zq (by with_reducible repeat first | exact HB.out | apply zA | apply zN | apply zD)) : w.heap.size ≤ gb245)); have n3_ := n2_; clear HB; have HB := n0_; have BK245 := n1_; have GW245 := n2_; have GE245 := n3_; clear n0_ n1_ n2_ n3_; clear hb hbox hg)))
 (try simp only [Act.put, List.setIfInBounds_toArray, List.set_cons_zero, List.set_cons_succ])
 go_cut [26] (fun v26 wc => ∃ (kq : Nat) (x26_3 : Bool), v26 = .bool x26_3 ∧ Aside0 (r08_One.j0 kq l0 x26_3 a1_0 a1_1 = some (r1, r2)) ∧ Aside0 (kq ≤ k) ∧ Aside0 (wc.heap[gb245]? = some (.cells #[.int .i64 a1_0, .int .i64 a1_1] 37 (0, 0))) ∧ Aside0 (Below w.heap.size w wc))
 case first =>
  have H := HC4.out; clear HC4
  by_cases c6 : a1_0 < 0
  ·
   rw [if_pos c6] at H; have c6b0 : decide (a1_0 < 0) = true := decide_eq_true c6; clear c6
   (first | rw [c6b0] | (simp only [i64_w, i32_w]; rw [c6b0]) | skip)
   have H' := zk H; clear H; have hcz7_0 : w5.cell? ⟨gb245, 0, none⟩ = some (.int .i64 a1_0) := (zC BK245.out 0).trans rfl; have hcz7_1 : w5.cell? ⟨gb245, 1, none⟩ = some (.int .i64 a1_1) := (zC BK245.out 1).trans rfl; have hfz7_0 := zR BK245.out 0; have hfz7_1 := zR BK245.out 1; go_wp2
   repeat (go_quiet (fail); try go_wp2)
   go_meet
   case rel => exact ⟨_, (true), (by first | rfl | (simp; done) | (simp [*]; done)), H', ⟨by first | omega | exact Nat.le_refl _⟩, ⟨by (with_reducible repeat first | apply zM | apply zE | apply zF); exact BK245.out⟩, ⟨by with_reducible repeat first | exact HB.out | apply zA | apply zN | apply zD | refine zS ?_ GE245.out⟩⟩
  ·
   rw [if_neg c6] at H; have c6b0 : decide (a1_0 < 0) = false := decide_eq_false c6; clear c6
   (first | rw [c6b0] | (simp only [i64_w, i32_w]; rw [c6b0]) | skip)
   by_cases c8 : a1_0 ≥ a2
   ·
    rw [if_pos c8] at H; have c8b0 : decide (a2 ≤ a1_0) = true := decide_eq_true c8; clear c8; have H' := zk H; clear H; have hcz9_0 : w5.cell? ⟨gb245, 0, none⟩ = some (.int .i64 a1_0) := (zC BK245.out 0).trans rfl; have hcz9_1 : w5.cell? ⟨gb245, 1, none⟩ = some (.int .i64 a1_1) := (zC BK245.out 1).trans rfl; have hfz9_0 := zR BK245.out 0; have hfz9_1 := zR BK245.out 1; go_wp2
    repeat (go_quiet (fail); try go_wp2)
    go_meet
    case rel => exact ⟨_, (true), (by first | rfl | (simp; done) | (simp [*]; done)), H', ⟨by first | omega | exact Nat.le_refl _⟩, ⟨by (with_reducible repeat first | apply zM | apply zE | apply zF); exact BK245.out⟩, ⟨by with_reducible repeat first | exact HB.out | apply zA | apply zN | apply zD | refine zS ?_ GE245.out⟩⟩
   ·
    rw [if_neg c8] at H; have c8b0 : decide (a2 ≤ a1_0) = false := decide_eq_false c8; clear c8; have H' := zk H; clear H; have hcz10_0 : w5.cell? ⟨gb245, 0, none⟩ = some (.int .i64 a1_0) := (zC BK245.out 0).trans rfl; have hcz10_1 : w5.cell? ⟨gb245, 1, none⟩ = some (.int .i64 a1_1) := (zC BK245.out 1).trans rfl; have hfz10_0 := zR BK245.out 0; have hfz10_1 := zR BK245.out 1; go_wp2
    repeat (go_quiet (fail); try go_wp2)
    go_meet
    case rel => exact ⟨_, ((a1_1 == a1_0)), (by first | rfl | (simp; done) | (simp [*]; done)), H', ⟨by first | omega | exact Nat.le_refl _⟩, ⟨by (with_reducible repeat first | apply zM | apply zE | apply zF); exact BK245.out⟩, ⟨by with_reducible repeat first | exact HB.out | apply zA | apply zN | apply zD | refine zS ?_ GE245.out⟩⟩
 case rest =>
  clear HC4; (try clear c2); (try clear p2); (try clear c6); (try clear c6b0); (try clear c8); (try clear c8b0); obtain ⟨kq, x26_3, rfl, HA, HJ3, BK245, HB⟩ := hcut
  cases kq with
  | zero => exact absurd HA.out (by simp [r08_One.j0])
  | succ kj3 =>
   have H := HA.out; clear HA; simp only [r08_One.j0] at H
   by_cases c11 : x26_3 = true
   ·
    subst c11
    have H1 : (some (([] : List Int), false)) = some (r1, r2) := by rw [if_pos rfl] at H; exact H
    clear H; have H := H1; clear H1; simp only [Option.some.injEq, Prod.mk.injEq] at H; obtain ⟨rfl, rfl⟩ := H; go_wp2
    repeat (go_quiet (fail); try go_wp2)
    go_ret2
    exact ⟨_, by first | rfl | (simp [wN, wS] <;> rfl) | (simp [*, wN, wS] <;> rfl), by first | exact Kd.R_nil _ _ _ _ _ | exact Kd.N_nil _ _ _ _ _ | exact Kd.V_nil _ _ _ _ _ | exact Kd.Q_nil _ _ _ _ _ | exact Kd.S_nil _ _ _ _ _, by with_reducible repeat first | exact HB.out | apply zA | apply zN | apply zD | refine zS ?_ GE245.out⟩
   ·
    replace c11 := Bool.eq_false_iff.mpr c11; subst c11
    have H1 : (r08_One.l0 kj3 l0 ([] : List Int) (l0.length : Int) 0 a1_0 a1_1) = some (r1, r2) := by rw [if_neg (show ¬ (false = true) by decide)] at H; exact H
    clear H; have H := H1; clear H1; have H' := zk H; clear H; go_wp2
    repeat (go_quiet (fail); try go_wp2)
    go_loopg [8, 29] kj3 (fun kq v8 v29 w' => ∃ (x8_2 : List Int) (x29_2 : Int), v29 = .int .i64 x29_2 ∧ Aside0 (r08_One.l0 kq l0 x8_2 (l0.length : Int) x29_2 a1_0 a1_1 = some (r1, r2)) ∧ Aside0 (kq ≤ kj3) ∧ Aside0 (Kd.R (Kd.int .i64) 3 w' w.heap.size (fun _ => True) v8 x8_2) ∧ Aside0 (w'.heap[gb245]? = some (.cells #[.int .i64 a1_0, .int .i64 a1_1] 37 (0, 0))) ∧ Aside0 (Below w.heap.size w w'))
    case atStart => exact ⟨(([] : List Int)), (0), (by first | rfl | (simp; done) | (simp [*]; done)), H', ⟨Nat.le_refl _⟩, ⟨by first | exact Kd.R_nil _ _ _ _ _ | exact Kd.N_nil _ _ _ _ _ | exact Kd.V_nil _ _ _ _ _ | exact Kd.Q_nil _ _ _ _ _ | exact Kd.S_nil _ _ _ _ _⟩, ⟨by (with_reducible repeat first | apply zM | apply zE | apply zF); exact BK245.out⟩, ⟨by with_reducible repeat first | exact HB.out | apply zA | apply zN | apply zD | refine zS ?_ GE245.out⟩⟩
    case round =>
     clear H'; (try clear c1); (try clear c2); (try clear p2); (try clear c6); (try clear c6b0); (try clear c8); (try clear c8b0); (try clear c11); (try clear p2)
     (try clear BK245)
     obtain ⟨x8_2, x29_2, rfl, HA, HK2, HO_8, BK245, HB⟩ := hrel
     cases gk with
     | zero => exact absurd HA.out (by simp [r08_One.l0])
     | succ k2 =>
      have H := HA.out; clear HA; simp only [r08_One.l0] at H
      by_cases c12 : x29_2 < (l0.length : Int)
      ·
       rw [if_pos c12] at H; have c12b0 := decide_eq_true c12; clear c12
       by_cases c13 : 0 ≤ x29_2
       ·
        rw [if_pos c13] at H; have c13b0 := decide_eq_true c13; clear c13
        by_cases c14 : x29_2 < (l0.length : Int)
        ·
         rw [if_pos c14] at H; have c14b0 := decide_eq_true c14; clear c14
         by_cases c15 : (rd l0 x29_2) = a1_0
         ·
          rw [if_pos c15] at H; have c15b0 := beq_iff_eq.mpr c15; have c15b1 := bne_eq_false_iff_eq.mpr c15; clear c15; have H' := zk H; clear H; have p246 : 0 ≤ (x29_2 : Int) := zo (by assumption); have q246 : x29_2 < (l0.length : Int) := zo (by assumption); obtain ⟨ad246, e246, hx246_0⟩ := Kd.at_int HR0.out x29_2 p246 q246; cases e246; replace hx246_0 := zB HB hx246_0; replace p246 := eq_true p246; replace q246 := eq_true q246; have hcz16_0 : wr.cell? ⟨gb245, 0, none⟩ = some (.int .i64 a1_0) := (zC BK245.out 0).trans rfl; have hcz16_1 : wr.cell? ⟨gb245, 1, none⟩ = some (.int .i64 a1_1) := (zC BK245.out 1).trans rfl; have hfz16_0 := zR BK245.out 0; have hfz16_1 := zR BK245.out 1; go_wp2
          repeat (go_quiet (fail); try go_wp2)
          go_roundg k2
          case measure => have := HJ3.out; have := HK2.out; omega
          case rel => exact ⟨(x8_2), (wrap64 (x29_2 + 1)), (by first | rfl | (simp; done) | (simp [*]; done)), H', ⟨by have := HJ3.out; have := HK2.out; omega⟩, ⟨by (with_reducible repeat (first | apply Kd.R_alloc | apply Kd.R_drewN | apply Kd.R_drew)); exact HO_8.out⟩, ⟨by (with_reducible repeat first | apply zM | apply zE | apply zF); exact BK245.out⟩, ⟨by with_reducible repeat first | exact HB.out | apply zA | apply zN | apply zD | refine zS ?_ GE245.out⟩⟩
         ·
          rw [if_neg c15] at H; have c15b0 := beq_eq_false_iff_ne.mpr c15; have c15b1 := bne_iff_ne.mpr c15
          by_cases c17 : x8_2.length < 17592186044416
          ·
           rw [if_pos c17] at H; have LMc17 := zk c17; clear c17; obtain ⟨y248, hy248⟩ : ∃ y_ : List Int, y_ = (x8_2 ++ [rd l0 x29_2]) := ⟨_, rfl⟩
           replace H : (r08_One.l0 k2 l0 y248 (l0.length : Int) (wrap64 (x29_2 + 1)) a1_0 a1_1) = some (r1, r2) := by first | (rw [hy248]; with_reducible exact H) | (have H2_ := (Option.bind_some _ _).symm.trans H; rw [hy248]; with_reducible exact H2_) | (have H2_ := (Option.bind_some _ _).symm.trans H; with_reducible exact H2_) | with_reducible exact H | (rw [hy248]; exact H) | exact H
           have Ny248 := zk hy248; clear hy248; have H' := zk H; clear H; have p246 : 0 ≤ (x29_2 : Int) := zo (by assumption); have q246 : x29_2 < (l0.length : Int) := zo (by assumption); obtain ⟨ad246, e246, hx246_0⟩ := Kd.at_int HR0.out x29_2 p246 q246; cases e246; replace hx246_0 := zB HB hx246_0; replace p246 := eq_true p246; replace q246 := eq_true q246; have hcz18_0 : wr.cell? ⟨gb245, 0, none⟩ = some (.int .i64 a1_0) := (zC BK245.out 0).trans rfl; have hcz18_1 : wr.cell? ⟨gb245, 1, none⟩ = some (.int .i64 a1_1) := (zC BK245.out 1).trans rfl; have hfz18_0 := zR BK245.out 0; have hfz18_1 := zR BK245.out 1; have p247 : 0 ≤ (x29_2 : Int) := zo (by assumption); have q247 : x29_2 < (l0.length : Int) := zo (by assumption); obtain ⟨ad247, e247, hx247_0⟩ := Kd.at_int HR0.out x29_2 p247 q247; obtain rfl : ad246 = ad247 := (by injection e247); replace hx247_0 := zB HB hx247_0; replace p247 := eq_true p247; replace q247 := eq_true q247
           go_wp2_with (first | ((with_reducible refine zgn (b := .append) (xs := #[.tmp 39, .tmp 44]) rfl ?_); at_builtin; refine Kd.R_append (Kd.int .i64) (w0 := w) w.heap.size rfl (.tmp 39) (.tmp 44) 22 3 (.int .i64 0) 8 rfl Try.underlying22 info3 rfl (by decide) (by omega) u8 x8_2 (rd l0 x29_2) [.int .i64 (rd l0 x29_2)] (fun _ => True) (fun _ => False) rfl rfl ?aP (fun _ hk => hk.elim) ?aF ?aO ?aB ?aS ?aL ?_; (case aP => exact rfl); (case aB => exact (by with_reducible repeat first | exact HB.out | apply zA | apply zN | apply zD | refine zS ?_ GE245.out)); (case aF => exact (fun _ _ => trivial)); (case aO => exact (by (with_reducible repeat (first | apply Kd.R_alloc | apply Kd.R_drewN | apply Kd.R_drew)); exact HO_8.out)); (case aS => exact (zq (by with_reducible repeat first | exact HB.out | apply zA | apply zN | apply zD | refine zS ?_ GE245.out))); (case aL => have := LMc17.out; omega); intro v249 w19 ho hb hg hat; rw [← Ny248.out] at ho; have n0_ := zk (blk_grown (g := gb245) (o := .cells #[.int .i64 a1_0, .int .i64 a1_1] 37 (0, 0)) (by (with_reducible repeat first | apply zM | apply zE | apply zF); exact BK245.out) hg (Kd.R_ne HO_8.out BK245.out (by decide))); have n1_ := zk (hb); have n2_ := zk (ho); clear BK245; clear HB; clear HO_8; have BK245 := n0_; have HB := n1_; have HO250 := n2_; clear n0_ n1_ n2_; clear ho hb hg hat))
           repeat (go_quiet (first | ((with_reducible refine zgn (b := .append) (xs := #[.tmp 39, .tmp 44]) rfl ?_); at_builtin; refine Kd.R_append (Kd.int .i64) (w0 := w) w.heap.size rfl (.tmp 39) (.tmp 44) 22 3 (.int .i64 0) 8 rfl Try.underlying22 info3 rfl (by decide) (by omega) u8 x8_2 (rd l0 x29_2) [.int .i64 (rd l0 x29_2)] (fun _ => True) (fun _ => False) rfl rfl ?aP (fun _ hk => hk.elim) ?aF ?aO ?aB ?aS ?aL ?_; (case aP => exact rfl); (case aB => exact (by with_reducible repeat first | exact HB.out | apply zA | apply zN | apply zD | refine zS ?_ GE245.out)); (case aF => exact (fun _ _ => trivial)); (case aO => exact (by (with_reducible repeat (first | apply Kd.R_alloc | apply Kd.R_drewN | apply Kd.R_drew)); exact HO_8.out)); (case aS => exact (zq (by with_reducible repeat first | exact HB.out | apply zA | apply zN | apply zD | refine zS ?_ GE245.out))); (case aL => have := LMc17.out; omega); intro v249 w19 ho hb hg hat; rw [← Ny248.out] at ho; have n0_ := zk (blk_grown (g := gb245) (o := .cells #[.int .i64 a1_0, .int .i64 a1_1] 37 (0, 0)) (by (with_reducible repeat first | apply zM | apply zE | apply zF); exact BK245.out) hg (Kd.R_ne HO_8.out BK245.out (by decide))); have n1_ := zk (hb); have n2_ := zk (ho); clear BK245; clear HB; clear HO_8; have BK245 := n0_; have HB := n1_; have HO250 := n2_; clear n0_ n1_ n2_; clear ho hb hg hat)); try go_wp2_with (first | ((with_reducible refine zgn (b := .append) (xs := #[.tmp 39, .tmp 44]) rfl ?_); at_builtin; refine Kd.R_append (Kd.int .i64) (w0 := w) w.heap.size rfl (.tmp 39) (.tmp 44) 22 3 (.int .i64 0) 8 rfl Try.underlying22 info3 rfl (by decide) (by omega) u8 x8_2 (rd l0 x29_2) [.int .i64 (rd l0 x29_2)] (fun _ => True) (fun _ => False) rfl rfl ?aP (fun _ hk => hk.elim) ?aF ?aO ?aB ?aS ?aL ?_; (case aP => exact rfl); (case aB => exact (by with_reducible repeat first | exact HB.out | apply zA | apply zN | apply zD | refine zS ?_ GE245.out)); (case aF => exact (fun _ _ => trivial)); (case aO => exact (by (with_reducible repeat (first | apply Kd.R_alloc | apply Kd.R_drewN | apply Kd.R_drew)); exact HO_8.out)); (case aS => exact (zq (by with_reducible repeat first | exact HB.out | apply zA | apply zN | apply zD | refine zS ?_ GE245.out))); (case aL => have := LMc17.out; omega); intro v249 w19 ho hb hg hat; rw [← Ny248.out] at ho; have n0_ := zk (blk_grown (g := gb245) (o := .cells #[.int .i64 a1_0, .int .i64 a1_1] 37 (0, 0)) (by (with_reducible repeat first | apply zM | apply zE | apply zF); exact BK245.out) hg (Kd.R_ne HO_8.out BK245.out (by decide))); have n1_ := zk (hb); have n2_ := zk (ho); clear BK245; clear HB; clear HO_8; have BK245 := n0_; have HB := n1_; have HO250 := n2_; clear n0_ n1_ n2_; clear ho hb hg hat)))
           go_roundg k2
           case measure => have := HJ3.out; have := HK2.out; omega
           case rel => exact ⟨(y248), (wrap64 (x29_2 + 1)), (by first | rfl | (simp; done) | (simp [*]; done)), H', ⟨by have := HJ3.out; have := HK2.out; omega⟩, ⟨by (with_reducible repeat (first | apply Kd.R_alloc | apply Kd.R_drewN | apply Kd.R_drew)); exact HO250.out⟩, ⟨by (with_reducible repeat first | apply zM | apply zE | apply zF); exact BK245.out⟩, ⟨by with_reducible repeat first | exact HB.out | apply zA | apply zN | apply zD | refine zS ?_ GE245.out⟩⟩
          ·
           rw [if_neg c17] at H; exact absurd H (by simp)
        ·
         rw [if_neg c14] at H; exact absurd H (by simp)
       ·
        rw [if_neg c13] at H; exact absurd H (by simp)
      ·
       rw [if_neg c12] at H; have c12b0 := decide_eq_false c12; clear c12
       by_cases c20 : a1_1 = (-1)
       ·
        rw [if_pos c20] at H; have c20b0 := beq_iff_eq.mpr c20; have c20b1 := bne_eq_false_iff_eq.mpr c20; clear c20
        by_cases c21 : (x8_2.length : Int) < 0
        ·
         rw [if_pos c21] at H; have c21b0 := decide_eq_true c21; have c21b1 : decide (x8_2.length < 0) = true := decide_eq_true (by omega); clear c21; simp only [Option.some.injEq, Prod.mk.injEq] at H; obtain ⟨rfl, rfl⟩ := H; obtain ⟨Ao22, co22, eo22⟩ := Kd.R_slice HO_8.out; subst eo22; have hcz23_0 : wr.cell? ⟨gb245, 0, none⟩ = some (.int .i64 a1_0) := (zC BK245.out 0).trans rfl; have hcz23_1 : wr.cell? ⟨gb245, 1, none⟩ = some (.int .i64 a1_1) := (zC BK245.out 1).trans rfl; have hfz23_0 := zR BK245.out 0; have hfz23_1 := zR BK245.out 1; go_wp2
         repeat (go_quiet (fail); try go_wp2)
         go_ret2
         exact ⟨_, by first | rfl | (simp [wN, wS] <;> rfl) | (simp [*, wN, wS] <;> rfl), by first | exact Kd.R_nil _ _ _ _ _ | exact Kd.N_nil _ _ _ _ _ | exact Kd.V_nil _ _ _ _ _ | exact Kd.Q_nil _ _ _ _ _ | exact Kd.S_nil _ _ _ _ _, by with_reducible repeat first | exact HB.out | apply zA | apply zN | apply zD | refine zS ?_ GE245.out⟩
        ·
         rw [if_neg c21] at H; have c21b0 := decide_eq_false c21; have c21b1 : decide (x8_2.length < 0) = false := decide_eq_false (by omega); clear c21; replace H := Option.bind_eq_some_iff.mp H; obtain ⟨t251, A240, H⟩ := H; replace H : (some (t251, true)) = some (r1, r2) := H; have A24 := zk A240; clear A240; simp only [Option.some.injEq, Prod.mk.injEq] at H; obtain ⟨rfl, rfl⟩ := H; obtain ⟨Ao25, co25, eo25⟩ := Kd.R_slice HO_8.out; subst eo25; have hcz26_0 : wr.cell? ⟨gb245, 0, none⟩ = some (.int .i64 a1_0) := (zC BK245.out 0).trans rfl; have hcz26_1 : wr.cell? ⟨gb245, 1, none⟩ = some (.int .i64 a1_1) := (zC BK245.out 1).trans rfl; have hfz26_0 := zR BK245.out 0; have hfz26_1 := zR BK245.out 1
         go_wp2_with (first | (go_at_call 36; (with_reducible refine (r08_put.calls _ _ x8_2 (x8_2.length : Int) a1_0 t251 _ ?side1 ?side2 A24.out).mono ?_); (case side1 => repeat (first | exact (Kd.R_reads' HO_8.out).2.2 | (with_reducible refine Kd.C_alloc ?_ _) | (with_reducible refine Kd.C_drewN ?_ _) | (with_reducible refine Kd.C_drew ?_))); (case side2 => exact (Kd.R_reads' HO_8.out).2.1); rintro e w27 ⟨v252, rfl, ho0, hb⟩; have n0_ := zk (Kd.R_elder' (by (with_reducible repeat (first | apply Kd.R_alloc | apply Kd.R_drewN | apply Kd.R_drew)); exact HO_8.out) (Kd.R_base ho0) hb); have n1_ := zk (Kd.R_lower (Kd.R_new' ho0 (Kd.R_lt (by (with_reducible repeat (first | apply Kd.R_alloc | apply Kd.R_drewN | apply Kd.R_drew)); exact HO_8.out))) (zq (by with_reducible repeat first | exact HB.out | apply zA | apply zN | apply zD | refine zS ?_ GE245.out))); have n2_ := zk (blk_below (g := gb245) (o := .cells #[.int .i64 a1_0, .int .i64 a1_1] 37 (0, 0)) (by (with_reducible repeat first | apply zM | apply zE | apply zF); exact BK245.out) hb); have n3_ := zk (zs (by with_reducible repeat first | exact HB.out | apply zA | apply zN | apply zD | refine zS ?_ GE245.out) hb); clear HO_8; clear BK245; clear HB; have HO_8 := n0_; have HO253 := n1_; have BK245 := n2_; have HB := n3_; clear n0_ n1_ n2_ n3_; (try clear hb); (try clear hb2); (try clear hk); (try clear hi); (try clear ho0)))
         repeat (go_quiet (first | (go_at_call 36; (with_reducible refine (r08_put.calls _ _ x8_2 (x8_2.length : Int) a1_0 t251 _ ?side1 ?side2 A24.out).mono ?_); (case side1 => repeat (first | exact (Kd.R_reads' HO_8.out).2.2 | (with_reducible refine Kd.C_alloc ?_ _) | (with_reducible refine Kd.C_drewN ?_ _) | (with_reducible refine Kd.C_drew ?_))); (case side2 => exact (Kd.R_reads' HO_8.out).2.1); rintro e w27 ⟨v252, rfl, ho0, hb⟩; have n0_ := zk (Kd.R_elder' (by (with_reducible repeat (first | apply Kd.R_alloc | apply Kd.R_drewN | apply Kd.R_drew)); exact HO_8.out) (Kd.R_base ho0) hb); have n1_ := zk (Kd.R_lower (Kd.R_new' ho0 (Kd.R_lt (by (with_reducible repeat (first | apply Kd.R_alloc | apply Kd.R_drewN | apply Kd.R_drew)); exact HO_8.out))) (zq (by with_reducible repeat first | exact HB.out | apply zA | apply zN | apply zD | refine zS ?_ GE245.out))); have n2_ := zk (blk_below (g := gb245) (o := .cells #[.int .i64 a1_0, .int .i64 a1_1] 37 (0, 0)) (by (with_reducible repeat first | apply zM | apply zE | apply zF); exact BK245.out) hb); have n3_ := zk (zs (by with_reducible repeat first | exact HB.out | apply zA | apply zN | apply zD | refine zS ?_ GE245.out) hb); clear HO_8; clear BK245; clear HB; have HO_8 := n0_; have HO253 := n1_; have BK245 := n2_; have HB := n3_; clear n0_ n1_ n2_ n3_; (try clear hb); (try clear hb2); (try clear hk); (try clear hi); (try clear ho0))); try go_wp2_with (first | (go_at_call 36; (with_reducible refine (r08_put.calls _ _ x8_2 (x8_2.length : Int) a1_0 t251 _ ?side1 ?side2 A24.out).mono ?_); (case side1 => repeat (first | exact (Kd.R_reads' HO_8.out).2.2 | (with_reducible refine Kd.C_alloc ?_ _) | (with_reducible refine Kd.C_drewN ?_ _) | (with_reducible refine Kd.C_drew ?_))); (case side2 => exact (Kd.R_reads' HO_8.out).2.1); rintro e w27 ⟨v252, rfl, ho0, hb⟩; have n0_ := zk (Kd.R_elder' (by (with_reducible repeat (first | apply Kd.R_alloc | apply Kd.R_drewN | apply Kd.R_drew)); exact HO_8.out) (Kd.R_base ho0) hb); have n1_ := zk (Kd.R_lower (Kd.R_new' ho0 (Kd.R_lt (by (with_reducible repeat (first | apply Kd.R_alloc | apply Kd.R_drewN | apply Kd.R_drew)); exact HO_8.out))) (zq (by with_reducible repeat first | exact HB.out | apply zA | apply zN | apply zD | refine zS ?_ GE245.out))); have n2_ := zk (blk_below (g := gb245) (o := .cells #[.int .i64 a1_0, .int .i64 a1_1] 37 (0, 0)) (by (with_reducible repeat first | apply zM | apply zE | apply zF); exact BK245.out) hb); have n3_ := zk (zs (by with_reducible repeat first | exact HB.out | apply zA | apply zN | apply zD | refine zS ?_ GE245.out) hb); clear HO_8; clear BK245; clear HB; have HO_8 := n0_; have HO253 := n1_; have BK245 := n2_; have HB := n3_; clear n0_ n1_ n2_ n3_; (try clear hb); (try clear hb2); (try clear hk); (try clear hi); (try clear ho0))))
         go_ret2
         exact ⟨_, by first | rfl | (simp [wN, wS] <;> rfl) | (simp [*, wN, wS] <;> rfl), by (with_reducible repeat (first | apply Kd.R_alloc | apply Kd.R_drewN | apply Kd.R_drew)); exact Kd.R_mono HO253.out (fun _ hk => trivial), by with_reducible repeat first | exact HB.out | apply zA | apply zN | apply zD | refine zS ?_ GE245.out⟩
       ·
        rw [if_neg c20] at H; have c20b0 := beq_eq_false_iff_ne.mpr c20; have c20b1 := bne_iff_ne.mpr c20; replace H := Option.bind_eq_some_iff.mp H; obtain ⟨t254, A280, H⟩ := H; replace H : (if t254 < 0 then (some (([] : List Int), false)) else ((r08_put.f x8_2 t254 a1_0).bind fun t255 => (some (t255, true)))) = some (r1, r2) := H; have A28 := zk A280; clear A280
        by_cases c29 : t254 < 0
        ·
         rw [if_pos c29] at H; have c29b0 := decide_eq_true c29; clear c29; simp only [Option.some.injEq, Prod.mk.injEq] at H; obtain ⟨rfl, rfl⟩ := H; obtain ⟨Ao30, co30, eo30⟩ := Kd.R_slice HO_8.out; subst eo30; have hcz31_0 : wr.cell? ⟨gb245, 0, none⟩ = some (.int .i64 a1_0) := (zC BK245.out 0).trans rfl; have hcz31_1 : wr.cell? ⟨gb245, 1, none⟩ = some (.int .i64 a1_1) := (zC BK245.out 1).trans rfl; have hfz31_0 := zR BK245.out 0; have hfz31_1 := zR BK245.out 1
         go_wp2_with (first | (go_at_call 37; (with_reducible refine (r08_find.calls k2 _ _ x8_2 a1_1 t254 _ ?side1 ?side2 A28.out).mono ?_); (case side1 => repeat (first | exact (Kd.R_reads' HO_8.out).2.2 | (with_reducible refine Kd.C_alloc ?_ _) | (with_reducible refine Kd.C_drewN ?_ _) | (with_reducible refine Kd.C_drew ?_))); (case side2 => exact (Kd.R_reads' HO_8.out).2.1); rintro e w' ⟨rfl, ⟨nd, rfl⟩⟩; (try first | exact ⟨rfl, _, World.drewN_drewN _ _ _⟩ | exact ⟨rfl, _, Eq.trans (World.drewN_drewN _ _ _) (congrArg (World.drewN _) (Nat.add_assoc _ _ _))⟩)))
         repeat (go_quiet (first | (go_at_call 37; (with_reducible refine (r08_find.calls k2 _ _ x8_2 a1_1 t254 _ ?side1 ?side2 A28.out).mono ?_); (case side1 => repeat (first | exact (Kd.R_reads' HO_8.out).2.2 | (with_reducible refine Kd.C_alloc ?_ _) | (with_reducible refine Kd.C_drewN ?_ _) | (with_reducible refine Kd.C_drew ?_))); (case side2 => exact (Kd.R_reads' HO_8.out).2.1); rintro e w' ⟨rfl, ⟨nd, rfl⟩⟩; (try first | exact ⟨rfl, _, World.drewN_drewN _ _ _⟩ | exact ⟨rfl, _, Eq.trans (World.drewN_drewN _ _ _) (congrArg (World.drewN _) (Nat.add_assoc _ _ _))⟩))); try go_wp2_with (first | (go_at_call 37; (with_reducible refine (r08_find.calls k2 _ _ x8_2 a1_1 t254 _ ?side1 ?side2 A28.out).mono ?_); (case side1 => repeat (first | exact (Kd.R_reads' HO_8.out).2.2 | (with_reducible refine Kd.C_alloc ?_ _) | (with_reducible refine Kd.C_drewN ?_ _) | (with_reducible refine Kd.C_drew ?_))); (case side2 => exact (Kd.R_reads' HO_8.out).2.1); rintro e w' ⟨rfl, ⟨nd, rfl⟩⟩; (try first | exact ⟨rfl, _, World.drewN_drewN _ _ _⟩ | exact ⟨rfl, _, Eq.trans (World.drewN_drewN _ _ _) (congrArg (World.drewN _) (Nat.add_assoc _ _ _))⟩))))
         go_ret2
         exact ⟨_, by first | rfl | (simp [wN, wS] <;> rfl) | (simp [*, wN, wS] <;> rfl), by first | exact Kd.R_nil _ _ _ _ _ | exact Kd.N_nil _ _ _ _ _ | exact Kd.V_nil _ _ _ _ _ | exact Kd.Q_nil _ _ _ _ _ | exact Kd.S_nil _ _ _ _ _, by with_reducible repeat first | exact HB.out | apply zA | apply zN | apply zD | refine zS ?_ GE245.out⟩
        ·
         rw [if_neg c29] at H; have c29b0 := decide_eq_false c29; clear c29; replace H := Option.bind_eq_some_iff.mp H; obtain ⟨t255, A320, H⟩ := H; replace H : (some (t255, true)) = some (r1, r2) := H; have A32 := zk A320; clear A320; simp only [Option.some.injEq, Prod.mk.injEq] at H; obtain ⟨rfl, rfl⟩ := H; obtain ⟨Ao33, co33, eo33⟩ := Kd.R_slice HO_8.out; subst eo33; have hcz34_0 : wr.cell? ⟨gb245, 0, none⟩ = some (.int .i64 a1_0) := (zC BK245.out 0).trans rfl; have hcz34_1 : wr.cell? ⟨gb245, 1, none⟩ = some (.int .i64 a1_1) := (zC BK245.out 1).trans rfl; have hfz34_0 := zR BK245.out 0; have hfz34_1 := zR BK245.out 1
         go_wp2_with (first | (go_at_call 37; (with_reducible refine (r08_find.calls k2 _ _ x8_2 a1_1 t254 _ ?side1 ?side2 A28.out).mono ?_); (case side1 => repeat (first | exact (Kd.R_reads' HO_8.out).2.2 | (with_reducible refine Kd.C_alloc ?_ _) | (with_reducible refine Kd.C_drewN ?_ _) | (with_reducible refine Kd.C_drew ?_))); (case side2 => exact (Kd.R_reads' HO_8.out).2.1); rintro e w' ⟨rfl, ⟨nd, rfl⟩⟩; (try first | exact ⟨rfl, _, World.drewN_drewN _ _ _⟩ | exact ⟨rfl, _, Eq.trans (World.drewN_drewN _ _ _) (congrArg (World.drewN _) (Nat.add_assoc _ _ _))⟩)) | (go_at_call 36; (with_reducible refine (r08_put.calls _ _ x8_2 t254 a1_0 t255 _ ?side1 ?side2 A32.out).mono ?_); (case side1 => repeat (first | exact (Kd.R_reads' HO_8.out).2.2 | (with_reducible refine Kd.C_alloc ?_ _) | (with_reducible refine Kd.C_drewN ?_ _) | (with_reducible refine Kd.C_drew ?_))); (case side2 => exact (Kd.R_reads' HO_8.out).2.1); rintro e w35 ⟨v256, rfl, ho0, hb⟩; have n0_ := zk (Kd.R_elder' (by (with_reducible repeat (first | apply Kd.R_alloc | apply Kd.R_drewN | apply Kd.R_drew)); exact HO_8.out) (Kd.R_base ho0) hb); have n1_ := zk (Kd.R_lower (Kd.R_new' ho0 (Kd.R_lt (by (with_reducible repeat (first | apply Kd.R_alloc | apply Kd.R_drewN | apply Kd.R_drew)); exact HO_8.out))) (zq (by with_reducible repeat first | exact HB.out | apply zA | apply zN | apply zD | refine zS ?_ GE245.out))); have n2_ := zk (blk_below (g := gb245) (o := .cells #[.int .i64 a1_0, .int .i64 a1_1] 37 (0, 0)) (by (with_reducible repeat first | apply zM | apply zE | apply zF); exact BK245.out) hb); have n3_ := zk (zs (by with_reducible repeat first | exact HB.out | apply zA | apply zN | apply zD | refine zS ?_ GE245.out) hb); clear HO_8; clear BK245; clear HB; have HO_8 := n0_; have HO257 := n1_; have BK245 := n2_; have HB := n3_; clear n0_ n1_ n2_ n3_; (try clear hb); (try clear hb2); (try clear hk); (try clear hi); (try clear ho0)))
         repeat (go_quiet (first | (go_at_call 37; (with_reducible refine (r08_find.calls k2 _ _ x8_2 a1_1 t254 _ ?side1 ?side2 A28.out).mono ?_); (case side1 => repeat (first | exact (Kd.R_reads' HO_8.out).2.2 | (with_reducible refine Kd.C_alloc ?_ _) | (with_reducible refine Kd.C_drewN ?_ _) | (with_reducible refine Kd.C_drew ?_))); (case side2 => exact (Kd.R_reads' HO_8.out).2.1); rintro e w' ⟨rfl, ⟨nd, rfl⟩⟩; (try first | exact ⟨rfl, _, World.drewN_drewN _ _ _⟩ | exact ⟨rfl, _, Eq.trans (World.drewN_drewN _ _ _) (congrArg (World.drewN _) (Nat.add_assoc _ _ _))⟩)) | (go_at_call 36; (with_reducible refine (r08_put.calls _ _ x8_2 t254 a1_0 t255 _ ?side1 ?side2 A32.out).mono ?_); (case side1 => repeat (first | exact (Kd.R_reads' HO_8.out).2.2 | (with_reducible refine Kd.C_alloc ?_ _) | (with_reducible refine Kd.C_drewN ?_ _) | (with_reducible refine Kd.C_drew ?_))); (case side2 => exact (Kd.R_reads' HO_8.out).2.1); rintro e w35 ⟨v256, rfl, ho0, hb⟩; have n0_ := zk (Kd.R_elder' (by (with_reducible repeat (first | apply Kd.R_alloc | apply Kd.R_drewN | apply Kd.R_drew)); exact HO_8.out) (Kd.R_base ho0) hb); have n1_ := zk (Kd.R_lower (Kd.R_new' ho0 (Kd.R_lt (by (with_reducible repeat (first | apply Kd.R_alloc | apply Kd.R_drewN | apply Kd.R_drew)); exact HO_8.out))) (zq (by with_reducible repeat first | exact HB.out | apply zA | apply zN | apply zD | refine zS ?_ GE245.out))); have n2_ := zk (blk_below (g := gb245) (o := .cells #[.int .i64 a1_0, .int .i64 a1_1] 37 (0, 0)) (by (with_reducible repeat first | apply zM | apply zE | apply zF); exact BK245.out) hb); have n3_ := zk (zs (by with_reducible repeat first | exact HB.out | apply zA | apply zN | apply zD | refine zS ?_ GE245.out) hb); clear HO_8; clear BK245; clear HB; have HO_8 := n0_; have HO257 := n1_; have BK245 := n2_; have HB := n3_; clear n0_ n1_ n2_ n3_; (try clear hb); (try clear hb2); (try clear hk); (try clear hi); (try clear ho0))); try go_wp2_with (first | (go_at_call 37; (with_reducible refine (r08_find.calls k2 _ _ x8_2 a1_1 t254 _ ?side1 ?side2 A28.out).mono ?_); (case side1 => repeat (first | exact (Kd.R_reads' HO_8.out).2.2 | (with_reducible refine Kd.C_alloc ?_ _) | (with_reducible refine Kd.C_drewN ?_ _) | (with_reducible refine Kd.C_drew ?_))); (case side2 => exact (Kd.R_reads' HO_8.out).2.1); rintro e w' ⟨rfl, ⟨nd, rfl⟩⟩; (try first | exact ⟨rfl, _, World.drewN_drewN _ _ _⟩ | exact ⟨rfl, _, Eq.trans (World.drewN_drewN _ _ _) (congrArg (World.drewN _) (Nat.add_assoc _ _ _))⟩)) | (go_at_call 36; (with_reducible refine (r08_put.calls _ _ x8_2 t254 a1_0 t255 _ ?side1 ?side2 A32.out).mono ?_); (case side1 => repeat (first | exact (Kd.R_reads' HO_8.out).2.2 | (with_reducible refine Kd.C_alloc ?_ _) | (with_reducible refine Kd.C_drewN ?_ _) | (with_reducible refine Kd.C_drew ?_))); (case side2 => exact (Kd.R_reads' HO_8.out).2.1); rintro e w35 ⟨v256, rfl, ho0, hb⟩; have n0_ := zk (Kd.R_elder' (by (with_reducible repeat (first | apply Kd.R_alloc | apply Kd.R_drewN | apply Kd.R_drew)); exact HO_8.out) (Kd.R_base ho0) hb); have n1_ := zk (Kd.R_lower (Kd.R_new' ho0 (Kd.R_lt (by (with_reducible repeat (first | apply Kd.R_alloc | apply Kd.R_drewN | apply Kd.R_drew)); exact HO_8.out))) (zq (by with_reducible repeat first | exact HB.out | apply zA | apply zN | apply zD | refine zS ?_ GE245.out))); have n2_ := zk (blk_below (g := gb245) (o := .cells #[.int .i64 a1_0, .int .i64 a1_1] 37 (0, 0)) (by (with_reducible repeat first | apply zM | apply zE | apply zF); exact BK245.out) hb); have n3_ := zk (zs (by with_reducible repeat first | exact HB.out | apply zA | apply zN | apply zD | refine zS ?_ GE245.out) hb); clear HO_8; clear BK245; clear HB; have HO_8 := n0_; have HO257 := n1_; have BK245 := n2_; have HB := n3_; clear n0_ n1_ n2_ n3_; (try clear hb); (try clear hb2); (try clear hk); (try clear hi); (try clear ho0))))
         go_ret2
         exact ⟨_, by first | rfl | (simp [wN, wS] <;> rfl) | (simp [*, wN, wS] <;> rfl), by (with_reducible repeat (first | apply Kd.R_alloc | apply Kd.R_drewN | apply Kd.R_drew)); exact Kd.R_mono HO257.out (fun _ hk => trivial), by with_reducible repeat first | exact HB.out | apply zA | apply zN | apply zD | refine zS ?_ GE245.out⟩
open List renaming setIfInBounds_toArray → zt, set_cons_zero → zu, set_cons_succ → zv
open Bool renaming true → T, false → F
def lw_run.l0 : Nat → List Int → List (S36) → List Int → Int → Int → Option (List Int × Bool)
 | 0, _, _, _, _, _ => none
 | k + 1, x0, x1, x6, x13, x14 => if x14 < x13 then (if 0 ≤ x14 then (if x14 < (x1.length : Int) then ((r08_One.f k x6 ((rd_T36 x1 x14).f0) ((rd_T36 x1 x14).f1) (x0.length : Int)).bind fun bt263 => (if bt263.2 = true then (lw_run.l0 k x0 x1 bt263.1 x13 (wrap64 (x14 + 1))) else (some (([] : List Int), false)))) else (none)) else (none)) else (some (x6, true))
def lw_run.f (k : Nat) (l0 : List Int) (l1 : List (S36)) : Option (List Int × Bool) := (r08_Start.f k l0).bind fun t258 => (lw_run.l0 k l0 l1 t258 (l1.length : Int) 0)
def lw_run.T5 : Bool × List (List Nat × List Nat) := (true, [([], []), ([], []), ([], []), ([1, 2], [1, 2]), ([3], [3]), ([4], [4]), ([], []), ([], []), ([6, 7], [6, 7]), ([8], [8]), ([9], [9]), ([5, 10], [5, 10]), ([], []), ([12], [12]), ([0, 11, 13], [0, 11, 13]), ([14], [14]), ([15], [15]), ([15], [15]), ([16, 14, 0, 1, 2, 3, 4, 5, 6, 7, 8, 9, 10, 11, 12, 13, 14, 15, 16], [16]), ([17, 18, 0, 1, 2, 3, 4, 5, 6, 7, 8, 9, 10, 11, 12, 13, 14, 15, 16, 17, 18], [17])])
def lw_run.B5 : List Nat := [0, 0, 0, 6, 14, 30, 0, 0, 192, 448, 960, 2046, 0, 4096, 16383, 32767, 65535, 65535, 131071, 524287]
theorem lw_run.tab5 : rtab .any (opsOf Try.f16 5) = lw_run.T5 := by kernel_rfl
theorem lw_run.bits5 : waitsOk lw_run.T5.2 lw_run.B5 = true := by kernel_rfl
set_option maxHeartbeats 8000000 in
set_option maxRecDepth 100000 in
theorem lw_run.calls (k : Nat) (A0 : Option Addr) (c0 : Nat) (l0 : List Int) (A1 : Option Addr) (c1 : Nat) (l1 : List (S36)) (r1 : List Int) (r2 : Bool) (w : World) (hr0 : Kd.C (Kd.int .i64) w A0 l0.length l0) (hc0 : l0.length ≤ c0) (hr1 : Kd.C k36 w A1 l1.length l1) (hc1 : l1.length ≤ c1) (h : lw_run.f k l0 l1 = some (r1, r2)) :
  Calls Try.prog 16 #[.slice A0 l0.length c0, .slice A1 l1.length c1] w fun e w' => ∃ v0_ : Value, e = .returned (.tuple #[v0_, .bool r2]) ∧ Kd.R (Kd.int .i64) 3 w' w.heap.size (fun _ => True) v0_ r1 ∧ Below w.heap.size w w' := by
 have hu37 := Try.underlying37
 have HR0 := zk hr0
 have HC0 := zk hc0
 clear hr0 hc0
 have HR1 := zk hr1
 have HC1 := zk hc1
 clear hr1 hc1
 have HB := zk (Below.refl w.heap.size w)
 have H : ((r08_Start.f k l0).bind fun t258 => (lw_run.l0 k l0 l1 t258 (l1.length : Int) 0)) = some (r1, r2) := h
 clear h
 replace H := Option.bind_eq_some_iff.mp H
 obtain ⟨t258, A30, H⟩ := H
 replace H : (lw_run.l0 k l0 l1 t258 (l1.length : Int) 0) = some (r1, r2) := H
 have A3 := zk A30
 clear A30
 have H' := zk H
 clear H
 go_enter Try.func16, Try.ntmps16
 go_wp2_with (first | ((with_reducible refine zgk (f := 25) rfl ?_); refine zgl (some 11) rfl rfl Try.func25 (by kernel_rfl) rfl #[.slice A0 l0.length c0] rfl (by (try simp only [List.map_toArray, List.map_cons, List.map_nil]); first | done | rfl | (simp only [List.length_drop, List.length_take]; rfl)) ?_; (with_reducible refine (r08_Start.calls k _ _ l0 t258 _ ?side1 ?side2 A3.out).mono ?_); (case side1 => repeat (first | exact HR0.out | (with_reducible refine Kd.C_alloc ?_ _) | (with_reducible refine Kd.C_drewN ?_ _) | (with_reducible refine Kd.C_drew ?_))); (case side2 => exact HC0.out); rintro e w4 ⟨v259, rfl, ho0, hb⟩; refine ⟨_, rfl, ?_⟩; have n0_ := zk (Kd.R_lower ho0 (zq (by with_reducible repeat first | exact HB.out | apply zA | apply zN | apply zD))); have n1_ := zk (zs (by with_reducible repeat first | exact HB.out | apply zA | apply zN | apply zD) hb); clear HB; have HO260 := n0_; have HB := n1_; clear n0_ n1_; (try clear hb); (try clear hb2); (try clear hk); (try clear hi); (try clear ho0)))
 go_loopg [6, 14] k (fun kq v6 v14 w' => ∃ (x6_1 : List Int) (x14_1 : Int), v14 = .int .i64 x14_1 ∧ Aside0 (lw_run.l0 kq l0 l1 x6_1 (l1.length : Int) x14_1 = some (r1, r2)) ∧ Aside0 (kq ≤ k) ∧ Aside0 (Kd.R (Kd.int .i64) 3 w' w.heap.size (fun _ => True) v6 x6_1) ∧ Aside0 (Below w.heap.size w w'))
 case atStart => exact ⟨(t258), (0), (by first | rfl | (simp; done) | (simp [*]; done)), H', ⟨Nat.le_refl _⟩, ⟨by (with_reducible repeat (first | apply Kd.R_alloc | apply Kd.R_drewN | apply Kd.R_drew)); exact HO260.out⟩, ⟨by with_reducible repeat first | exact HB.out | apply zA | apply zN | apply zD⟩⟩
 case round =>
  clear H'; (try clear c1); (try clear c2); (try clear p2); obtain ⟨x6_1, x14_1, rfl, HA, HK1, HO_6, HB⟩ := hrel
  cases gk with
  | zero => exact absurd HA.out (by simp [lw_run.l0])
  | succ k1 =>
   have H := HA.out; clear HA; simp only [lw_run.l0] at H
   by_cases c5 : x14_1 < (l1.length : Int)
   ·
    rw [if_pos c5] at H; have c5b0 : decide (x14_1 < (l1.length : Int)) = true := decide_eq_true c5; clear c5
    by_cases c6 : 0 ≤ x14_1
    ·
     rw [if_pos c6] at H; have c6b0 : decide (0 ≤ x14_1) = true := decide_eq_true c6; clear c6
     by_cases c7 : x14_1 < (l1.length : Int)
     ·
      rw [if_pos c7] at H; have c7b0 := decide_eq_true c7; clear c7; replace H := Option.bind_eq_some_iff.mp H; obtain ⟨⟨t263, t266⟩, A80, H⟩ := H; replace H : (if t266 = true then (lw_run.l0 k1 l0 l1 t263 (l1.length : Int) (wrap64 (x14_1 + 1))) else (some (([] : List Int), false))) = some (r1, r2) := H; have A8 := zk A80; clear A80
      by_cases c9 : t266 = true
      ·
       subst c9
       have H1 : (lw_run.l0 k1 l0 l1 t263 (l1.length : Int) (wrap64 (x14_1 + 1))) = some (r1, r2) := by rw [if_pos rfl] at H; exact H
       clear H; have H := H1; clear H1; have H' := zk H; clear H
       try go_wp2
       have n0_ := zk (Kd.R_drew HO_6.out); have n1_ := zk (zD HB.out); clear HO_6; clear HB; have HO_6 := n0_; have HB := n1_; clear n0_ n1_; have p261 : 0 ≤ (x14_1 : Int) := zo (by assumption); have q261 : x14_1 < (l1.length : Int) := zo (by assumption); obtain ⟨ad261, e261, hx261_0, hx261_1⟩ := at_T36 HR1.out x14_1 p261 q261; have hw261_1 := hx261_1; have hw261_0 := hx261_0; cases e261; replace hx261_0 := zB HB hx261_0; replace hx261_1 := zB HB hx261_1; replace p261 := eq_true p261; replace q261 := eq_true q261; have p262 : 0 ≤ (x14_1 : Int) := zo (by assumption); have q262 : x14_1 < (l1.length : Int) := zo (by assumption); obtain ⟨ad262, e262, hx262_0, hx262_1⟩ := at_T36 HR1.out x14_1 p262 q262; have hw262_1 := hx262_1; have hw262_0 := hx262_0; obtain rfl : ad261 = ad262 := (by injection e262); replace hx262_0 := zB HB hx262_0; replace hx262_1 := zB HB hx262_1; replace p262 := eq_true p262; replace q262 := eq_true q262; obtain ⟨Ao11, co11, eo11⟩ := Kd.R_slice HO_6.out
       (first | subst eo11 | (injection eo11 with f1_ f2_ f3_; have f4_ := f1_.symm; have f5_ := f3_.symm; clear f1_ f2_ f3_; subst f4_; subst f5_))
       refine start_ (n := 20) (S := fun w' => w'.cell? (ad261.add ((x14_1).toNat * 2)) = some (.int .i64 ((rd_T36 l1 x14_1).f0)) ∧ w'.cell? ⟨(ad261.add ((x14_1).toNat * 2)).block, (ad261.add ((x14_1).toNat * 2)).off + 1, none⟩ = some (.int .i64 ((rd_T36 l1 x14_1).f1)) ∧ w'.cell? (ad261.add ((x14_1).toNat * 2)) = some (.int .i64 ((rd_T36 l1 x14_1).f0)) ∧ w'.cell? ⟨(ad261.add ((x14_1).toNat * 2)).block, (ad261.add ((x14_1).toNat * 2)).off + 1, none⟩ = some (.int .i64 ((rd_T36 l1 x14_1).f1))) (ds := []) #[F,F,F,F,F,F,F,F,F,F,F,F,F,F,F,F,F,F,F,F] (by kernel_rfl) rfl rfl ⟨(zB HB hw261_0), (zB HB hw261_1), (zB HB hw262_0), (zB HB hw262_1)⟩ (fun hHeld => ?_); refine with_tabW lw_run.tab5 lw_run.bits5 (fun HT_ HW_ => ?_); generalize wr.drew = w10 at HO_6 HB hx261_0 hx261_1 hx262_0 hx262_1 hHeld ⊢; refine pure_ (i := 0) (N := some 18) (v := ?_) (a' := ?_) #[T,F,F,F,F,F,F,F,F,F,F,F,F,F,F,F,F,F,F,F] rfl rfl (any_of HT_.out (by kernel_rfl)) (fun _ _ _ h => h) (Or.inl ⟨by rfl, ?_⟩) ?_ ?_; rotate_left; (intro w'; go_simp; (with_reducible rfl)); rotate_left; (simp only [Act.put, zt, zu, zv, i64_w, i32_w]; rfl); refine pure_ (i := 1) (N := some 19) (v := ?_) (a' := ?_) #[T,T,F,F,F,F,F,F,F,F,F,F,F,F,F,F,F,F,F,F] rfl rfl (any_of HT_.out (by kernel_rfl)) (fun _ _ _ h => h) (Or.inl ⟨by rfl, ?_⟩) ?_ ?_; rotate_left; (intro w'; go_simp; (with_reducible rfl)); rotate_left; (simp only [Act.put, zt, zu, zv, i64_w, i32_w]; rfl); refine pure_ (i := 2) (N := some 20) (v := ?_) (a' := ?_) #[T,T,T,F,F,F,F,F,F,F,F,F,F,F,F,F,F,F,F,F] rfl rfl (any_of HT_.out (by kernel_rfl)) (fun _ _ _ h => h) (Or.inl ⟨by rfl, ?_⟩) ?_ ?_; rotate_left; (intro w'; go_simp; (with_reducible rfl)); rotate_left; (simp only [Act.put, zt, zu, zv, i64_w, i32_w]; rfl); refine pure_ (i := 3) (N := some 21) (v := ?_) (a' := ?_) #[T,T,T,T,F,F,F,F,F,F,F,F,F,F,F,F,F,F,F,F] rfl rfl (any_of HT_.out (by kernel_rfl)) (fun _ _ _ h => h) (Or.inl ⟨by rfl, ?_⟩) ?_ ?_; rotate_left; (intro w'; go_simp; (with_reducible rfl)); rotate_left; (simp only [Act.put, zt, zu, zv, i64_w, i32_w]; rfl); refine pure_ (i := 4) (N := some 22) (v := ?_) (a' := ?_) #[T,T,T,T,T,F,F,F,F,F,F,F,F,F,F,F,F,F,F,F] rfl rfl (any_of HT_.out (by kernel_rfl)) (fun _ _ _ h => h) (Or.inl ⟨by rfl, ?_⟩) ?_ ?_; rotate_left; (intro w'; go_simp; (with_reducible rfl)); rotate_left; (simp only [Act.put, zt, zu, zv, i64_w, i32_w]; rfl); refine pure_ (i := 6) (N := some 24) (v := ?_) (a' := ?_) #[T,T,T,T,T,F,T,F,F,F,F,F,F,F,F,F,F,F,F,F] rfl rfl (any_of HT_.out (by kernel_rfl)) (fun _ _ _ h => h) (Or.inl ⟨by rfl, ?_⟩) ?_ ?_; rotate_left; (intro w'; go_simp; (with_reducible rfl)); rotate_left; (simp only [Act.put, zt, zu, zv, i64_w, i32_w]; rfl); refine pure_ (i := 7) (N := some 25) (v := ?_) (a' := ?_) #[T,T,T,T,T,F,T,T,F,F,F,F,F,F,F,F,F,F,F,F] rfl rfl (any_of HT_.out (by kernel_rfl)) (fun _ _ _ h => h) (Or.inl ⟨by rfl, ?_⟩) ?_ ?_; rotate_left; (intro w'; go_simp; (with_reducible rfl)); rotate_left; (simp only [Act.put, zt, zu, zv, i64_w, i32_w]; rfl); refine pure_ (i := 8) (N := some 26) (v := ?_) (a' := ?_) #[T,T,T,T,T,F,T,T,T,F,F,F,F,F,F,F,F,F,F,F] rfl rfl (any_of HT_.out (by kernel_rfl)) (fun _ _ _ h => h) (Or.inl ⟨by rfl, ?_⟩) ?_ ?_; rotate_left; (intro w'; go_simp; (with_reducible rfl)); rotate_left; (simp only [Act.put, zt, zu, zv, i64_w, i32_w]; rfl); refine pure_ (i := 9) (N := some 27) (v := ?_) (a' := ?_) #[T,T,T,T,T,F,T,T,T,T,F,F,F,F,F,F,F,F,F,F] rfl rfl (any_of HT_.out (by kernel_rfl)) (fun _ _ _ h => h) (Or.inl ⟨by rfl, ?_⟩) ?_ ?_; rotate_left; (intro w'; go_simp; (with_reducible rfl)); rotate_left; (simp only [Act.put, zt, zu, zv, i64_w, i32_w]; rfl); refine pure_ (i := 12) (N := some 30) (v := ?_) (a' := ?_) #[T,T,T,T,T,F,T,T,T,T,F,F,T,F,F,F,F,F,F,F] rfl rfl (any_of HT_.out (by kernel_rfl)) (fun _ _ _ h => h) (Or.inl ⟨by rfl, ?_⟩) ?_ ?_; rotate_left; (intro w'; go_simp; (with_reducible rfl)); rotate_left; (simp only [Act.put, zt, zu, zv, i64_w, i32_w]; rfl); refine pure_ (i := 13) (N := some 31) (v := ?_) (a' := ?_) #[T,T,T,T,T,F,T,T,T,T,F,F,T,T,F,F,F,F,F,F] rfl rfl (any_of HT_.out (by kernel_rfl)) (fun _ _ _ h => h) (Or.inl ⟨by rfl, ?_⟩) ?_ ?_; rotate_left; (intro w'; go_simp; (with_reducible rfl)); rotate_left; (simp only [Act.put, zt, zu, zv, i64_w, i32_w]; rfl); refine take_ (i := 5) (N := some 23) (v := ?_) (a' := ?_) #[T,T,T,T,T,T,T,T,T,T,F,F,T,T,F,F,F,F,F,F] rfl rfl (take_ofW HT_.out HW_.out (by kernel_rfl)) (fun _ _ _ h => h) (Or.inl ⟨by rfl, ?_⟩) hHeld ?_ ?_; rotate_left; (rintro w' ⟨s0, s1, s2, s3⟩; go_simp; (with_reducible rfl)); rotate_left; (simp only [Act.put, zt, zu, zv, i64_w, i32_w]; rfl); refine take_ (i := 10) (N := some 28) (v := ?_) (a' := ?_) #[T,T,T,T,T,T,T,T,T,T,T,F,T,T,F,F,F,F,F,F] rfl rfl (take_ofW HT_.out HW_.out (by kernel_rfl)) (fun _ _ _ h => h) (Or.inl ⟨by rfl, ?_⟩) hHeld ?_ ?_; rotate_left; (rintro w' ⟨s0, s1, s2, s3⟩; go_simp; (with_reducible rfl)); rotate_left; (simp only [Act.put, zt, zu, zv, i64_w, i32_w]; rfl); refine pure_ (i := 11) (N := some 29) (v := ?_) (a' := ?_) #[T,T,T,T,T,T,T,T,T,T,T,T,T,T,F,F,F,F,F,F] rfl rfl (any_of HT_.out (by kernel_rfl)) (fun _ _ _ h => h) (Or.inl ⟨by rfl, ?_⟩) ?_ ?_; rotate_left; (intro w'; go_simp; (with_reducible rfl)); rotate_left; (simp only [Act.put, zt, zu, zv, i64_w, i32_w]; rfl); refine one_ (i := 14) (N := some 32) #[T,T,T,T,T,T,T,T,T,T,T,T,T,T,T,F,F,F,F,F] rfl rfl (one_of HT_.out (by kernel_rfl)) (by decide) (fun K hK => ?_); refine goes_ Try.func26 (by kernel_rfl) rfl #[.slice Ao11 x6_1.length co11, .agg #[.int .i64 ((rd_T36 l1 x14_1).f0), .int .i64 ((rd_T36 l1 x14_1).f1)], .int .i64 (l0.length : Int)] (by rfl) rfl rfl (by (try simp only [List.map_toArray, List.map_cons, List.map_nil]); first | done | rfl | (simp only [List.length_drop, List.length_take]; rfl)) ?_
       with_reducible refine (r08_One.calls k1 _ _ x6_1 ((rd_T36 l1 x14_1).f0) ((rd_T36 l1 x14_1).f1) (l0.length : Int) t263 true _ ?side1 ?side2 A8.out).mono ?_
       (case side1 => repeat (first | exact (Kd.R_reads' HO_6.out).2.2 | (with_reducible refine Kd.C_alloc ?_ _) | (with_reducible refine Kd.C_drewN ?_ _) | (with_reducible refine Kd.C_drew ?_)))
       (case side2 => exact (Kd.R_reads' HO_6.out).2.1)
       rintro e w12 ⟨v264, rfl, ho0, hb⟩; refine ⟨_, rfl, ?_⟩; have n0_ := zk (Kd.R_elder' (by (with_reducible repeat (first | apply Kd.R_alloc | apply Kd.R_drewN | apply Kd.R_drew)); exact HO_6.out) (Kd.R_base ho0) hb); have n1_ := zk (Kd.R_lower (Kd.R_new' ho0 (Kd.R_lt (by (with_reducible repeat (first | apply Kd.R_alloc | apply Kd.R_drewN | apply Kd.R_drew)); exact HO_6.out))) (zq (by with_reducible repeat first | exact HB.out | apply zA | apply zN | apply zD))); have n2_ := zk (zs (by with_reducible repeat first | exact HB.out | apply zA | apply zN | apply zD) hb); clear HO_6; clear HB; have HO_6 := n0_; have HO265 := n1_; have HB := n2_; clear n0_ n1_ n2_
       (try clear hb)
       (try clear hb2)
       (try clear hk)
       (try clear hi)
       (try clear ho0)
       refine hK.out _ _ ⟨(zB HB hw261_0), (zB HB hw261_1), (zB HB hw262_0), (zB HB hw262_1)⟩ (fun hHeld => ?_); clear hK K; refine norm_ (a' := ?_) ?_ ?_; rotate_left
       ·
        show Act.put _ (some 32) _ = _
        simp only [Act.put, zt, zu, zv, i64_w, i32_w]; rfl
       refine pure_ (i := 15) (N := some 17) (v := ?_) (a' := ?_) #[T,T,T,T,T,T,T,T,T,T,T,T,T,T,T,T,F,F,F,F] rfl rfl (any_of HT_.out (by kernel_rfl)) (fun _ _ _ h => h) (Or.inl ⟨by rfl, ?_⟩) ?_ ?_; rotate_left; (intro w'; go_simp; (with_reducible rfl)); rotate_left; (simp only [Act.put, zt, zu, zv, i64_w, i32_w]; rfl); refine pure_ (i := 16) (N := some 33) (v := ?_) (a' := ?_) #[T,T,T,T,T,T,T,T,T,T,T,T,T,T,T,T,T,F,F,F] rfl rfl (any_of HT_.out (by kernel_rfl)) (fun _ _ _ h => h) (Or.inl ⟨by rfl, ?_⟩) ?_ ?_; rotate_left; (intro w'; go_simp; (with_reducible rfl)); rotate_left; (simp only [Act.put, zt, zu, zv, i64_w, i32_w]; rfl); refine pure_ (i := 17) (N := some 34) (v := ?_) (a' := ?_) #[T,T,T,T,T,T,T,T,T,T,T,T,T,T,T,T,T,T,F,F] rfl rfl (any_of HT_.out (by kernel_rfl)) (fun _ _ _ h => h) (Or.inl ⟨by rfl, ?_⟩) ?_ ?_; rotate_left; (intro w'; go_simp; (with_reducible rfl)); rotate_left; (simp only [Act.put, zt, zu, zv, i64_w, i32_w]; rfl); refine pure_ (i := 18) (N := some 8) (v := ?_) (a' := ?_) #[T,T,T,T,T,T,T,T,T,T,T,T,T,T,T,T,T,T,T,F] rfl rfl (any_of HT_.out (by kernel_rfl)) (fun _ _ _ h => h) (Or.inl ⟨by rfl, ?_⟩) ?_ ?_; rotate_left; (intro w'; go_simp; (with_reducible rfl)); rotate_left; (simp only [Act.put, zt, zu, zv, i64_w, i32_w]; rfl); refine pure_ (i := 19) (N := some 9) (v := ?_) (a' := ?_) #[T,T,T,T,T,T,T,T,T,T,T,T,T,T,T,T,T,T,T,T] rfl rfl (any_of HT_.out (by kernel_rfl)) (fun _ _ _ h => h) (Or.inl ⟨by rfl, ?_⟩) ?_ ?_; rotate_left; (intro w'; go_simp; (with_reducible rfl)); rotate_left; (simp only [Act.put, zt, zu, zv, i64_w, i32_w]; rfl); refine done_ (done_of HT_.out (by kernel_rfl)) ?_
       try go_wp2
       go_roundg k1
       case measure => have := HK1.out; omega
       case rel => exact ⟨(t263), (wrap64 (x14_1 + 1)), (by first | rfl | (simp; done) | (simp [*]; done)), H', ⟨by have := HK1.out; omega⟩, ⟨by (with_reducible repeat (first | apply Kd.R_alloc | apply Kd.R_drewN | apply Kd.R_drew)); exact Kd.R_mono HO265.out (fun _ hk => trivial)⟩, ⟨by with_reducible repeat first | exact HB.out | apply zA | apply zN | apply zD⟩⟩
      ·
       replace c9 := Bool.eq_false_iff.mpr c9; subst c9
       have H1 : (some (([] : List Int), false)) = some (r1, r2) := by rw [if_neg (show ¬ (false = true) by decide)] at H; exact H
       clear H; have H := H1; clear H1; simp only [Option.some.injEq, Prod.mk.injEq] at H; obtain ⟨rfl, rfl⟩ := H
       try go_wp2
       have n0_ := zk (Kd.R_drew HO_6.out); have n1_ := zk (zD HB.out); clear HO_6; clear HB; have HO_6 := n0_; have HB := n1_; clear n0_ n1_; have p261 : 0 ≤ (x14_1 : Int) := zo (by assumption); have q261 : x14_1 < (l1.length : Int) := zo (by assumption); obtain ⟨ad261, e261, hx261_0, hx261_1⟩ := at_T36 HR1.out x14_1 p261 q261; have hw261_1 := hx261_1; have hw261_0 := hx261_0; cases e261; replace hx261_0 := zB HB hx261_0; replace hx261_1 := zB HB hx261_1; replace p261 := eq_true p261; replace q261 := eq_true q261; have p262 : 0 ≤ (x14_1 : Int) := zo (by assumption); have q262 : x14_1 < (l1.length : Int) := zo (by assumption); obtain ⟨ad262, e262, hx262_0, hx262_1⟩ := at_T36 HR1.out x14_1 p262 q262; have hw262_1 := hx262_1; have hw262_0 := hx262_0; obtain rfl : ad261 = ad262 := (by injection e262); replace hx262_0 := zB HB hx262_0; replace hx262_1 := zB HB hx262_1; replace p262 := eq_true p262; replace q262 := eq_true q262; obtain ⟨Ao14, co14, eo14⟩ := Kd.R_slice HO_6.out
       (first | subst eo14 | (injection eo14 with f1_ f2_ f3_; have f4_ := f1_.symm; have f5_ := f3_.symm; clear f1_ f2_ f3_; subst f4_; subst f5_))
       refine start_ (n := 20) (S := fun w' => w'.cell? (ad261.add ((x14_1).toNat * 2)) = some (.int .i64 ((rd_T36 l1 x14_1).f0)) ∧ w'.cell? ⟨(ad261.add ((x14_1).toNat * 2)).block, (ad261.add ((x14_1).toNat * 2)).off + 1, none⟩ = some (.int .i64 ((rd_T36 l1 x14_1).f1)) ∧ w'.cell? (ad261.add ((x14_1).toNat * 2)) = some (.int .i64 ((rd_T36 l1 x14_1).f0)) ∧ w'.cell? ⟨(ad261.add ((x14_1).toNat * 2)).block, (ad261.add ((x14_1).toNat * 2)).off + 1, none⟩ = some (.int .i64 ((rd_T36 l1 x14_1).f1))) (ds := []) #[F,F,F,F,F,F,F,F,F,F,F,F,F,F,F,F,F,F,F,F] (by kernel_rfl) rfl rfl ⟨(zB HB hw261_0), (zB HB hw261_1), (zB HB hw262_0), (zB HB hw262_1)⟩ (fun hHeld => ?_); refine with_tabW lw_run.tab5 lw_run.bits5 (fun HT_ HW_ => ?_); generalize wr.drew = w13 at HO_6 HB hx261_0 hx261_1 hx262_0 hx262_1 hHeld ⊢; refine pure_ (i := 0) (N := some 18) (v := ?_) (a' := ?_) #[T,F,F,F,F,F,F,F,F,F,F,F,F,F,F,F,F,F,F,F] rfl rfl (any_of HT_.out (by kernel_rfl)) (fun _ _ _ h => h) (Or.inl ⟨by rfl, ?_⟩) ?_ ?_; rotate_left; (intro w'; go_simp; (with_reducible rfl)); rotate_left; (simp only [Act.put, zt, zu, zv, i64_w, i32_w]; rfl); refine pure_ (i := 1) (N := some 19) (v := ?_) (a' := ?_) #[T,T,F,F,F,F,F,F,F,F,F,F,F,F,F,F,F,F,F,F] rfl rfl (any_of HT_.out (by kernel_rfl)) (fun _ _ _ h => h) (Or.inl ⟨by rfl, ?_⟩) ?_ ?_; rotate_left; (intro w'; go_simp; (with_reducible rfl)); rotate_left; (simp only [Act.put, zt, zu, zv, i64_w, i32_w]; rfl); refine pure_ (i := 2) (N := some 20) (v := ?_) (a' := ?_) #[T,T,T,F,F,F,F,F,F,F,F,F,F,F,F,F,F,F,F,F] rfl rfl (any_of HT_.out (by kernel_rfl)) (fun _ _ _ h => h) (Or.inl ⟨by rfl, ?_⟩) ?_ ?_; rotate_left; (intro w'; go_simp; (with_reducible rfl)); rotate_left; (simp only [Act.put, zt, zu, zv, i64_w, i32_w]; rfl); refine pure_ (i := 3) (N := some 21) (v := ?_) (a' := ?_) #[T,T,T,T,F,F,F,F,F,F,F,F,F,F,F,F,F,F,F,F] rfl rfl (any_of HT_.out (by kernel_rfl)) (fun _ _ _ h => h) (Or.inl ⟨by rfl, ?_⟩) ?_ ?_; rotate_left; (intro w'; go_simp; (with_reducible rfl)); rotate_left; (simp only [Act.put, zt, zu, zv, i64_w, i32_w]; rfl); refine pure_ (i := 4) (N := some 22) (v := ?_) (a' := ?_) #[T,T,T,T,T,F,F,F,F,F,F,F,F,F,F,F,F,F,F,F] rfl rfl (any_of HT_.out (by kernel_rfl)) (fun _ _ _ h => h) (Or.inl ⟨by rfl, ?_⟩) ?_ ?_; rotate_left; (intro w'; go_simp; (with_reducible rfl)); rotate_left; (simp only [Act.put, zt, zu, zv, i64_w, i32_w]; rfl); refine pure_ (i := 6) (N := some 24) (v := ?_) (a' := ?_) #[T,T,T,T,T,F,T,F,F,F,F,F,F,F,F,F,F,F,F,F] rfl rfl (any_of HT_.out (by kernel_rfl)) (fun _ _ _ h => h) (Or.inl ⟨by rfl, ?_⟩) ?_ ?_; rotate_left; (intro w'; go_simp; (with_reducible rfl)); rotate_left; (simp only [Act.put, zt, zu, zv, i64_w, i32_w]; rfl); refine pure_ (i := 7) (N := some 25) (v := ?_) (a' := ?_) #[T,T,T,T,T,F,T,T,F,F,F,F,F,F,F,F,F,F,F,F] rfl rfl (any_of HT_.out (by kernel_rfl)) (fun _ _ _ h => h) (Or.inl ⟨by rfl, ?_⟩) ?_ ?_; rotate_left; (intro w'; go_simp; (with_reducible rfl)); rotate_left; (simp only [Act.put, zt, zu, zv, i64_w, i32_w]; rfl); refine pure_ (i := 8) (N := some 26) (v := ?_) (a' := ?_) #[T,T,T,T,T,F,T,T,T,F,F,F,F,F,F,F,F,F,F,F] rfl rfl (any_of HT_.out (by kernel_rfl)) (fun _ _ _ h => h) (Or.inl ⟨by rfl, ?_⟩) ?_ ?_; rotate_left; (intro w'; go_simp; (with_reducible rfl)); rotate_left; (simp only [Act.put, zt, zu, zv, i64_w, i32_w]; rfl); refine pure_ (i := 9) (N := some 27) (v := ?_) (a' := ?_) #[T,T,T,T,T,F,T,T,T,T,F,F,F,F,F,F,F,F,F,F] rfl rfl (any_of HT_.out (by kernel_rfl)) (fun _ _ _ h => h) (Or.inl ⟨by rfl, ?_⟩) ?_ ?_; rotate_left; (intro w'; go_simp; (with_reducible rfl)); rotate_left; (simp only [Act.put, zt, zu, zv, i64_w, i32_w]; rfl); refine pure_ (i := 12) (N := some 30) (v := ?_) (a' := ?_) #[T,T,T,T,T,F,T,T,T,T,F,F,T,F,F,F,F,F,F,F] rfl rfl (any_of HT_.out (by kernel_rfl)) (fun _ _ _ h => h) (Or.inl ⟨by rfl, ?_⟩) ?_ ?_; rotate_left; (intro w'; go_simp; (with_reducible rfl)); rotate_left; (simp only [Act.put, zt, zu, zv, i64_w, i32_w]; rfl); refine pure_ (i := 13) (N := some 31) (v := ?_) (a' := ?_) #[T,T,T,T,T,F,T,T,T,T,F,F,T,T,F,F,F,F,F,F] rfl rfl (any_of HT_.out (by kernel_rfl)) (fun _ _ _ h => h) (Or.inl ⟨by rfl, ?_⟩) ?_ ?_; rotate_left; (intro w'; go_simp; (with_reducible rfl)); rotate_left; (simp only [Act.put, zt, zu, zv, i64_w, i32_w]; rfl); refine take_ (i := 5) (N := some 23) (v := ?_) (a' := ?_) #[T,T,T,T,T,T,T,T,T,T,F,F,T,T,F,F,F,F,F,F] rfl rfl (take_ofW HT_.out HW_.out (by kernel_rfl)) (fun _ _ _ h => h) (Or.inl ⟨by rfl, ?_⟩) hHeld ?_ ?_; rotate_left; (rintro w' ⟨s0, s1, s2, s3⟩; go_simp; (with_reducible rfl)); rotate_left; (simp only [Act.put, zt, zu, zv, i64_w, i32_w]; rfl); refine take_ (i := 10) (N := some 28) (v := ?_) (a' := ?_) #[T,T,T,T,T,T,T,T,T,T,T,F,T,T,F,F,F,F,F,F] rfl rfl (take_ofW HT_.out HW_.out (by kernel_rfl)) (fun _ _ _ h => h) (Or.inl ⟨by rfl, ?_⟩) hHeld ?_ ?_; rotate_left; (rintro w' ⟨s0, s1, s2, s3⟩; go_simp; (with_reducible rfl)); rotate_left; (simp only [Act.put, zt, zu, zv, i64_w, i32_w]; rfl); refine pure_ (i := 11) (N := some 29) (v := ?_) (a' := ?_) #[T,T,T,T,T,T,T,T,T,T,T,T,T,T,F,F,F,F,F,F] rfl rfl (any_of HT_.out (by kernel_rfl)) (fun _ _ _ h => h) (Or.inl ⟨by rfl, ?_⟩) ?_ ?_; rotate_left; (intro w'; go_simp; (with_reducible rfl)); rotate_left; (simp only [Act.put, zt, zu, zv, i64_w, i32_w]; rfl); refine one_ (i := 14) (N := some 32) #[T,T,T,T,T,T,T,T,T,T,T,T,T,T,T,F,F,F,F,F] rfl rfl (one_of HT_.out (by kernel_rfl)) (by decide) (fun K hK => ?_); refine goes_ Try.func26 (by kernel_rfl) rfl #[.slice Ao14 x6_1.length co14, .agg #[.int .i64 ((rd_T36 l1 x14_1).f0), .int .i64 ((rd_T36 l1 x14_1).f1)], .int .i64 (l0.length : Int)] (by rfl) rfl rfl (by (try simp only [List.map_toArray, List.map_cons, List.map_nil]); first | done | rfl | (simp only [List.length_drop, List.length_take]; rfl)) ?_
       with_reducible refine (r08_One.calls k1 _ _ x6_1 ((rd_T36 l1 x14_1).f0) ((rd_T36 l1 x14_1).f1) (l0.length : Int) t263 false _ ?side1 ?side2 A8.out).mono ?_
       (case side1 => repeat (first | exact (Kd.R_reads' HO_6.out).2.2 | (with_reducible refine Kd.C_alloc ?_ _) | (with_reducible refine Kd.C_drewN ?_ _) | (with_reducible refine Kd.C_drew ?_)))
       (case side2 => exact (Kd.R_reads' HO_6.out).2.1)
       rintro e w15 ⟨v264, rfl, ho0, hb⟩; refine ⟨_, rfl, ?_⟩; have n0_ := zk (Kd.R_elder' (by (with_reducible repeat (first | apply Kd.R_alloc | apply Kd.R_drewN | apply Kd.R_drew)); exact HO_6.out) (Kd.R_base ho0) hb); have n1_ := zk (Kd.R_lower (Kd.R_new' ho0 (Kd.R_lt (by (with_reducible repeat (first | apply Kd.R_alloc | apply Kd.R_drewN | apply Kd.R_drew)); exact HO_6.out))) (zq (by with_reducible repeat first | exact HB.out | apply zA | apply zN | apply zD))); have n2_ := zk (zs (by with_reducible repeat first | exact HB.out | apply zA | apply zN | apply zD) hb); clear HO_6; clear HB; have HO_6 := n0_; have HO265 := n1_; have HB := n2_; clear n0_ n1_ n2_
       (try clear hb)
       (try clear hb2)
       (try clear hk)
       (try clear hi)
       (try clear ho0)
       refine hK.out _ _ ⟨(zB HB hw261_0), (zB HB hw261_1), (zB HB hw262_0), (zB HB hw262_1)⟩ (fun hHeld => ?_); clear hK K; refine norm_ (a' := ?_) ?_ ?_; rotate_left
       ·
        show Act.put _ (some 32) _ = _
        simp only [Act.put, zt, zu, zv, i64_w, i32_w]; rfl
       refine pure_ (i := 15) (N := some 17) (v := ?_) (a' := ?_) #[T,T,T,T,T,T,T,T,T,T,T,T,T,T,T,T,F,F,F,F] rfl rfl (any_of HT_.out (by kernel_rfl)) (fun _ _ _ h => h) (Or.inl ⟨by rfl, ?_⟩) ?_ ?_; rotate_left; (intro w'; go_simp; (with_reducible rfl)); rotate_left; (simp only [Act.put, zt, zu, zv, i64_w, i32_w]; rfl); refine pure_ (i := 16) (N := some 33) (v := ?_) (a' := ?_) #[T,T,T,T,T,T,T,T,T,T,T,T,T,T,T,T,T,F,F,F] rfl rfl (any_of HT_.out (by kernel_rfl)) (fun _ _ _ h => h) (Or.inl ⟨by rfl, ?_⟩) ?_ ?_; rotate_left; (intro w'; go_simp; (with_reducible rfl)); rotate_left; (simp only [Act.put, zt, zu, zv, i64_w, i32_w]; rfl); refine pure_ (i := 17) (N := some 34) (v := ?_) (a' := ?_) #[T,T,T,T,T,T,T,T,T,T,T,T,T,T,T,T,T,T,F,F] rfl rfl (any_of HT_.out (by kernel_rfl)) (fun _ _ _ h => h) (Or.inl ⟨by rfl, ?_⟩) ?_ ?_; rotate_left; (intro w'; go_simp; (with_reducible rfl)); rotate_left; (simp only [Act.put, zt, zu, zv, i64_w, i32_w]; rfl); refine pure_ (i := 18) (N := some 8) (v := ?_) (a' := ?_) #[T,T,T,T,T,T,T,T,T,T,T,T,T,T,T,T,T,T,T,F] rfl rfl (any_of HT_.out (by kernel_rfl)) (fun _ _ _ h => h) (Or.inl ⟨by rfl, ?_⟩) ?_ ?_; rotate_left; (intro w'; go_simp; (with_reducible rfl)); rotate_left; (simp only [Act.put, zt, zu, zv, i64_w, i32_w]; rfl); refine pure_ (i := 19) (N := some 9) (v := ?_) (a' := ?_) #[T,T,T,T,T,T,T,T,T,T,T,T,T,T,T,T,T,T,T,T] rfl rfl (any_of HT_.out (by kernel_rfl)) (fun _ _ _ h => h) (Or.inl ⟨by rfl, ?_⟩) ?_ ?_; rotate_left; (intro w'; go_simp; (with_reducible rfl)); rotate_left; (simp only [Act.put, zt, zu, zv, i64_w, i32_w]; rfl); refine done_ (done_of HT_.out (by kernel_rfl)) ?_
       try go_wp2
       go_ret2
       exact ⟨_, by first | rfl | (simp [wN, wS] <;> rfl) | (simp [*, wN, wS] <;> rfl), by first | exact Kd.R_nil _ _ _ _ _ | exact Kd.N_nil _ _ _ _ _ | exact Kd.V_nil _ _ _ _ _ | exact Kd.Q_nil _ _ _ _ _ | exact Kd.S_nil _ _ _ _ _, by with_reducible repeat first | exact HB.out | apply zA | apply zN | apply zD⟩
     ·
      rw [if_neg c7] at H; exact absurd H (by simp)
    ·
     rw [if_neg c6] at H; exact absurd H (by simp)
   ·
    rw [if_neg c5] at H; have c5b0 : decide (x14_1 < (l1.length : Int)) = false := decide_eq_false c5; clear c5; simp only [Option.some.injEq, Prod.mk.injEq] at H; obtain ⟨rfl, rfl⟩ := H; go_wp2
    go_ret2
    exact ⟨_, by first | rfl | (simp [wN, wS] <;> rfl) | (simp [*, wN, wS] <;> rfl), by (with_reducible repeat (first | apply Kd.R_alloc | apply Kd.R_drewN | apply Kd.R_drew)); exact HO_6.out, by with_reducible repeat first | exact HB.out | apply zA | apply zN | apply zD⟩
def lw_up.l0 : Nat → List Int → Int → Int → Int → Option (Bool)
  | 0, _, _, _, _ => none
  | k + 1, x0, x1, x7, x8 => if x8 < x7 then (if 0 ≤ x8 then (if x8 < (x0.length : Int) then (if (rd x0 x8) = x8 then (lw_up.l0 k x0 x1 x7 (wrap64 (x8 + 1))) else (some false)) else (none)) else (none)) else (some ((x0.length : Int) == x1))
def lw_up.f (k : Nat) (l0 : List Int) (a1 : Int) : Option (Bool) := lw_up.l0 k l0 a1 (l0.length : Int) 0
set_option maxHeartbeats 8000000 in
set_option maxRecDepth 100000 in
theorem lw_up.calls (k : Nat) (A0 : Option Addr) (c0 : Nat) (l0 : List Int) (a1 : Int) (r : Bool) (w : World) (hr0 : Kd.C (Kd.int .i64) w A0 l0.length l0) (hc0 : l0.length ≤ c0) (h : lw_up.f k l0 a1 = some r) :
    Calls Try.prog 18 #[.slice A0 l0.length c0, .int .i64 a1] w fun e w' => e = .returned (.bool r) ∧ Drawn0 w w' := by
  have HR0 := zk hr0; have HC0 := zk hc0; clear hr0 hc0; have H : (lw_up.l0 k l0 a1 (l0.length : Int) 0) = some r := h; clear h; have H' := zk H; clear H
  go_enter Try.func18, Try.ntmps18
  go_wp2
  go_loopg [8] k (fun kq v8 w' => ∃ (x8_1 : Int), v8 = .int .i64 x8_1 ∧ Aside0 (lw_up.l0 kq l0 a1 (l0.length : Int) x8_1 = some r) ∧ Aside0 (kq ≤ k) ∧ Drawn0 w w')
  case atStart => exact ⟨(0), (by first | rfl | (simp; done) | (simp [*]; done)), H', ⟨Nat.le_refl _⟩, by repeat (first | exact Drawn0.refl _ | apply Drawn0.step)⟩
  case round =>
    clear H'; (try clear c1); (try clear p2); obtain ⟨x8_1, rfl, HA, HK1, ⟨m1, rfl⟩⟩ := hrel
    cases gk with
    | zero => exact absurd HA.out (by simp [lw_up.l0])
    | succ k1 =>
      have H := HA.out; clear HA; simp only [lw_up.l0] at H
      by_cases c3 : x8_1 < (l0.length : Int)
      · rw [if_pos c3] at H
        have c3b0 := decide_eq_true c3
        clear c3
        by_cases c4 : 0 ≤ x8_1
        · rw [if_pos c4] at H
          have c4b0 := decide_eq_true c4
          clear c4
          by_cases c5 : x8_1 < (l0.length : Int)
          · rw [if_pos c5] at H
            have c5b0 : decide (x8_1 < (l0.length : Int)) = true := decide_eq_true c5
            clear c5
            by_cases c6 : (rd l0 x8_1) = x8_1
            · rw [if_pos c6] at H
              have c6b0 : ((rd l0 x8_1) == x8_1) = true := beq_iff_eq.mpr c6
              have c6b1 : ((rd l0 x8_1) != x8_1) = false := bne_eq_false_iff_eq.mpr c6
              clear c6
              have H' := zk H
              clear H
              have p267 : 0 ≤ (x8_1 : Int) := zo (by assumption)
              have q267 : x8_1 < (l0.length : Int) := zo (by assumption)
              obtain ⟨ad267, e267, hx267_0⟩ := Kd.at_int HR0.out x8_1 p267 q267
              cases e267
              replace p267 := eq_true p267
              replace q267 := eq_true q267
              go_wp2
              go_roundg k1
              case measure => have := HK1.out; omega
              case rel => exact ⟨(wrap64 (x8_1 + 1)), (by first | rfl | (simp; done) | (simp [*]; done)), H', ⟨by have := HK1.out; omega⟩, by repeat (first | exact Drawn0.refl _ | apply Drawn0.step)⟩
            · rw [if_neg c6] at H
              have c6b0 : ((rd l0 x8_1) == x8_1) = false := beq_eq_false_iff_ne.mpr c6
              have c6b1 : ((rd l0 x8_1) != x8_1) = true := bne_iff_ne.mpr c6
              obtain rfl := Option.some.inj H
              have p267 : 0 ≤ (x8_1 : Int) := zo (by assumption)
              have q267 : x8_1 < (l0.length : Int) := zo (by assumption)
              obtain ⟨ad267, e267, hx267_0⟩ := Kd.at_int HR0.out x8_1 p267 q267
              cases e267
              replace p267 := eq_true p267
              replace q267 := eq_true q267
              go_wp2
              go_ret
              exact ⟨by first | rfl | (simp; done) | (simp [*]; done), by repeat (first | exact Drawn0.refl _ | apply Drawn0.step)⟩
          · rw [if_neg c5] at H
            exact absurd H (by simp)
        · rw [if_neg c4] at H
          exact absurd H (by simp)
      · rw [if_neg c3] at H
        have c3b0 := decide_eq_false c3; clear c3; obtain rfl := Option.some.inj H; go_wp2; go_ret; exact ⟨by first | rfl | (simp; done) | (simp [*]; done), by repeat (first | exact Drawn0.refl _ | apply Drawn0.step)⟩
end Go.Proofs.Ytconhodokldcbaa.G
namespace Go.Proofs.Ytconhodokldcbaa.G
open Go.RowKit Go.Proofs.Ytconhodokldcbaa.Opn Go.Proofs.YtconhodokldcbaaW.PrintWords
set_option linter.unusedVariables false
set_option maxRecDepth 100000
theorem at_slice2 {α : Type} {P : Program} {n : Nat} {T e : TypeId} {d : Kd α} {Sm : α → Prop} {B : Nat} (ht : P.underlying T = some (.slice e)) (hc : P.cellsOf e = d.sz) (hb : P.bytesOf e = B) (hd : ∀ m, m < n → At P m e d Sm) :
    At P n T (Kd.slice e d) (fun xs => xs.length * B ≤ 140737488351232 ∧ ∀ x ∈ xs, Sm x) := hb ▸ at_slice ht hc hd
structure Sm36 (x : S36) : Prop where
  h0 : (Lit.int .i64 x.f0).wf = true
  h1 : (Lit.int .i64 x.f1).wf = true
theorem at_S36 (n : Nat) : At Try.prog n 36 k36 Sm36 := by
  refine at_imp (at_iso (fun x : S36 => (x.f0, x.f1)) (fun p => ⟨p.1, p.2⟩) (fun _ => rfl) (at_struct (d := (Kd.pair (Kd.int .i64) (Kd.int .i64))) (Sm := fun (p : (Int) × (Int)) => (Lit.int .i64 p.1).wf = true ∧ (Lit.int .i64 p.2).wf = true) Try.underlying36 (by kernel_rfl) (fun m hm => ?h))) ?k ?s
  case h =>
    refine fields_cons (Sm := fun (q : Int) => (Lit.int .i64 q).wf = true) (Sm2 := fun (p : (Int)) => (Lit.int .i64 p).wf = true) ?_ ?_ ?_ ?_; (rfl)
    · kernel_rfl
    (exact (at_int Try.underlying3)); refine fields_one (Sm := fun (p : (Int)) => (Lit.int .i64 p).wf = true) ?_ ?_ ?_; (rfl)
    · kernel_rfl
    · exact (at_int Try.underlying3)
  case k => exact fun _ _ _ h => h
  case s => exact fun a h => ⟨h.1, h.2⟩
theorem weightsEach_head {H : Type} {P : Program} {t : TypeId} {ts : List TypeId} {d : DataW H} {ds : List (DataW H)} {q : Nat → Bool} (h : (DataW.weightsEach P (t :: ts) (d :: ds)).all q = true) : (d.weights P t).all q = true ∧ (DataW.weightsEach P ts ds).all q = true := by
  simpa only [DataW.weightsEach, List.all_append, Bool.and_eq_true] using h
end Go.Proofs.Ytconhodokldcbaa.G
namespace Go.Proofs.Ytconhodokldcbaa.G
open Go.RowKit Go.Proofs.YtconhodokldcbaaW.PrintWords Go.Proofs.YtconhodokldcbaaW.PrintLast Go.Proofs.YtconhodokldcbaaW.PrintMore
set_option linter.unusedVariables false
set_option linter.unusedSimpArgs false
def rd_L1 (xs : List (List Int)) (i : Int) : (List Int) := xs.getD i.toNat ([] : List Int)
theorem at_L1 {w : World} {A : Option Addr} {n : Nat} {xs : List (List Int)} (h : Kd.C (Kd.slice 3 (Kd.int .i64)) w A n xs) (i : Int) (h0 : 0 ≤ i) (h1 : i < n) : ∃ ad A0 c0, A = some ad ∧ w.cell? (ad.add i.toNat) = some (.slice A0 (rd_L1 xs i).length c0) ∧ (rd_L1 xs i).length ≤ c0 ∧ (Kd.int .i64).C w A0 (rd_L1 xs i).length (rd_L1 xs i) := by
  obtain ⟨ad, c, e, _, hK, hc0⟩ := Kd.C_get h ([] : List Int) i h0 h1; have hc : ∀ j u, c[j]? = some u → w.cell? (ad.add (i.toNat * 1 + j)) = some u := hc0; obtain ⟨A0, c0, rfl, l0, g0⟩ := hK; exact ⟨ad, A0, c0, e, by have hq := hc 0 _ rfl; rwa [Nat.mul_one, Nat.add_zero] at hq, l0, g0⟩
theorem reti {k : IntKind} {a b : Int} (h : a = b) : Ending.returned (.int k a) = .returned (.int k b) := by rw [h]
/-- The top of a pile. -/
def topOf (ps : List (List Int)) (i : Int) : Int := rd (rd_L1 ps i) ((rd_L1 ps i).length - 1)
/-- find's loop. -/
def findL : Nat → List Int → List (List Int) → Int → Int → Int → Int
  | 0, _, _, _, lo, _ => lo
  | k + 1, l, ps, n, lo, hi => if lo < hi then (if n ≤ rd l (topOf ps ((lo + hi) / 2)) then findL k l ps n lo ((lo + hi) / 2) else findL k l ps n ((lo + hi) / 2 + 1) hi) else lo
set_option maxHeartbeats 2000000 in
theorem find_calls (g : Nat) (ps : List (List Int)) (l : List Int) (Ap : Option Addr) (cp : Nat) (u1 : Value) (A1 : Option Addr) (c1 : Nat) (n : Int) (w : World)
    (hb : w.heap[g]? = some (.cells #[.slice Ap ps.length cp, u1] 54 (0, 0)))
    (hp : Kd.C (Kd.slice 3 (Kd.int .i64)) w Ap ps.length ps) (hl : Kd.C (Kd.int .i64) w A1 l.length l) (hlen : ps.length ≤ 9223372036854775) (hll : l.length ≤ 9223372036854775)
    (hne : ∀ i : Int, 0 ≤ i → i < ps.length → 0 < (rd_L1 ps i).length ∧ ((rd_L1 ps i).length : Int) ≤ 9223372036854775 ∧ 0 ≤ topOf ps i ∧ topOf ps i < l.length) :
    Calls Try.prog 38 #[.pointer (some ⟨g, 0, none⟩), .slice A1 l.length c1, .int .i64 n] w fun e w' => e = .returned (.int .i64 (findL ps.length l ps n 0 ps.length)) ∧ Drawn0 w w' := by
  have hc0 : w.cell? ⟨g, 0, none⟩ = some (.slice Ap ps.length cp) := (zC hb 0).trans rfl; have HP := Aside0.mk hp; have HL := Aside0.mk hl; have HN := Aside0.mk hne; clear hb hp hl hne
  go_enter Try.func38, Try.ntmps38
  go_wp2_with fail
  go_step3
  go_wp2_with fail
  go_quiet (fail)
  go_wp2_with fail
  go_step3
  go_wp2_with fail
  go_loopg [7, 8] ps.length (fun k v7 v8 w' => ∃ (lo hi : Int), v7 = .int .i64 lo ∧ v8 = .int .i64 hi ∧ Aside0 (0 ≤ lo ∧ lo ≤ hi ∧ hi ≤ ps.length ∧ hi - lo ≤ k ∧ findL k l ps n lo hi = findL ps.length l ps n 0 ps.length) ∧ Drawn0 w w')
  case atStart => exact ⟨0, ps.length, rfl, rfl, ⟨by omega, by omega, by omega, by omega, rfl⟩, ⟨_, rfl⟩⟩
  case round =>
    obtain ⟨lo, hi, rfl, rfl, HI, ⟨m, rfl⟩⟩ := hrel
    by_cases hlt : lo < hi
    · cases gk with
      | zero => exact absurd HI.out (by omega)
      | succ k =>
        have h1 : 0 ≤ lo := HI.out.1
        have h2 : hi ≤ 9223372036854775 := by have := HI.out; omega
        have m0 : 0 ≤ (lo + hi) / 2 := by omega
        have m1 : (lo + hi) / 2 < ps.length := by have := HI.out; omega
        obtain ⟨a0, a1, a2, a3⟩ := HN.out _ m0 m1; obtain ⟨ad, A0, c0, e, hx, hl0, hi0⟩ := at_L1 HP.out _ m0 m1; cases e
        have b0 : 0 ≤ ((rd_L1 ps ((lo + hi) / 2)).length : Int) - 1 := by omega
        have b1 : ((rd_L1 ps ((lo + hi) / 2)).length : Int) - 1 < (rd_L1 ps ((lo + hi) / 2)).length := by omega
        obtain ⟨ad2, e2, hx2⟩ := Kd.at_int hi0 _ b0 b1; cases e2; obtain ⟨ad3, e3, hx3⟩ := Kd.at_int HL.out (topOf ps ((lo + hi) / 2)) a2 a3; cases e3
        have hx4 : w.cell? (ad2.add ((rd_L1 ps ((lo + hi) / 2)).length - 1)) = some (.int .i64 (topOf ps ((lo + hi) / 2))) := by
          rw [show (rd_L1 ps ((lo + hi) / 2)).length - 1 = (((rd_L1 ps ((lo + hi) / 2)).length : Int) - 1).toNat from by omega]; exact hx2
        clear hx2 hi0; have HF : Aside0 (findL (k + 1) l ps n lo hi = if n ≤ rd l (topOf ps ((lo + hi) / 2)) then findL k l ps n lo ((lo + hi) / 2) else findL k l ps n ((lo + hi) / 2 + 1) hi) := ⟨by rw [findL, if_pos hlt]⟩
        by_cases hge : n ≤ rd l (topOf ps ((lo + hi) / 2))
        · go_wp2_with fail
          go_roundg k
          case measure => omega
          case rel =>
            refine ⟨lo, (lo + hi) / 2, rfl, rfl, ⟨?_⟩, ⟨_, rfl⟩⟩; have h := HI.out; have f := HF.out; rw [if_pos hge] at f; rw [f] at h; exact ⟨by omega, by omega, by omega, by omega, h.2.2.2.2⟩
        · go_wp2_with fail
          go_roundg k
          case measure => omega
          case rel =>
            refine ⟨(lo + hi) / 2 + 1, hi, rfl, rfl, ⟨?_⟩, ⟨_, rfl⟩⟩; have h := HI.out; have f := HF.out; rw [if_neg (by omega)] at f; rw [f] at h; exact ⟨by omega, by omega, by omega, by omega, h.2.2.2.2⟩
    · have HF : Aside0 (findL gk l ps n lo hi = lo) := ⟨by cases gk <;> simp [findL, hlt]⟩
      go_wp2_with fail
      go_ret
      exact ⟨reti (by rw [← HI.out.2.2.2.2, HF.out]), ⟨_, rfl⟩⟩
/-- The top of pile j, or -1. -/
def topAt (ps : List (List Int)) (j : Int) : Int := if j < 0 then -1 else if (ps.length : Int) ≤ j then -1 else topOf ps j
set_option maxHeartbeats 2000000 in
theorem top_calls (g : Nat) (ps : List (List Int)) (Ap : Option Addr) (cp : Nat) (u1 : Value) (j : Int) (w : World)
    (hb : w.heap[g]? = some (.cells #[.slice Ap ps.length cp, u1] 54 (0, 0)))
    (hp : Kd.C (Kd.slice 3 (Kd.int .i64)) w Ap ps.length ps)
    (hne : 0 ≤ j → j < ps.length → 0 < (rd_L1 ps j).length ∧ ((rd_L1 ps j).length : Int) ≤ 9223372036854775) :
    Calls Try.prog 28 #[.pointer (some ⟨g, 0, none⟩), .int .i64 j] w fun e w' => e = .returned (.int .i64 (topAt ps j)) ∧ w' = w := by
  have hc0 : w.cell? ⟨g, 0, none⟩ = some (.slice Ap ps.length cp) := (zC hb 0).trans rfl; have HP := Aside0.mk hp; have HN := Aside0.mk hne; clear hb hp hne
  by_cases h0 : j < 0
  · have HE := Aside0.mk (show topAt ps j = -1 by rw [topAt, if_pos h0])
    go_enter Try.func28, Try.ntmps28
    go_wp2_with fail
    go_ret
    exact ⟨reti HE.out.symm, rfl⟩
  by_cases h1 : (ps.length : Int) ≤ j
  · have HE := Aside0.mk (show topAt ps j = -1 by rw [topAt, if_neg h0, if_pos h1])
    go_enter Try.func28, Try.ntmps28
    go_wp2_with fail
    go_ret
    exact ⟨reti HE.out.symm, rfl⟩
  obtain ⟨a0, a1⟩ := HN.out (by omega) (by omega); obtain ⟨ad, A0, c0, e, hx, hl0, hi0⟩ := at_L1 HP.out j (by omega) (by omega); cases e; obtain ⟨ad2, e2, hx2⟩ := Kd.at_int hi0 ((rd_L1 ps j).length - 1) (by omega) (by omega); cases e2
  have hx4 : w.cell? (ad2.add ((rd_L1 ps j).length - 1)) = some (.int .i64 (topOf ps j)) := by
    rw [show (rd_L1 ps j).length - 1 = (((rd_L1 ps j).length : Int) - 1).toNat from by omega]; exact hx2
  clear hx2 hi0; have HE := Aside0.mk (show topAt ps j = topOf ps j by rw [topAt, if_neg h0, if_neg h1])
  go_enter Try.func28, Try.ntmps28
  go_wp2_with fail
  go_ret; exact ⟨reti HE.out.symm, rfl⟩
theorem hinfo3 : (Try.prog.info? 3).map (fun i => (i.zero, i.size, i.bytes)) = some (some (.int .i64 0), 1, 8) := by kernel_rfl
theorem hinfo22 : (Try.prog.info? 22).map (fun i => (i.zero, i.size, i.bytes)) = some (some (.slice none 0 0), 1, 24) := by kernel_rfl
theorem Rint_at {k : IntKind} {e g n cap base : Nat} {W : World} {ok : Nat → Prop} {xs : List Int} (h : (Kd.int k).R e W base ok (.slice (some ⟨g, 0, none⟩) n cap) xs) (i : Nat) (hi : i < n) :
    W.cell? ⟨g, i, none⟩ = some (.int k (xs.getD i 0)) ∧ W.frozen? ⟨g, i, none⟩ = false := by
  have hn := (Kd.R_reads' h).1; obtain ⟨c, hcl, hM, hcc, hf⟩ := Kd.R_elem h 0 (i : Int) (by omega) (by omega); have hM : c = [.int k (xs.getD i 0)] := hM; subst hM; have h1 := hcc 0 _ rfl; have h2 := hf 0
  have e1 : (i : Int).toNat * (Kd.int k).sz + 0 = i := by show (i : Int).toNat * 1 + 0 = i; omega
  rw [e1] at h1 h2; exact ⟨h1, h2⟩
theorem Rint_store {k : IntKind} {e g n cap base : Nat} {W : World} {ok : Nat → Prop} {xs : List Int} (h : (Kd.int k).R e W base ok (.slice (some ⟨g, 0, none⟩) n cap) xs) (i : Nat) (x : Int) :
    (Kd.int k).R e (W.setCell ⟨g, i, none⟩ (.int k x)) base ok (.slice (some ⟨g, 0, none⟩) n cap) (xs.set i x) ∧ W.grownBy (W.setCell ⟨g, i, none⟩ (.int k x)) (some g) := by
  have hn := (Kd.R_reads' h).1; subst hn; have ho := Kd.own_of_R h; obtain ⟨a, b⟩ := own_store_of (enc := Value.int k) ho (i : Int) x; rw [Int.toNat_natCast] at a b; refine ⟨Kd.R_of_own (by rw [List.length_set]; exact a) (fun j hj => h.1 j hj), b⟩
section
variable {P : Program} {ops : Array Oper} {rest : List Oper} {o : Oper} {a : Act} {Q : Exit → Act → World → Prop}
/-- make([]T, n) of whole numbers, n a natural number: the slice written out. -/
theorem make_ints {w0 W : World} (base e : Nat) (k : IntKind) (bytes : Nat) (hgd : o.guard = none) {N : Tmp} (hd : o.dst = some N) (t : TypeId) (x y : Operand) (ho : o.op = .makeSlice t x y) (n : Nat) (hx : a.eval x = .int .i64 n) (hy : a.eval y = .int .i64 n)
    (ht : P.underlying t = some (.slice e)) (hinfo : (P.info? e).map (fun i => (i.zero, i.size, i.bytes)) = some (some (.int k 0), 1, bytes)) (hb0 : 0 < bytes) (hl : n * bytes ≤ 281474976710656) (HB : Below base w0 W) (hbase : base ≤ W.heap.size)
    (h : ∀ g c w1, Kd.R (Kd.int k) e w1 base (fun _ => True) (.slice (some ⟨g, 0, none⟩) n c) (List.replicate n 0) → W.heap.size ≤ g → g < w1.heap.size → Below W.heap.size W w1 → Below base w0 w1 → wpList P ops Q rest (a.put o.dst (.slice (some ⟨g, 0, none⟩) n c)) w1) : wpList P ops Q (o :: rest) a W := by
  refine Kd.R_make (Kd.int k) (w0 := w0) base e hgd hd t x y ho (n : Int) hx hy ht (.int k 0) bytes hinfo rfl (by show 0 < 1; omega) hb0 0 (ok := fun _ => True) (okp := fun _ => True) rfl (fun _ _ => trivial) trivial (by omega) (by rw [Int.toNat_natCast]; exact hl) HB hbase ?_; intro v1 w1 hR hB hg hb; rw [Int.toNat_natCast] at hR; obtain ⟨A, c, rfl⟩ := Kd.R_slice hR; obtain ⟨b, hb1, hb2⟩ := hb
  obtain ⟨ad, rfl⟩ : ∃ ad, A = some ad := by cases A with
    | none => simp [Value.ownBlock] at hb1
    | some ad => exact ⟨ad, rfl⟩
  obtain ⟨g, rfl⟩ := Kd.R_head hR
  obtain rfl : g = b := by simpa [Value.ownBlock] using hb1
  have hlt := Kd.R_lt hR g (by simp [Value.ownBlock]); rw [List.length_replicate] at hR ⊢; exact h g c w1 hR hb2 hlt ⟨hg.os, hg.tape, hg.output, hg.size, fun k hk => hg.block k hk (by simp)⟩ hB
end
/-- One place is laid. -/
def playStep (l : List Int) (st : List (List Int) × List Int) (i : Nat) : List (List Int) × List Int :=
  if rd l i < 0 then st else
    let k := findL st.1.length l st.1 (rd l i) 0 st.1.length
    let ps := if k = st.1.length then st.1 ++ [[]] else st.1
    (ps.set k.toNat (ps.getD k.toNat [] ++ [(i : Int)]), st.2.set i (topAt st.1 (k - 1)))
def playN (l : List Int) : Nat → List (List Int) × List Int
  | 0 => ([], List.replicate l.length 0)
  | i + 1 => playStep l (playN l i) i
/-- What is known of the piles behind i places. -/
structure PInv (l : List Int) (i : Nat) (ps : List (List Int)) (ah : List Int) : Prop where
  ahl : ah.length = l.length
  psl : ps.length ≤ i
  pile : ∀ p ∈ ps, 0 < p.length ∧ p.length ≤ i ∧ ∀ x ∈ p, 0 ≤ x ∧ x < i
theorem findL_range (l : List Int) (ps : List (List Int)) (n : Int) : ∀ (k : Nat) (lo hi : Int), lo ≤ hi → lo ≤ findL k l ps n lo hi ∧ findL k l ps n lo hi ≤ hi
  | 0, lo, hi, h => by simp [findL, h]
  | k + 1, lo, hi, h => by
    rw [findL]
    split
    · split
      · have := findL_range l ps n k lo ((lo + hi) / 2) (by omega); omega
      · have := findL_range l ps n k ((lo + hi) / 2 + 1) hi (by omega); omega
    · omega
theorem PInv.at_ {l : List Int} {i : Nat} {ps : List (List Int)} {ah : List Int} (h : PInv l i ps ah) (hi : i ≤ l.length) (j : Int) (h0 : 0 ≤ j) (h1 : j < ps.length) :
    0 < (rd_L1 ps j).length ∧ ((rd_L1 ps j).length : Int) ≤ i ∧ 0 ≤ topOf ps j ∧ topOf ps j < l.length := by
  have hm : rd_L1 ps j ∈ ps := by
    unfold rd_L1; rw [List.getD_eq_getElem?_getD, List.getElem?_eq_getElem (by omega)]; exact List.getElem_mem _
  obtain ⟨a, b, c⟩ := h.pile _ hm
  have ht : topOf ps j ∈ rd_L1 ps j := by
    unfold topOf rd; rw [List.getD_eq_getElem?_getD, List.getElem?_eq_getElem (by omega)]; exact List.getElem_mem _
  have := c _ ht; exact ⟨a, by omega, this.1, by omega⟩
theorem PInv.step {l : List Int} {i : Nat} {st : List (List Int) × List Int} (h : PInv l i st.1 st.2) (hi : i < l.length) : PInv l (i + 1) (playStep l st i).1 (playStep l st i).2 := by
  unfold playStep; split; (exact ⟨h.ahl, by have := h.psl; omega, fun p hp => by obtain ⟨a, b, c⟩ := h.pile p hp; exact ⟨a, by omega, fun x hx => by have := c x hx; omega⟩⟩)
  · have hk := findL_range l st.1 (rd l i) st.1.length 0 st.1.length (by omega)
    generalize findL st.1.length l st.1 (rd l i) 0 st.1.length = k at hk
    refine ⟨by simp [h.ahl], ?_, ?_⟩
    · have := h.psl
      simp only [List.length_set]
      split <;> (try simp only [List.length_append, List.length_cons, List.length_nil]) <;> omega
    · intro p hp
      simp only at hp
      have hq : ∀ q ∈ (if k = (st.1.length : Int) then st.1 ++ [[]] else st.1), q.length ≤ i ∧ ∀ x ∈ q, 0 ≤ x ∧ x < i := by
        intro q hq; split at hq
        · rcases List.mem_append.1 hq with hq | hq
          · exact ⟨(h.pile q hq).2.1, (h.pile q hq).2.2⟩
          · simp at hq; subst hq; simp
        · exact ⟨(h.pile q hq).2.1, (h.pile q hq).2.2⟩
      have hlen : k.toNat < (if k = (st.1.length : Int) then st.1 ++ [[]] else st.1).length := by split <;> (try simp only [List.length_append, List.length_cons, List.length_nil]) <;> omega
      rcases List.mem_or_eq_of_mem_set hp with hp' | rfl
      · -- an elder pile: not the new empty one, as_ that was written
        obtain ⟨j, hj, rfl⟩ := List.getElem_of_mem hp
        rw [List.getElem_set] at hp' ⊢
        split
        · obtain ⟨a, b⟩ := hq ((if k = (st.1.length : Int) then st.1 ++ [[]] else st.1).getD k.toNat []) (by rw [List.getD_eq_getElem?_getD, List.getElem?_eq_getElem hlen]; exact List.getElem_mem _)
          exact ⟨by simp, by simp only [List.length_append, List.length_cons, List.length_nil]; omega, fun x hx => by
            rcases List.mem_append.1 hx with hx | hx
            · have := b x hx; omega
            · simp at hx; omega⟩
        · rename_i hne
          have hjs : j < st.1.length := by
            rw [List.length_set] at hj; split at hj
            · rename_i he; simp at hj; omega
            · exact hj
          have : (if k = (st.1.length : Int) then st.1 ++ [[]] else st.1)[j]'(by rw [List.length_set] at hj; exact hj) = st.1[j] := by
            split <;> simp [hjs]
          rw [this]
          obtain ⟨a, b, c⟩ := h.pile _ (List.getElem_mem hjs)
          exact ⟨a, by omega, fun x hx => by have := c x hx; omega⟩
      · obtain ⟨a, b⟩ := hq ((if k = (st.1.length : Int) then st.1 ++ [[]] else st.1).getD k.toNat []) (by rw [List.getD_eq_getElem?_getD, List.getElem?_eq_getElem hlen]; exact List.getElem_mem _)
        exact ⟨by simp, by simp only [List.length_append, List.length_cons, List.length_nil]; omega, fun x hx => by
          rcases List.mem_append.1 hx with hx | hx
          · have := b x hx; omega
          · simp at hx; omega⟩
theorem playN_inv (l : List Int) : ∀ i, i ≤ l.length → PInv l i (playN l i).1 (playN l i).2
  | 0, _ => ⟨by simp [playN], by simp [playN], by simp [playN]⟩
  | i + 1, h => (playN_inv l i (by omega)).step (by omega)
end Go.Proofs.Ytconhodokldcbaa.G
namespace Go.Proofs.Ytconhodokldcbaa.G
open Go.RowKit Go.Proofs.YtconhodokldcbaaW.PrintWords Go.Proofs.YtconhodokldcbaaW.PrintLast Go.Proofs.YtconhodokldcbaaW.PrintMore
set_option linter.unusedVariables false
set_option linter.unusedSimpArgs false
attribute [local go_sem ↓] Go.wp_at_zero Go.wp_at_succ
/-- The game lies at block g; piles and what lay ahead are its own. -/
structure Lay (w0 W : World) (g : Nat) (Ap : Option Addr) (cp : Nat) (ps : List (List Int)) (ga ca : Nat) (ah : List Int) : Prop where
  blk : W.heap[g]? = some (.cells #[.slice Ap ps.length cp, .slice (some ⟨ga, 0, none⟩) ah.length ca] 54 (0, 0))
  g0 : w0.heap.size ≤ g
  S : Kd.S (Kd.slice 3 (Kd.int .i64)) 22 W w0.heap.size (fun k => k ≠ ga) (.slice Ap ps.length cp) ps
  R : Kd.R (Kd.int .i64) 3 W w0.heap.size (fun _ => True) (.slice (some ⟨ga, 0, none⟩) ah.length ca) ah
  B : Below w0.heap.size w0 W
theorem Lay.below {w0 W W1 : World} {g : Nat} {Ap : Option Addr} {cp : Nat} {ps : List (List Int)} {ga ca : Nat} {ah : List Int} (h : Lay w0 W g Ap cp ps ga ca ah) (hb : Below W.heap.size W W1) : Lay w0 W1 g Ap cp ps ga ca ah :=
  ⟨(hb.block _ (blk_lt h.blk)).trans h.blk, h.g0, Kd.S_below h.S hb, Kd.R_below h.R hb, h.B.trans (hb.mono h.B.size)⟩
theorem Lay.reads {w0 W : World} {g : Nat} {Ap : Option Addr} {cp : Nat} {ps : List (List Int)} {ga ca : Nat} {ah : List Int} (h : Lay w0 W g Ap cp ps ga ca ah) : Kd.C (Kd.slice 3 (Kd.int .i64)) W Ap ps.length ps := (Kd.S_reads' h.S).2.2
theorem Lay.ga {w0 W : World} {g : Nat} {Ap : Option Addr} {cp : Nat} {ps : List (List Int)} {ga ca : Nat} {ah : List Int} (h : Lay w0 W g Ap cp ps ga ca ah) : w0.heap.size ≤ ga ∧ ga < W.heap.size ∧ (∃ cells, W.heap[ga]? = some (.cells cells 3 (0, 0))) ∧ g ≠ ga := by
  obtain ⟨cells, hc⟩ := Kd.R_typed h.R ga (by simp [Value.ownBlock]); exact ⟨Kd.R_base h.R ga (by simp [Value.ownBlock]), blk_lt hc, ⟨cells, hc⟩, blk_ne h.blk hc (by decide)⟩
theorem Lay.ahead {w0 W : World} {g : Nat} {Ap : Option Addr} {cp : Nat} {ps : List (List Int)} {ga ca : Nat} {ah : List Int} (h : Lay w0 W g Ap cp ps ga ca ah) (i : Nat) (x : Int) :
    Lay w0 (W.setCell ⟨ga, i, none⟩ (.int .i64 x)) g Ap cp ps ga ca (ah.set i x) := by
  obtain ⟨h1, h2, _, h4⟩ := h.ga; obtain ⟨r1, r2⟩ := Rint_store h.R i x; exact ⟨by rw [List.length_set]; exact zG h.blk h4 _, h.g0, Kd.S_far h.S (fun _ hk => hk) _, by rw [List.length_set]; exact r1, zS h.B h1⟩
theorem Lay.more {w0 W W1 : World} {g : Nat} {Ap : Option Addr} {cp : Nat} {ps ps1 : List (List Int)} {ga ca : Nat} {ah : List Int} (h : Lay w0 W g Ap cp ps ga ca ah) {v1 : Value}
    (hS : Kd.S (Kd.slice 3 (Kd.int .i64)) 22 W1 w0.heap.size (fun k => k ≠ ga) v1 ps1) (hB : Below w0.heap.size w0 W1) (hg : W.grownBy W1 (Value.slice Ap ps.length cp).ownBlock) :
    (∃ A1 c1, v1 = .slice A1 ps1.length c1) ∧ W1.heap[g]? = some (.cells #[.slice Ap ps.length cp, .slice (some ⟨ga, 0, none⟩) ah.length ca] 54 (0, 0)) ∧
      ∀ A1 c1, v1 = .slice A1 ps1.length c1 → Lay w0 (W1.setCell ⟨g, 0, none⟩ v1) g A1 c1 ps1 ga ca ah := by
  have hb := blk_grown h.blk hg (Kd.S_ne h.S h.blk (by decide)); refine ⟨Kd.S_slice hS, hb, fun A1 c1 e => ?_⟩; subst e
  have hR : Kd.R (Kd.int .i64) 3 W1 w0.heap.size (fun _ => True) (.slice (some ⟨ga, 0, none⟩) ah.length ca) ah :=
    Kd.R_grown1 h.R rfl hg (fun he => (Kd.S_R h.S).1 ga he rfl)
  exact ⟨blk_set hb 0 _, h.g0, Kd.S_set hS hb (by decide) 0 _, Kd.R_set hR hb (by decide) 0 _, zS hB h.g0⟩
theorem Lay.elem {w0 W : World} {g po : Nat} {cp : Nat} {ps : List (List Int)} {ga ca : Nat} {ah : List Int} (h : Lay w0 W g (some ⟨po, 0, none⟩) cp ps ga ca ah) (k : Int) (h0 : 0 ≤ k) (h1 : k < ps.length) :
    ∃ Av cv, ∃ ok5 : Nat → Prop, W.cell? ⟨po, k.toNat, none⟩ = some (.slice Av (ps.getD k.toNat []).length cv) ∧ W.frozen? ⟨po, k.toNat, none⟩ = false ∧ (∀ j, W.heap.size ≤ j → ok5 j) ∧
      Kd.R (Kd.int .i64) 3 W w0.heap.size ok5 (.slice Av (ps.getD k.toNat []).length cv) (ps.getD k.toNat []) ∧
      ∀ v5 w5 xs5, Kd.R (Kd.int .i64) 3 w5 w0.heap.size ok5 v5 xs5 → W.grownBy w5 (Value.slice Av (ps.getD k.toNat []).length cv).ownBlock → Below w0.heap.size w0 w5 →
        (∃ A5 c5, v5 = .slice A5 xs5.length c5) ∧ w5.cell? ⟨g, 0, none⟩ = some (.slice (some ⟨po, 0, none⟩) ps.length cp) ∧ w5.cell? ⟨po, k.toNat, none⟩ = some (.slice Av (ps.getD k.toNat []).length cv) ∧ w5.frozen? ⟨po, k.toNat, none⟩ = false ∧
        Lay w0 (w5.setCell ⟨po, k.toNat, none⟩ v5) g (some ⟨po, 0, none⟩) cp (ps.set k.toNat xs5) ga ca ah := by
  obtain ⟨oki, c, hcl, hM, hcc, hfr, hok, hH⟩ := Kd.S_elem h.S [] k h0 h1; obtain ⟨v, rfl, hRv⟩ := hM; obtain ⟨Av, cv, rfl⟩ := Kd.R_slice hRv
  have ek : k.toNat * (Kd.slice 3 (Kd.int .i64)).sz + 0 = k.toNat := by show k.toNat * 1 + 0 = _; omega
  have hci := hcc 0 _ rfl; have hfi := hfr 0; rw [ek] at hci hfi; obtain ⟨hga1, hga2, hga3, hgg⟩ := h.ga; have hpob : w0.heap.size ≤ po := Kd.S_base h.S po (by simp [Value.ownBlock]); have hpoga : po ≠ ga := (Kd.S_R h.S).1 po (by simp [Value.ownBlock])
  have hgpo : g ≠ po := fun he => Kd.S_ne h.S h.blk (by decide) (by rw [he]; simp [Value.ownBlock])
  have hH2 := Kd.H_widen hH; refine ⟨Av, cv, fun j => oki j ∨ (j ≠ ga ∧ W.heap.size ≤ j), hci, hfi, fun j hj => .inr ⟨by omega, hj⟩, Kd.R_mono hRv (fun j hj => .inl hj), ?_⟩; intro v5 w5 xs5 hR5 hg5 hB5
  have hrow : ∀ j, (Value.slice Av (ps.getD k.toNat []).length cv).ownBlock = some j → oki j := fun j hj => hRv.1 j hj
  have hgn : ∀ j, (∀ i, oki i → i ≠ j) → some j ≠ (Value.slice Av (ps.getD k.toNat []).length cv).ownBlock := fun j hj he => hj j (hrow j he.symm) rfl
  have hpo : w5.heap[po]? = W.heap[po]? := hg5.block po (Kd.S_lt h.S po (by simp [Value.ownBlock])) (hgn po (fun i hi => (hok i hi).2))
  have hbg : w5.heap[g]? = W.heap[g]? := by
    refine hg5.block g (blk_lt h.blk) (fun he => ?_); obtain ⟨cells, hc⟩ := Kd.R_typed hRv g he.symm; exact blk_ne h.blk hc (by decide) rfl
  have hga : w5.heap[ga]? = W.heap[ga]? := hg5.block ga hga2 (hgn ga (fun i hi => (hok i hi).1)); refine ⟨Kd.R_slice hR5, ?_, (World.cell?_of_block (a := ⟨po, k.toNat, none⟩) hpo).trans hci, (World.frozen?_of_block (a := ⟨po, k.toNat, none⟩) hpo).trans hfi, ?_⟩; (exact (World.cell?_of_block (a := ⟨g, 0, none⟩) hbg).trans ((zC h.blk 0).trans rfl))
  · have hH5 := Kd.H_grown hH2 hg5 (fun j hj => .inl (hrow j hj))
    obtain ⟨hH6, hg6⟩ := Kd.H_seg (seg := [v5]) (j := 0) hH5 h0 h1 (by show 0 + 1 ≤ 1; omega) (fun q hq => by simp at hq; subst hq; obtain ⟨a, b, rfl⟩ := Kd.R_slice hR5; rfl)
    have es : w5.setCells po (k.toNat * (Kd.slice 3 (Kd.int .i64)).sz + 0) [v5] = w5.setCell ⟨po, k.toNat, none⟩ v5 := by rw [ek]; rfl
    rw [es] at hH6 hg6
    have hS7 := Kd.H_back hH6 (x' := xs5) (okp := fun j => oki j ∨ j ≠ ga ∧ W.heap.size ≤ j) ⟨v5, rfl, Kd.R_far hR5 (fun j hj => by
      rcases hj with hj | hj
      · exact (hok j hj).2
      · have := Kd.S_lt h.S po (by simp [Value.ownBlock]); show j ≠ po; omega) _⟩ (fun j hj => by rcases hj with hj | hj; exact .inl hj; exact .inr hj)
    refine ⟨by rw [List.length_set]; exact zG (hbg.trans h.blk) hgpo _, h.g0, by rw [List.length_set]; exact hS7, ?_, zS hB5 hpob⟩
    have hRa : Kd.R (Kd.int .i64) 3 w5 w0.heap.size (fun _ => True) (.slice (some ⟨ga, 0, none⟩) ah.length ca) ah := Kd.R_move (Kd.R_tight rfl h.R) (fun j hj => by
      have : j = ga := by simpa [Value.ownBlock] using hj
      subst this; exact hga) |> fun h => Kd.R_mono h (fun _ _ => trivial)
    exact Kd.R_mono (Kd.R_far (Kd.R_tight rfl hRa) (p := ⟨po, k.toNat, none⟩) (fun j hj => by
      have : j = ga := by simpa [Value.ownBlock] using hj
      subst this; exact fun he => hpoga he.symm) v5) (fun _ _ => trivial)
def Game (w0 W : World) (g : Nat) (ps : List (List Int)) (ah : List Int) : Prop :=
  ∃ PV AV, W.heap[g]? = some (.cells #[PV, AV] 54 (0, 0)) ∧ w0.heap.size ≤ g ∧
    Kd.S (Kd.slice 3 (Kd.int .i64)) 22 W w0.heap.size (fun k => some k ≠ AV.ownBlock) PV ps ∧
    Kd.R (Kd.int .i64) 3 W w0.heap.size (fun _ => True) AV ah ∧ Below w0.heap.size w0 W
theorem Game.lay {w0 W : World} {g : Nat} {ps : List (List Int)} {ah : List Int} (h : Game w0 W g ps ah) (h0 : 0 < ah.length) : ∃ Ap cp ga ca, Lay w0 W g Ap cp ps ga ca ah := by
  obtain ⟨PV, AV, hg, hgb, hS, hA, hB⟩ := h; obtain ⟨Ap, cp, rfl⟩ := Kd.S_slice hS; obtain ⟨ga, ca, rfl, hga1, hga2, _⟩ := Kd.R_form hA h0; exact ⟨Ap, cp, ga, ca, hg, hgb, Kd.S_mono hS (fun k hk he => hk (by rw [he]; rfl)), hA, hB⟩
theorem Lay.game {w0 W : World} {g : Nat} {Ap : Option Addr} {cp : Nat} {ps : List (List Int)} {ga ca : Nat} {ah : List Int} (h : Lay w0 W g Ap cp ps ga ca ah) : Game w0 W g ps ah :=
  ⟨_, _, h.blk, h.g0, Kd.S_mono h.S (fun k hk he => hk (by simpa [Value.ownBlock] using he)), h.R, h.B⟩
set_option maxHeartbeats 4000000 in
theorem play_calls (A0 : Option Addr) (c0 : Nat) (l : List Int) (w : World) (hr0 : Kd.C (Kd.int .i64) w A0 l.length l) (hc0 : l.length ≤ c0) (hl : l.length ≤ 1000000) :
    Calls Try.prog 27 #[.slice A0 l.length c0] w fun e w' => ∃ g, e = .returned (.pointer (some ⟨g, 0, none⟩)) ∧ Game w w' g (playN l l.length).1 (playN l l.length).2 := by
  have HR := Aside0.mk hr0; have hu32 := Try.underlying54; clear hr0
  go_enter Try.func27, Try.ntmps27
  go_wp2_with ((at_make; refine Kd.R_make (Kd.int .i64) w.heap.size 3 rfl rfl 22 _ _ rfl (l.length : Int) rfl rfl Try.underlying22 (.int .i64 0) 8 hinfo3 rfl (by decide) (by decide) 0 (ok := fun _ => True) (okp := fun _ => True) rfl (fun _ _ => trivial) trivial (by omega) (by rw [Int.toNat_natCast]; omega) (Below.refl _ w) (Nat.le_refl _) ?_; intro AV w1 HA HB _ hAB; obtain ⟨A1, c1, eAV⟩ := Kd.R_slice HA; rw [List.length_replicate, Int.toNat_natCast] at eAV; subst eAV; have HA1 := Aside0.mk HA; have HB1 := Aside0.mk HB; have HAB := Aside0.mk hAB; clear HA HB hAB))
  go_loopg [14] l.length (fun k v14 w' => ∃ i : Nat, v14 = .int .i64 i ∧ Aside0 (i + k = l.length ∧ Game w w' w1.heap.size (playN l i).1 (playN l i).2))
  case atStart =>
    refine ⟨0, rfl, ⟨by omega, .slice none 0 0, _, heap_alloc_new w1 _, HB1.out.size, Kd.S_nil _ _ _ _ _, ?_, zA HB1.out _⟩⟩; have h := Kd.R_alloc HA1.out (.cells #[.slice none 0 0, .slice A1 l.length c1] 54); rw [Int.toNat_natCast] at h; exact h
  case round =>
    obtain ⟨i, rfl, HI⟩ := hrel
    by_cases hlt : i < l.length
    · obtain ⟨hik, hgame⟩ := HI.out
      have HPI := Aside0.mk (playN_inv l i (by omega))
      obtain ⟨Ap, cp, ga, ca, hLay⟩ := hgame.lay (by rw [HPI.out.ahl]; omega)
      obtain ⟨st, hst⟩ : ∃ st, playN l i = st := ⟨_, rfl⟩
      rw [hst] at hLay HPI
      have HST := Aside0.mk hst
      have HLC := Aside0.mk (Kd.C_below HR.out hLay.B)
      obtain ⟨ad, ead, hxl⟩ := Kd.at_int HLC.out (i : Int) (by omega) (by omega)
      cases ead
      rw [Int.toNat_natCast] at hxl
      have HY := Aside0.mk hLay
      have HPS : st.1.length ≤ i := HPI.out.psl
      clear hst hLay hgame
      by_cases hneg : rd l i < 0
      · have HEN := Aside0.mk (show playN l (i + 1) = st by
          rw [show playN l (i + 1) = playStep l (playN l i) i from rfl, HST.out]
          unfold playStep
          rw [if_pos hneg])
        go_wp2_with fail
        go_roundg (l.length - (i + 1))
        case measure => omega
        case rel => exact ⟨i + 1, by go_num, ⟨by omega, by rw [HEN.out]; exact HY.out.game⟩⟩
      · have HNG := Aside0.mk hneg
        obtain ⟨hk0, hk1⟩ := findL_range l st.1 (rd l i) st.1.length 0 st.1.length (by omega)
        have HFC := find_calls w1.heap.size st.1 l Ap cp _ (some ad) c0 (rd l i) _ HY.out.blk HY.out.reads HLC.out (by omega) (by omega) (fun j h0 h1 => by have := HPI.out.at_ (by omega) j h0 h1; omega)
        obtain ⟨k, hk⟩ : ∃ k, findL st.1.length l st.1 (rd l i) 0 st.1.length = k := ⟨_, rfl⟩
        rw [hk] at HFC hk0 hk1
        have HK := Aside0.mk hk
        have HFC := Aside0.mk HFC
        clear hk HI
        go_wp2_with ((go_at_call 38; refine HFC.out.mono ?_; rintro e w' ⟨rfl, ⟨m, rfl⟩⟩))
        refine wp_region_still_tail 9 (by kernel_rfl) (by kernel_rfl) ?_
        obtain ⟨W2, hW2⟩ : ∃ W2 : World, (⟨(wr.drewN m).heap, (wr.drewN m).tape, (wr.drewN m).drawn + 1, (wr.drewN m).os, (wr.drewN m).output⟩ : World) = W2 := ⟨_, rfl⟩
        rw [hW2]
        have hB2 : Below wr.heap.size wr W2 := by subst hW2; exact ⟨rfl, rfl, rfl, Nat.le_refl _, fun _ _ => rfl⟩
        replace HY := Aside0.mk (HY.out.below hB2)
        clear HFC hW2 hxl HLC hB2
        have hcg1 := (zC HY.out.blk 1).trans rfl
        obtain ⟨hcA, hfA⟩ := Rint_at HY.out.R i (by rw [HPI.out.ahl]; omega)
        have HTC := Aside0.mk (top_calls w1.heap.size st.1 Ap cp _ (k - 1) W2 HY.out.blk HY.out.reads (fun h0 h1 => by have := HPI.out.at_ (by omega) _ h0 h1; omega))
        have hwk : IntKind.i64.wrap (k - 1) = k - 1 := IntWalk.i64_in _ (by omega)
        have hil : (i : Int) < (st.2.length : Int) := by rw [HPI.out.ahl]; omega
        simp only [List.take_succ_cons, List.take_zero, List.drop_succ_cons, List.drop_zero]
        iterate 8 still_step
        still_call HTC.out
        refine wpStill_nil ?_
        clear hwk HTC
        go_upto_region 8 with (fail)
        obtain ⟨W3, hW3⟩ : ∃ W3 : World, W2.setCell ⟨ga, i, none⟩ (.int .i64 (topAt st.1 (k - 1))) = W3 := ⟨_, rfl⟩
        rw [hW3]
        replace HY := Aside0.mk (hW3 ▸ HY.out.ahead i (topAt st.1 (k - 1)))
        clear hcg1 hcA hfA hW3 hil
        have hcg0 := (zC HY.out.blk 0).trans rfl
        go_upto_if 41 with (fail)
        go_cut [] (fun wc => ∃ (ps2 : List (List Int)) (Ap2 : Option Addr) (cp2 : Nat), Aside0 (ps2 = if k = st.1.length then st.1 ++ [[]] else st.1) ∧ Aside0 (Lay w wc w1.heap.size Ap2 cp2 ps2 ga ca (st.2.set i (topAt st.1 (k - 1)))))
        case first =>
          by_cases hkl : k = st.1.length
          · have hkd : (k == (st.1.length : Int)) = true := by simpa using hkl
            have HKL := Aside0.mk hkl
            clear hkl
            go_wp2_with ((at_builtin; refine Kd.S_append (Kd.slice 3 (Kd.int .i64)) (w0 := w) w.heap.size rfl _ _ 52 22 (.slice none 0 0) 24 rfl Try.underlying52 hinfo22 rfl (by decide) (by decide) _ st.1 [] [.slice none 0 0] (fun k => k ≠ ga) (fun _ => False) rfl rfl ⟨_, rfl, Kd.R_nil _ _ _ _ _⟩ (fun _ h => h.elim) (fun j hj => by have := HY.out.ga.2.1; omega) (Kd.S_mono HY.out.S (fun _ h => ⟨h, fun h2 => h2⟩)) HY.out.B HY.out.B.size (by omega) ?_; intro v4 w4 hS4 hB4 hg4 _; obtain ⟨⟨A4, c4, rfl⟩, hb4, hL4⟩ := HY.out.more hS4 hB4 hg4; have H4 := Aside0.mk (hL4 _ _ rfl); have hc4 := (zC hb4 0).trans rfl; have hf4 := zR hb4 0; clear hS4 hB4 hg4 hL4 hb4))
            go_meet
            case rel => exact ⟨st.1 ++ [[]], A4, c4, ⟨(if_pos HKL.out).symm⟩, ⟨by have h := H4.out; rw [show (st.1 ++ [([] : List Int)]).length = st.1.length + 1 from by simp] at h; exact h⟩⟩
          · have hkd : (k == (st.1.length : Int)) = false := by simpa using hkl
            have HKL := Aside0.mk hkl
            clear hkl
            go_wp2_with fail
            go_meet
            case rel => exact ⟨st.1, Ap, cp, ⟨(if_neg HKL.out).symm⟩, HY⟩
        case rest =>
          obtain ⟨ps2, Ap2, cp2, HP2, HY2⟩ := hcut
          have hk2 : k < (ps2.length : Int) := by rw [HP2.out]; split <;> (try simp only [List.length_append, List.length_cons, List.length_nil]) <;> omega
          obtain ⟨po, _, ePo, hpo1, hpo2, _⟩ := Kd.S_form HY2.out.S (by omega); injection ePo with ePo _ eCp; subst ePo; subst eCp; obtain ⟨Av, cv, ok5, hci, hfi, hok5, hRv, hput⟩ := HY2.out.elem k hk0 hk2
          have hgp : ¬ po = w1.heap.size := fun he => Kd.S_ne HY2.out.S HY2.out.blk (by decide) (by rw [he]; simp [Value.ownBlock])
          have hgp2 : ¬ w1.heap.size = po := fun he => hgp he.symm
          obtain ⟨pk, hpk⟩ : ∃ pk, ps2.getD k.toNat [] = pk := ⟨_, rfl⟩; rw [hpk] at hci hRv hput; have HPK := Aside0.mk hpk
          have HPL := Aside0.mk (show pk.length ≤ 1000000 by
            rw [← hpk, HP2.out]; split
            · by_cases hx : k.toNat < st.1.length
              · rw [List.getD_eq_getElem?_getD, List.getElem?_append_left hx, List.getElem?_eq_getElem hx]
                have := (HPI.out.pile _ (List.getElem_mem hx)).2.1
                simp only [Option.getD_some]; omega
              · rw [List.getD_eq_getElem?_getD, List.getElem?_append_right (by omega), show k.toNat - st.1.length = 0 from by omega]
                simp
            · rename_i hx
              rw [List.getD_eq_getElem?_getD, List.getElem?_eq_getElem (show k.toNat < st.1.length by omega)]
              have := (HPI.out.pile _ (List.getElem_mem (show k.toNat < st.1.length by omega))).2.1
              simp only [Option.getD_some]; omega)
          clear hpk; have hc0 := (zC HY2.out.blk 0).trans rfl; have HM := Aside0.mk (And.intro hok5 (And.intro hRv hput)); clear hok5 hRv hput
          go_wp2_with fail
          refine start_ (n := 17) (S := (fun w' => w'.cell? ⟨w1.heap.size, 0, none⟩ = some (.slice (some ⟨po, 0, none⟩) ps2.length cp2) ∧ w'.cell? ⟨po, k.toNat, none⟩ = some (.slice Av pk.length cv))) (ds := [16]) #[false, false, false, false, false, false, false, false, false, false, false, false, false, false, false, false, false] (by kernel_rfl) rfl rfl ?_ ?_; (exact ⟨hc0, hci⟩); intro hHeld; refine pure_ (i := 0) (N := some 51) (v := ?_) (a' := ?_) #[true, false, false, false, false, false, false, false, false, false, false, false, false, false, false, false, false] rfl rfl (by kernel_rfl) (fun _ _ _ h => h) (Or.inl ⟨by rfl, ?_⟩) ?_ ?_; rotate_left; (intro w'; go_simp; (with_reducible rfl)); rotate_left; (simp only [Act.put, List.setIfInBounds_toArray, List.set_cons_zero, List.set_cons_succ, i64_w, i32_w]; rfl); refine pure_ (i := 1) (N := some 52) (v := ?_) (a' := ?_) #[true, true, false, false, false, false, false, false, false, false, false, false, false, false, false, false, false] rfl rfl (by kernel_rfl) (fun _ _ _ h => h) (Or.inl ⟨by rfl, ?_⟩) ?_ ?_; rotate_left; (intro w'; go_simp; (with_reducible rfl)); rotate_left; (simp only [Act.put, List.setIfInBounds_toArray, List.set_cons_zero, List.set_cons_succ, i64_w, i32_w]; rfl); refine pure_ (i := 2) (N := some 53) (v := ?_) (a' := ?_) #[true, true, true, false, false, false, false, false, false, false, false, false, false, false, false, false, false] rfl rfl (by kernel_rfl) (fun _ _ _ h => h) (Or.inl ⟨by rfl, ?_⟩) ?_ ?_; rotate_left; (intro w'; go_simp; (with_reducible rfl)); rotate_left; (simp only [Act.put, List.setIfInBounds_toArray, List.set_cons_zero, List.set_cons_succ, i64_w, i32_w]; rfl); refine pure_ (i := 4) (N := some 55) (v := ?_) (a' := ?_) #[true, true, true, false, true, false, false, false, false, false, false, false, false, false, false, false, false] rfl rfl (by kernel_rfl) (fun _ _ _ h => h) (Or.inl ⟨by rfl, ?_⟩) ?_ ?_; rotate_left; (intro w'; go_simp; (with_reducible rfl)); rotate_left; (simp only [Act.put, List.setIfInBounds_toArray, List.set_cons_zero, List.set_cons_succ, i64_w, i32_w]; rfl); refine pure_ (i := 5) (N := some 56) (v := ?_) (a' := ?_) #[true, true, true, false, true, true, false, false, false, false, false, false, false, false, false, false, false] rfl rfl (by kernel_rfl) (fun _ _ _ h => h) (Or.inl ⟨by rfl, ?_⟩) ?_ ?_; rotate_left; (intro w'; go_simp; (with_reducible rfl)); rotate_left; (simp only [Act.put, List.setIfInBounds_toArray, List.set_cons_zero, List.set_cons_succ, i64_w, i32_w]; rfl); refine pure_ (i := 6) (N := some 57) (v := ?_) (a' := ?_) #[true, true, true, false, true, true, true, false, false, false, false, false, false, false, false, false, false] rfl rfl (by kernel_rfl) (fun _ _ _ h => h) (Or.inl ⟨by rfl, ?_⟩) ?_ ?_; rotate_left; (intro w'; go_simp; (with_reducible rfl)); rotate_left; (simp only [Act.put, List.setIfInBounds_toArray, List.set_cons_zero, List.set_cons_succ, i64_w, i32_w]; rfl); refine pure_ (i := 7) (N := some 58) (v := ?_) (a' := ?_) #[true, true, true, false, true, true, true, true, false, false, false, false, false, false, false, false, false] rfl rfl (by kernel_rfl) (fun _ _ _ h => h) (Or.inl ⟨by rfl, ?_⟩) ?_ ?_; rotate_left; (intro w'; go_simp; (with_reducible rfl)); rotate_left; (simp only [Act.put, List.setIfInBounds_toArray, List.set_cons_zero, List.set_cons_succ, i64_w, i32_w]; rfl); refine pure_ (i := 9) (N := some 60) (v := ?_) (a' := ?_) #[true, true, true, false, true, true, true, true, false, true, false, false, false, false, false, false, false] rfl rfl (by kernel_rfl) (fun _ _ _ h => h) (Or.inl ⟨by rfl, ?_⟩) ?_ ?_; rotate_left; (intro w'; go_simp; (with_reducible rfl)); rotate_left; (simp only [Act.put, List.setIfInBounds_toArray, List.set_cons_zero, List.set_cons_succ, i64_w, i32_w]; rfl); refine pure_ (i := 12) (N := some 63) (v := ?_) (a' := ?_) #[true, true, true, false, true, true, true, true, false, true, false, false, true, false, false, false, false] rfl rfl (by kernel_rfl) (fun _ _ _ h => h) (Or.inl ⟨by rfl, ?_⟩) ?_ ?_; rotate_left; (intro w'; go_simp; (with_reducible rfl)); rotate_left; (simp only [Act.put, List.setIfInBounds_toArray, List.set_cons_zero, List.set_cons_succ, i64_w, i32_w]; rfl); refine take_ (i := 3) (N := some 54) (v := ?_) (a' := ?_) #[true, true, true, true, true, true, true, true, false, true, false, false, true, false, false, false, false] rfl rfl (by kernel_rfl) (fun _ _ _ h => h) (Or.inl ⟨by rfl, ?_⟩) hHeld ?_ ?_; rotate_left; (rintro w' ⟨s0, s1⟩; go_simp; (with_reducible rfl)); rotate_left; (simp only [Act.put, List.setIfInBounds_toArray, List.set_cons_zero, List.set_cons_succ, i64_w, i32_w]; rfl); refine take_ (i := 8) (N := some 59) (v := ?_) (a' := ?_) #[true, true, true, true, true, true, true, true, true, true, false, false, true, false, false, false, false] rfl rfl (by kernel_rfl) (fun _ _ _ h => h) (Or.inl ⟨by rfl, ?_⟩) hHeld ?_ ?_; rotate_left; (rintro w' ⟨s0, s1⟩; go_simp; (with_reducible rfl)); rotate_left; (simp only [Act.put, List.setIfInBounds_toArray, List.set_cons_zero, List.set_cons_succ, i64_w, i32_w]; rfl); refine pure_ (i := 10) (N := some 61) (v := ?_) (a' := ?_) #[true, true, true, true, true, true, true, true, true, true, true, false, true, false, false, false, false] rfl rfl (by kernel_rfl) (fun _ _ _ h => h) (Or.inl ⟨by rfl, ?_⟩) ?_ ?_; rotate_left; (intro w'; go_simp; (with_reducible rfl)); rotate_left; (simp only [Act.put, List.setIfInBounds_toArray, List.set_cons_zero, List.set_cons_succ, i64_w, i32_w]; rfl); refine take_ (i := 11) (N := some 62) (v := ?_) (a' := ?_) #[true, true, true, true, true, true, true, true, true, true, true, true, true, false, false, false, false] rfl rfl (by kernel_rfl) (fun _ _ _ h => h) (Or.inl ⟨by rfl, ?_⟩) hHeld ?_ ?_; rotate_left; (rintro w' ⟨s0, s1⟩; go_simp; (with_reducible rfl)); rotate_left; (simp only [Act.put, List.setIfInBounds_toArray, List.set_cons_zero, List.set_cons_succ, i64_w, i32_w]; rfl); refine one_ (i := 13) (N := some 64) #[true, true, true, true, true, true, true, true, true, true, true, true, true, true, false, false, false] rfl rfl (by kernel_rfl) (by decide) (fun K hK => ?_); refine value_ (w1 := ?_) (v := ?_) (by rfl) rfl ?_ ?_; rotate_left 2
          · go_simp
            constructor
            · rfl
            · rfl
          refine hK.out _ _ ⟨(World.cell?_alloc_lt _ _ _ (World.block_lt_of_cell? _ _ hc0)).trans hc0, (World.cell?_alloc_lt _ _ _ (World.block_lt_of_cell? _ _ hci)).trans hci⟩ (fun hHeld => ?_); clear hK K; refine norm_ (a' := ?_) ?_ ?_; rotate_left
          · show Act.put _ (some 64) _ = _
            simp only [Act.put, List.setIfInBounds_toArray, List.set_cons_zero, List.set_cons_succ, i64_w, i32_w]
            rfl
          refine one_ (i := 14) (N := some 65) #[true, true, true, true, true, true, true, true, true, true, true, true, true, true, true, false, false] rfl rfl (by kernel_rfl) (by decide) (fun K hK => ?_); refine Kd.R_append_step (Kd.int .i64) (w0 := w) (W := wc.drew) w.heap.size (by rfl) (.tmp 62) (.tmp 64) 22 3 (.int .i64 0) 8 (by rfl) Try.underlying22 hinfo3 rfl (by decide) (by decide) (.slice Av pk.length cv) pk (i : Int) [.int .i64 i] ok5 (fun _ => False) (by rfl) (by rfl) rfl (fun _ h => h.elim) HM.out.1 (Kd.R_below HM.out.2.1 ⟨rfl, rfl, rfl, Nat.le_refl _, fun _ _ => rfl⟩) (HY2.out.B.trans ⟨rfl, rfl, rfl, Nat.le_refl _, fun _ _ => rfl⟩) HY2.out.B.size (by have := HPL.out; omega) ?_; intro v5 w5 hR5 hB5 hg5 _; obtain ⟨⟨A5, c5, rfl⟩, hcg5, hci5, hfi5, hL5⟩ := HM.out.2.2 v5 w5 _ hR5 ⟨hg5.os, hg5.tape, hg5.output, hg5.size, hg5.block⟩ hB5; have HL5 := Aside0.mk hL5; clear hR5 hB5 hg5 hL5; refine hK.out _ _ ⟨hcg5, hci5⟩ (fun hHeld => ?_); clear hK K; refine norm_ (a' := ?_) ?_ ?_; rotate_left
          · show Act.put _ (some 65) _ = _
            simp only [Act.put, List.setIfInBounds_toArray, List.set_cons_zero, List.set_cons_succ, i64_w, i32_w]
            rfl
          refine pure_ (i := 15) (N := some 66) (v := ?_) (a' := ?_) #[true, true, true, true, true, true, true, true, true, true, true, true, true, true, true, true, false] rfl rfl (by kernel_rfl) (fun _ _ _ h => h) (Or.inl ⟨by rfl, ?_⟩) ?_ ?_; rotate_left; (intro w'; go_simp; (with_reducible rfl)); rotate_left; (simp only [Act.put, List.setIfInBounds_toArray, List.set_cons_zero, List.set_cons_succ, i64_w, i32_w]; rfl); refine last_ (i := 16) (N := none) #[true, true, true, true, true, true, true, true, true, true, true, true, true, true, true, true, true] rfl rfl (by kernel_rfl) (by decide) (fun K hK => ?_); refine skip_ (w1 := ?_) (by rfl) rfl ?_ ?_; rotate_left; (go_simp; rfl); refine hK.out _ _ ?_; clear hK K; refine done_ (by kernel_rfl) ?_
          · have HEND := Aside0.mk (show playN l (i + 1) = (ps2.set k.toNat (pk ++ [(i : Int)]), st.2.set i (topAt st.1 (k - 1))) by
              rw [show playN l (i + 1) = playStep l (playN l i) i from rfl, HST.out]
              unfold playStep
              rw [if_neg (by have := HNG.out; omega), HK.out]
              show (((if k = (st.1.length : Int) then st.1 ++ [[]] else st.1).set k.toNat ((if k = (st.1.length : Int) then st.1 ++ [[]] else st.1).getD k.toNat [] ++ [(i : Int)])), st.2.set i (topAt st.1 (k - 1))) = _
              rw [← HP2.out, HPK.out])
            go_wp2_with fail
            go_roundg (l.length - (i + 1))
            case measure => omega
            case rel => exact ⟨i + 1, by go_num, ⟨by omega, by rw [HEND.out]; have h := HL5.out.game; rw [show (pk ++ [(i : Int)]).length = pk.length + 1 from by simp] at h; exact h⟩⟩
    · go_wp2_with fail
      go_ret
      obtain rfl : i = l.length := by have := HI.out.1; omega
      exact ⟨_, rfl, HI.out.2⟩
end Go.Proofs.Ytconhodokldcbaa.G
namespace Go.Proofs.Ytconhodokldcbaa.G
open Go.RowKit Go.Proofs.YtconhodokldcbaaW.PrintWords Go.Proofs.YtconhodokldcbaaW.PrintLast Go.Proofs.YtconhodokldcbaaW.PrintMore
set_option linter.unusedVariables false
set_option linter.unusedSimpArgs false
/-- What lay ahead: a place of the pile ahead, or -1. -/
def AInv (ps : List (List Int)) (ah : List Int) (i : Nat) : Prop :=
  ∀ (k : Nat) (x : Int), x ∈ ps.getD k [] → 0 ≤ x ∧ x < i ∧ (k = 0 → rd ah x = -1) ∧ ∀ k', k = k' + 1 → rd ah x ∈ ps.getD k' [] ∧ rd ah x < x
theorem rd_set {xs : List Int} {i : Nat} {x : Int} {j : Int} (hj : 0 ≤ j) : rd (xs.set i x) j = if j = i then (if i < xs.length then x else 0) else rd xs j := by
  unfold rd; simp only [List.getD_eq_getElem?_getD, List.getElem?_set]
  by_cases h : j = (i : Int)
  · subst h
    simp
    split
    · rfl
    · rfl
  · rw [if_neg (by omega), if_neg h]
theorem getD_stepped (ps : List (List Int)) (k : Nat) (hk : k ≤ ps.length) (x : Int) (j : Nat) :
    (((if (k : Int) = ps.length then ps ++ [[]] else ps).set k ((if (k : Int) = ps.length then ps ++ [[]] else ps).getD k [] ++ [x])).getD j []) = if j = k then ps.getD k [] ++ [x] else ps.getD j [] := by
  have e : ∀ j, (if (k : Int) = ps.length then ps ++ [[]] else ps).getD j [] = ps.getD j [] := by
    intro j; split
    · simp only [List.getD_eq_getElem?_getD]
      by_cases h : j < ps.length
      · rw [List.getElem?_append_left h]
      · rw [List.getElem?_append_right (by omega), List.getElem?_eq_none (show ps.length ≤ j by omega)]
        by_cases h2 : j - ps.length = 0
        · rw [h2]; rfl
        · rw [List.getElem?_eq_none (by simp; omega)]
    · rfl
  have hl : k < (if (k : Int) = ps.length then ps ++ [[]] else ps).length := by split <;> (try simp only [List.length_append, List.length_cons, List.length_nil]) <;> omega
  rw [e k]; simp only [List.getD_eq_getElem?_getD, List.getElem?_set]
  by_cases h : j = k
  (subst h; simp [hl]); (rw [if_neg (by omega), if_neg h]; have := e j; simp only [List.getD_eq_getElem?_getD] at this; exact this)
theorem rd_last_mem (q : List Int) (h : 0 < q.length) : rd q (q.length - 1) ∈ q := by
  unfold rd; rw [List.getD_eq_getElem?_getD, List.getElem?_eq_getElem (by omega)]; exact List.getElem_mem _
theorem topAt_mem {l : List Int} {i : Nat} {ps : List (List Int)} {ah : List Int} (h : PInv l i ps ah) (k : Nat) (hk : k < ps.length) : topAt ps k ∈ ps.getD k [] ∧ 0 ≤ topAt ps k ∧ topAt ps k < i := by
  have hm : ps.getD k [] ∈ ps := by rw [List.getD_eq_getElem?_getD, List.getElem?_eq_getElem hk]; exact List.getElem_mem _
  obtain ⟨a, b, c⟩ := h.pile _ hm
  have e : topAt ps k = rd (ps.getD k []) ((ps.getD k []).length - 1) := by
    unfold topAt topOf rd_L1; rw [if_neg (by omega), if_neg (by omega)]; rfl
  have ht : topAt ps k ∈ ps.getD k [] := by
    rw [e]; exact rd_last_mem _ a
  exact ⟨ht, c _ ht⟩
theorem AInv.step {l : List Int} {i : Nat} {st : List (List Int) × List Int} (hp : PInv l i st.1 st.2) (h : AInv st.1 st.2 i) (hi : i < l.length) : AInv (playStep l st i).1 (playStep l st i).2 (i + 1) := by
  unfold playStep; split; (intro k x hx; obtain ⟨a, b, c, d⟩ := h k x hx; exact ⟨a, by omega, c, d⟩)
  · have hk := findL_range l st.1 (rd l i) st.1.length 0 st.1.length (by omega)
    generalize findL st.1.length l st.1 (rd l i) 0 st.1.length = kk at hk
    obtain ⟨k, rfl⟩ := Int.eq_ofNat_of_zero_le hk.1
    intro j x hx
    simp only [Int.toNat_natCast] at hx ⊢
    have hkl : k ≤ st.1.length := by omega
    rw [getD_stepped _ _ hkl] at hx
    have hsub : ∀ j' y, y ∈ st.1.getD j' [] → y ∈ (((if (k : Int) = st.1.length then st.1 ++ [[]] else st.1).set k ((if (k : Int) = st.1.length then st.1 ++ [[]] else st.1).getD k [] ++ [(i : Int)])).getD j' []) := by
      intro j' y hy; rw [getD_stepped _ _ hkl]; split
      · rename_i e; rw [← e]; exact List.mem_append_left _ hy
      · exact hy
    have old : ∀ j' y, y ∈ st.1.getD j' [] → 0 ≤ y ∧ y < ((i + 1 : Nat) : Int) ∧ (j' = 0 → rd (st.2.set i (topAt st.1 (k - 1))) y = -1) ∧ ∀ k', j' = k' + 1 → rd (st.2.set i (topAt st.1 (k - 1))) y ∈ (((if (k : Int) = st.1.length then st.1 ++ [[]] else st.1).set k ((if (k : Int) = st.1.length then st.1 ++ [[]] else st.1).getD k [] ++ [(i : Int)])).getD k' []) ∧ rd (st.2.set i (topAt st.1 (k - 1))) y < y := by
      intro j' y hy; obtain ⟨a, b, c, d⟩ := h j' y hy
      have hne : rd (st.2.set i (topAt st.1 (k - 1))) y = rd st.2 y := by rw [rd_set a, if_neg (by omega)]
      rw [hne]; exact ⟨a, by omega, c, fun k' e => ⟨hsub _ _ (d k' e).1, (d k' e).2⟩⟩
    by_cases hjk : j = k
    · subst hjk
      rw [if_pos rfl] at hx
      rcases List.mem_append.1 hx with hx | hx
      · exact old j x hx
      · obtain rfl : x = i := by simpa using hx
        have he : rd (st.2.set i (topAt st.1 ((j : Int) - 1))) i = topAt st.1 (j - 1) := by
          rw [rd_set (by omega), if_pos rfl, if_pos (by rw [hp.ahl]; exact hi)]
        rw [he]
        refine ⟨by omega, by omega, fun h0 => ?_, fun k' e => ?_⟩
        · subst h0; rfl
        · subst e
          have e2 : ((k' + 1 : Nat) : Int) - 1 = (k' : Int) := by omega
          rw [e2]
          obtain ⟨a, b, c⟩ := topAt_mem hp k' (by omega)
          exact ⟨hsub _ _ a, by omega⟩
    · rw [if_neg hjk] at hx
      exact old j x hx
theorem playN_ainv (l : List Int) : ∀ i, i ≤ l.length → AInv (playN l i).1 (playN l i).2 i
  | 0, _ => fun k x hx => by simp [playN] at hx
  | i + 1, h => AInv.step (playN_inv l i (by omega)) (playN_ainv l i (by omega)) (by omega)
/-- The chain that ends at i. -/
def chainOf (ah : List Int) : Nat → Int → List Int
  | 0, _ => []
  | n + 1, i => chainOf ah n (rd ah i) ++ [i]
theorem chainOf_length (ah : List Int) : ∀ n i, (chainOf ah n i).length = n
  | 0, _ => rfl
  | n + 1, i => by simp [chainOf, chainOf_length ah n]
def pilesOf (l : List Int) : List (List Int) := (playN l l.length).1
def longestOf (l : List Int) : List Int := chainOf (playN l l.length).2 (pilesOf l).length (topAt (pilesOf l) ((pilesOf l).length - 1))
def lis_Longest.f (l0 : List Int) : Option (List Int) := if l0.length ≤ 1000000 then some (longestOf l0) else none
/-- The game, and the room for the choice. -/
structure LongW (w W : World) (g : Nat) (Ap : Option Addr) (cp : Nat) (ps : List (List Int)) (Aa : Option Addr) (ca : Nat) (ah : List Int) (gr n cr : Nat) (xs : List Int) : Prop where
  blk : W.heap[g]? = some (.cells #[.slice Ap ps.length cp, .slice Aa ah.length ca] 54 (0, 0))
  g0 : w.heap.size ≤ g
  RA : Kd.R (Kd.int .i64) 3 W w.heap.size (fun k => k ≠ gr) (.slice Aa ah.length ca) ah
  RR : Kd.R (Kd.int .i64) 3 W w.heap.size (fun _ => True) (.slice (some ⟨gr, 0, none⟩) n cr) xs
  B : Below w.heap.size w W
theorem LongW.start {w w1 w2 : World} {g : Nat} {Ap : Option Addr} {cp : Nat} {ps : List (List Int)} {Aa : Option Addr} {ca : Nat} {ah : List Int} {gr cr n : Nat} {ok : Nat → Prop}
    (hg : w1.heap[g]? = some (.cells #[.slice Ap ps.length cp, .slice Aa ah.length ca] 54 (0, 0))) (hg0 : w.heap.size ≤ g)
    (hS : Kd.S (Kd.slice 3 (Kd.int .i64)) 22 w1 w.heap.size ok (.slice Ap ps.length cp) ps) (hA : Kd.R (Kd.int .i64) 3 w1 w.heap.size (fun _ => True) (.slice Aa ah.length ca) ah)
    (hR2 : Kd.R (Kd.int .i64) 3 w2 w.heap.size (fun _ => True) (.slice (some ⟨gr, 0, none⟩) n cr) (List.replicate n 0)) (hgr : w1.heap.size ≤ gr) (hb : Below w1.heap.size w1 w2) (hB2 : Below w.heap.size w w2) :
    LongW w w2 g Ap cp ps Aa ca ah gr n cr (List.replicate n 0) ∧ Kd.C (Kd.slice 3 (Kd.int .i64)) w2 Ap ps.length ps := by
  refine ⟨⟨(hb.block _ (blk_lt hg)).trans hg, hg0, ?_, hR2, hB2⟩, Kd.C_below (Kd.S_reads' hS).2.2 hb⟩; refine Kd.R_mono (Kd.R_tight rfl (Kd.R_below hA hb)) (fun k hk he => ?_); have := Kd.R_lt hA k hk.symm; omega
theorem LongW.put {w W : World} {g : Nat} {Ap : Option Addr} {cp : Nat} {ps : List (List Int)} {Aa : Option Addr} {ca : Nat} {ah : List Int} {gr n cr : Nat} {xs : List Int} (h : LongW w W g Ap cp ps Aa ca ah gr n cr xs) (j : Nat) (x : Int) :
    LongW w (W.setCell ⟨gr, j, none⟩ (.int .i64 x)) g Ap cp ps Aa ca ah gr n cr (xs.set j x) := by
  obtain ⟨r1, r2⟩ := Rint_store h.RR j x; have hgr : w.heap.size ≤ gr := Kd.R_base h.RR gr (by simp [Value.ownBlock]); obtain ⟨cells, hc⟩ := Kd.R_typed h.RR gr (by simp [Value.ownBlock]); exact ⟨zG h.blk (blk_ne h.blk hc (by decide)) _, h.g0, Kd.R_far (p := ⟨gr, j, none⟩) h.RA (fun k hk => hk) _, r1, zS h.B hgr⟩
set_option maxHeartbeats 4000000 in
theorem lis_Longest.calls (A0 : Option Addr) (c0 : Nat) (l0 : List Int) (r : List Int) (w : World) (hr0 : Kd.C (Kd.int .i64) w A0 l0.length l0) (hc0 : l0.length ≤ c0) (h : lis_Longest.f l0 = some r) :
    Calls Try.prog 19 #[.slice A0 l0.length c0] w fun e w' => ∃ v0_ : Value, e = .returned (v0_) ∧ Kd.R (Kd.int .i64) 3 w' w.heap.size (fun _ => True) v0_ r ∧ Below w.heap.size w w' := by
  obtain ⟨hl, rfl⟩ : l0.length ≤ 1000000 ∧ r = longestOf l0 := by
    unfold lis_Longest.f at h; split at h; (exact ⟨by assumption, (Option.some.inj h).symm⟩); (cases h)
  have HP := Aside0.mk (play_calls A0 c0 l0 w hr0 hc0 hl); have HPI := Aside0.mk (playN_inv l0 l0.length (Nat.le_refl _)); have HAI := Aside0.mk (playN_ainv l0 l0.length (Nat.le_refl _)); have HLO := Aside0.mk (show longestOf l0 = chainOf (playN l0 l0.length).2 (playN l0 l0.length).1.length (topAt (playN l0 l0.length).1 ((playN l0 l0.length).1.length - 1)) from rfl); obtain ⟨st, hst⟩ : ∃ st, playN l0 l0.length = st := ⟨_, rfl⟩; rw [hst] at HP HPI HAI HLO; clear hr0 h hst
  have hpl : st.1.length ≤ 1000000 := by have := HPI.out.psl; omega
  have hu32 := Try.underlying54
  go_enter Try.func19, Try.ntmps19
  go_wp2_with (first | (go_at_call 27; refine HP.out.mono ?_; rintro e w1 ⟨g, rfl, hG⟩; obtain ⟨PV, AV, hg, hg0, hS, hA, hB⟩ := hG; obtain ⟨Ap, cp, rfl⟩ := Kd.S_slice hS; obtain ⟨Aa, ca, rfl⟩ := Kd.R_slice hA; have hc0 := (zC hg 0).trans rfl; have HG := Aside0.mk hg; have HB := Aside0.mk hB; have HS := Aside0.mk hS; have HA := Aside0.mk hA; clear hg hS hA hB) | (at_make; refine make_ints (w0 := w) w.heap.size 3 .i64 8 rfl rfl 22 _ _ rfl st.1.length rfl rfl Try.underlying22 hinfo3 (by decide) (by omega) HB.out HB.out.size ?_; intro gr cr w2 hR2 hgr hlt hb2 hB2; have HW := Aside0.mk (LongW.start HG.out hg0 HS.out HA.out hR2 hgr hb2 hB2); clear hR2 hgr hb2 hB2 HG HS HA HB hc0) | (go_at_call 28; refine (top_calls g st.1 Ap cp _ (st.1.length - 1) _ HW.out.1.blk HW.out.2 (fun h0 h1 => by have := HPI.out.at_ (Nat.le_refl _) _ h0 h1; omega)).mono ?_; rintro e w' ⟨rfl, rfl⟩))
  go_loopg [5, 6] st.1.length (fun k v5 v6 w' => ∃ (a x : Int) (xs : List Int), v5 = .int .i64 a ∧ v6 = .int .i64 x ∧ Aside0 (a = k) ∧ Aside0 (k ≤ st.1.length ∧ (k = 0 → x = -1) ∧ (∀ k', k = k' + 1 → x ∈ st.1.getD k' []) ∧ chainOf st.2 k x ++ xs.drop k = longestOf l0) ∧ Aside0 (LongW w w' g Ap cp st.1 Aa ca st.2 gr st.1.length cr xs))
  case atStart =>
    refine ⟨_, _, _, rfl, rfl, ⟨rfl⟩, ⟨Nat.le_refl _, fun h => ?_, fun k' h => ?_, ?_⟩, ⟨HW.out.1⟩⟩; (rw [h]; rfl); (have := (topAt_mem HPI.out k' (by omega)).1; rwa [show (st.1.length : Int) - 1 = (k' : Int) by omega]); (rw [List.drop_of_length_le (by simp), List.append_nil, HLO.out])
  case round =>
    clear HW; obtain ⟨a, x, xs, rfl, rfl, HAK, HI, HW⟩ := hrel; have HLEN := Aside0.mk (Kd.R_reads' HW.out.RR).1
    cases gk with
    | zero =>
      obtain rfl := HI.out.2.1 rfl; obtain rfl : a = 0 := HAK.out; have HX := Aside0.mk (show xs = longestOf l0 from by have h := HI.out.2.2.2; rw [chainOf, List.nil_append, List.drop_zero] at h; exact h); clear HI
      go_wp2_with (first | (at_make; refine make_ints (w0 := w) w.heap.size 3 .i64 8 rfl rfl 22 _ _ rfl st.1.length rfl rfl Try.underlying22 hinfo3 (by decide) (by omega) HW.out.B HW.out.B.size ?_; intro go co w4 hR4 hgo hlt4 hb4 hB4; have HC := Aside0.mk (And.intro hR4 (And.intro (Kd.C_below (Kd.R_reads' HW.out.RR).2.2 hb4) hB4)); clear hR4 hgo hlt4 hb4 hB4) | (refine Kd.R_copy (enc := Value.int .i64) (h1 := fun _ => rfl) 0 (w0 := w) w.heap.size rfl (.tmp 43) (.tmp 46) 22 22 3 rfl Try.underlying22 (by kernel_rfl) (.slice (some ⟨go, 0, none⟩) st.1.length co) (List.replicate st.1.length 0) xs (some ⟨gr, 0, none⟩) st.1.length cr (fun _ => True) rfl rfl HC.out.1 (by rw [HLEN.out]; exact HC.out.2.1) HC.out.2.2 HC.out.2.2.size ?_; intro w5 hR5 hB5 _; have H5 := Aside0.mk (And.intro hR5 hB5); clear hR5 hB5))
      go_ret; refine ⟨_, rfl, ?_, H5.out.2⟩; have h := H5.out.1; have hlen := HLEN.out; rw [List.length_replicate, Nat.min_self, List.take_of_length_le (by omega), List.drop_of_length_le (by simp), List.append_nil, HX.out] at h; exact h
    | succ k =>
      have hx := HI.out.2.2.1 k rfl; obtain rfl : a = ((k + 1 : Nat) : Int) := HAK.out; obtain ⟨a0, a1, a2, a3⟩ := HAI.out k x hx
      have hkn : k < st.1.length := by have := HI.out.1; omega
      obtain ⟨hcr, hfr⟩ := Rint_at HW.out.RR k hkn
      go_upto_region 6 with (fail)
      obtain ⟨W3, hW3⟩ : ∃ W3 : World, wr.setCell ⟨gr, k, none⟩ (.int .i64 x) = W3 := ⟨_, rfl⟩; rw [hW3]; replace HW := Aside0.mk (hW3 ▸ HW.out.put k x); clear hcr hfr hW3; have hc1 := (zC HW.out.blk 1).trans rfl; have hal := HPI.out.ahl; obtain ⟨ga, ca', e, _, _, _⟩ := Kd.R_form HW.out.RA (by omega); injection e with e _ e2; subst e; subst e2; obtain ⟨hca, _⟩ := Rint_at HW.out.RA x.toNat (by omega)
      have hxa : x < (st.2.length : Int) := by omega
      have HR := Aside0.mk (show rd st.2 x = st.2.getD x.toNat 0 from rfl); obtain ⟨y, hy⟩ : ∃ y, st.2.getD x.toNat 0 = y := ⟨_, rfl⟩; rw [hy] at hca HR; clear hy hal; have HZ := Aside0.mk (And.intro a2 a3); clear a2 a3 hx
      go_wp2_with fail
      go_roundg k
      case measure => omega
      case rel =>
        have hlen := HLEN.out; refine ⟨_, y, xs.set k x, rfl, rfl, ⟨rfl⟩, ⟨by omega, fun h => ?_, fun k' h => ?_, ?_⟩, HW⟩; (rw [← HR.out]; exact HZ.out.1 h); (rw [← HR.out]; exact (HZ.out.2 k' h).1)
        · have h := HI.out.2.2.2
          rw [chainOf, HR.out] at h
          rw [← h, List.append_assoc]
          congr 1
          rw [List.drop_eq_getElem_cons (by rw [List.length_set]; omega), List.getElem_set_self, List.drop_set_of_lt (by omega)]
          rfl
end Go.Proofs.Ytconhodokldcbaa.G
namespace Go.Proofs.Ytconhodokldcbaa.G
open Go.RowKit Go.Proofs.YtconhodokldcbaaW.PrintWords Go.Proofs.YtconhodokldcbaaW.PrintLast Go.Proofs.YtconhodokldcbaaW.PrintMore
attribute [local go_sem] max2_int min2_int max_two min_two max_three min_three max_four min_four
set_option linter.unusedVariables false
set_option linter.unusedSimpArgs false
def moves_Stay.l0 : Nat → List Bool → List Int → Int → Int → Option (List Bool)
  | 0, _, _, _, _ => none
  | k + 1, x3, x13, x14, x15 => if x15 < x14 then (if 0 ≤ x15 then (if x15 < (x13.length : Int) then (if 0 ≤ (rd x13 x15) then (if (rd x13 x15) < (x3.length : Int) then (moves_Stay.l0 k (x3.set ((rd x13 x15) : Int).toNat true) x13 x14 (wrap64 (x15 + 1))) else (none)) else (none)) else (none)) else (none)) else (some x3)
def moves_Stay.f (k : Nat) (l0 : List Int) : Option (List Bool) := (moves_Check.f l0).bind fun t101 => (if t101 = 0 then (if 0 ≤ (l0.length : Int) then (if ((l0.length : Int) : Int).toNat ≤ 281474976710656 then ((lis_Longest.f l0).bind fun t105 => (moves_Stay.l0 k (List.replicate ((l0.length : Int) : Int).toNat false) t105 (t105.length : Int) 0)) else (none)) else (none)) else (some ([] : List Bool)))
theorem moves_Stay.mono_l : ∀ k, (∀ y0 y1 y2 y3, LeO (moves_Stay.l0 k y0 y1 y2 y3) (moves_Stay.l0 (k + 1) y0 y1 y2 y3))
  | 0 => fun _ _ _ _ r h => by simp [moves_Stay.l0] at h
  | k + 1 => by
    have ih0 := moves_Stay.mono_l k
    · intro y0 y1 y2 y3
      unfold moves_Stay.l0
      with_reducible repeat' first | exact ih0 _ _ _ _ | exact LeO.refl _ | exact LeO.none _ | refine LeO.ite ?_ ?_ | refine LeO.bind ?_ (fun _ => ?_)
theorem moves_Stay.mono : ∀ a0 k, LeO (moves_Stay.f k a0) (moves_Stay.f (k + 1) a0) := by
  intro a0 k; have ih0 := moves_Stay.mono_l k; unfold moves_Stay.f
  with_reducible repeat' first | exact ih0 _ _ _ _ | exact LeO.refl _ | exact LeO.none _ | refine LeO.ite ?_ ?_ | refine LeO.bind ?_ (fun _ => ?_)
set_option maxHeartbeats 8000000 in
set_option maxRecDepth 100000 in
theorem moves_Stay.calls (k : Nat) (A0 : Option Addr) (c0 : Nat) (l0 : List Int) (r : List Bool) (w : World) (hr0 : Kd.C (Kd.int .i64) w A0 l0.length l0) (hc0 : l0.length ≤ c0) (h : moves_Stay.f k l0 = some r) :
    Calls Try.prog 8 #[.slice A0 l0.length c0] w fun e w' => ∃ v0_ : Value, e = .returned (v0_) ∧ Kd.R Kd.bool 4 w' w.heap.size (fun _ => True) v0_ r ∧ Below w.heap.size w w' := by
  have HR0 := zk hr0; have HC0 := zk hc0; clear hr0 hc0; have HB := zk (Below.refl w.heap.size w); have H : ((moves_Check.f l0).bind fun t101 => (if t101 = 0 then (if 0 ≤ (l0.length : Int) then (if ((l0.length : Int) : Int).toNat ≤ 281474976710656 then ((lis_Longest.f l0).bind fun t105 => (moves_Stay.l0 k (List.replicate ((l0.length : Int) : Int).toNat false) t105 (t105.length : Int) 0)) else (none)) else (none)) else (some ([] : List Bool)))) = some r := h; clear h; replace H := Option.bind_eq_some_iff.mp H; obtain ⟨t101, A20, H⟩ := H; replace H : (if t101 = 0 then (if 0 ≤ (l0.length : Int) then (if ((l0.length : Int) : Int).toNat ≤ 281474976710656 then ((lis_Longest.f l0).bind fun t105 => (moves_Stay.l0 k (List.replicate ((l0.length : Int) : Int).toNat false) t105 (t105.length : Int) 0)) else (none)) else (none)) else (some ([] : List Bool))) = some r := H; have A2 := zk A20; clear A20
  by_cases c3 : t101 = 0
  · rw [if_pos c3] at H
    have c3b0 : (t101 == 0) = true := beq_iff_eq.mpr c3
    have c3b1 : (t101 != 0) = false := bne_eq_false_iff_eq.mpr c3
    clear c3
    by_cases c4 : 0 ≤ (l0.length : Int)
    · rw [if_pos c4] at H
      have c4b0 := eq_true c4
      have c4b1 : decide (0 ≤ (l0.length : Int)) = true := decide_eq_true c4
      clear c4
      by_cases c5 : ((l0.length : Int) : Int).toNat ≤ 281474976710656
      · rw [if_pos c5] at H
        have c5b0 := eq_true c5
        have c5b1 : decide (((l0.length : Int) : Int).toNat ≤ 281474976710656) = true := decide_eq_true c5
        clear c5
        obtain ⟨y102, hy102⟩ : ∃ y_ : List Bool, y_ = (List.replicate ((l0.length : Int) : Int).toNat false) := ⟨_, rfl⟩
        replace H : ((lis_Longest.f l0).bind fun t105 => (moves_Stay.l0 k y102 t105 (t105.length : Int) 0)) = some r := by first | (rw [hy102]; with_reducible exact H) | (have H2_ := (Option.bind_some _ _).symm.trans H; rw [hy102]; with_reducible exact H2_) | (have H2_ := (Option.bind_some _ _).symm.trans H; with_reducible exact H2_) | with_reducible exact H | (rw [hy102]; exact H) | exact H
        have Ny102 := zk hy102
        clear hy102
        replace H := Option.bind_eq_some_iff.mp H
        obtain ⟨t105, A60, H⟩ := H
        replace H : (moves_Stay.l0 k y102 t105 (t105.length : Int) 0) = some r := H
        have A6 := zk A60
        clear A60
        have H' := zk H
        clear H
        go_enter Try.func8, Try.ntmps8
        go_wp2_with (first | ((with_reducible refine zgk (f := 10) rfl ?_); refine zgl (some 7) rfl rfl Try.func10 (by kernel_rfl) rfl #[.slice A0 l0.length c0] rfl (by (try simp only [List.map_toArray, List.map_cons, List.map_nil]); first | done | rfl | (simp only [List.length_drop, List.length_take]; rfl)) ?_; (with_reducible refine (moves_Check.calls _ _ l0 t101 _ ?side1 ?side2 A2.out).mono ?_); (case side1 => repeat (first | exact HR0.out | (with_reducible refine Kd.C_alloc ?_ _) | (with_reducible refine Kd.C_drewN ?_ _) | (with_reducible refine Kd.C_drew ?_))); (case side2 => exact HC0.out); rintro e w7 ⟨rfl, hb⟩; refine ⟨_, rfl, ?_⟩; have n0_ := zk (zs (by with_reducible repeat first | exact HB.out | apply zA | apply zN | apply zD) hb); clear HB; have HB := n0_; clear n0_; (try clear hb); (try clear hb2); (try clear hk); (try clear hi)) | ((with_reducible refine zgd (N := 11) rfl ?_); refine Kd.R_make Kd.bool _ 4 rfl (N := 11) rfl 28 _ _ rfl (l0.length : Int) rfl rfl Try.underlying28 (.bool false) 1 info4 rfl (by decide) (by omega) false (ok := fun _ => True) (okp := fun _ => True) rfl (fun _ hk => hk) trivial (zo (by assumption)) (Nat.le_trans (Nat.mul_le_mul_right _ (zo (by assumption) : (l0.length : Int).toNat ≤ 281474976710656)) (by omega)) (Below.refl _ _) (Nat.le_refl _) ?_; intro v103 w8 ho9 hb hg_ hnew_; clear hg_ hnew_; (first | rw [← Ny102.out] at ho9 | (simp only [Int.reduceToNat] at ho9; rw [← Ny102.out] at ho9)); have n0_ := zk (Kd.R_lower ho9 (zq (by with_reducible repeat first | exact HB.out | apply zA | apply zN | apply zD))); have n1_ := zk (zs (by with_reducible repeat first | exact HB.out | apply zA | apply zN | apply zD) hb); clear HB; have HO104 := n0_; have HB := n1_; clear n0_ n1_; clear hb ho9) | ((with_reducible refine zgk (f := 19) rfl ?_); refine zgl (some 13) rfl rfl Try.func19 (by kernel_rfl) rfl #[.slice A0 l0.length c0] rfl (by (try simp only [List.map_toArray, List.map_cons, List.map_nil]); first | done | rfl | (simp only [List.length_drop, List.length_take]; rfl)) ?_; (with_reducible refine (lis_Longest.calls _ _ l0 t105 _ ?side1 ?side2 A6.out).mono ?_); (case side1 => repeat (first | exact (Kd.C_below HR0.out HB.out) | (with_reducible refine Kd.C_alloc ?_ _) | (with_reducible refine Kd.C_drewN ?_ _) | (with_reducible refine Kd.C_drew ?_))); (case side2 => exact HC0.out); rintro e w10 ⟨v106, rfl, ho0, hb⟩; refine ⟨_, rfl, ?_⟩; have n0_ := zk (Kd.R_below (by (with_reducible repeat (first | apply Kd.R_alloc | apply Kd.R_drewN | apply Kd.R_drew)); exact HO104.out) hb); have n1_ := zk (Kd.R_lower ho0 (zq (by with_reducible repeat first | exact HB.out | apply zA | apply zN | apply zD))); have n2_ := zk (zs (by with_reducible repeat first | exact HB.out | apply zA | apply zN | apply zD) hb); clear HO104; clear HB; have HO104 := n0_; have HO107 := n1_; have HB := n2_; clear n0_ n1_ n2_; (try clear hb); (try clear hb2); (try clear hk); (try clear hi); (try clear ho0); obtain ⟨Ao11, co11, eo11⟩ := Kd.R_slice HO107.out; subst eo11))
        go_loopg [15] k (fun kq v15 w' => ∃ (x3_1 : List Bool) (x15_1 : Int), v15 = .int .i64 x15_1 ∧ Aside0 (moves_Stay.l0 kq x3_1 t105 (t105.length : Int) x15_1 = some r) ∧ Aside0 (kq ≤ k) ∧ Aside0 (Kd.R Kd.bool 4 w' w.heap.size (fun _ => True) v103 x3_1) ∧ Aside0 (Kd.R (Kd.int .i64) 3 w' w.heap.size (fun _ => True) (.slice Ao11 t105.length co11) t105) ∧ Aside0 (Below w.heap.size w w'))
        case atStart => exact ⟨(y102), (0), (by first | rfl | (simp; done) | (simp [*]; done)), H', ⟨Nat.le_refl _⟩, ⟨by (with_reducible repeat (first | apply Kd.R_alloc | apply Kd.R_drewN | apply Kd.R_drew)); exact HO104.out⟩, ⟨by (with_reducible repeat (first | apply Kd.R_alloc | apply Kd.R_drewN | apply Kd.R_drew)); exact HO107.out⟩, ⟨by with_reducible repeat first | exact HB.out | apply zA | apply zN | apply zD⟩⟩
        case round =>
          clear H'; (try clear c1); (try clear p2); (try clear c3); (try clear c3b0); (try clear c3b1); (try clear c4); (try clear c4b0); (try clear c4b1); (try clear c5); (try clear c5b0); (try clear c5b1); (try clear c8); (try clear c10); obtain ⟨x3_1, x15_1, rfl, HA, HK1, HO_3, HO_13, HB⟩ := hrel
          cases gk with
          | zero => exact absurd HA.out (by simp [moves_Stay.l0])
          | succ k1 =>
            have H := HA.out; clear HA; simp only [moves_Stay.l0] at H
            by_cases c12 : x15_1 < (t105.length : Int)
            · rw [if_pos c12] at H
              have c12b0 := decide_eq_true c12
              clear c12
              by_cases c13 : 0 ≤ x15_1
              · rw [if_pos c13] at H
                have c13b0 : decide (0 ≤ x15_1) = true := decide_eq_true c13
                clear c13
                by_cases c14 : x15_1 < (t105.length : Int)
                · rw [if_pos c14] at H
                  have c14b0 := decide_eq_true c14
                  clear c14
                  by_cases c15 : 0 ≤ (rd t105 x15_1)
                  · rw [if_pos c15] at H
                    have c15b0 := decide_eq_true c15
                    clear c15
                    by_cases c16 : (rd t105 x15_1) < (x3_1.length : Int)
                    · rw [if_pos c16] at H
                      have c16b0 := decide_eq_true c16
                      clear c16
                      obtain ⟨y109, hy109⟩ : ∃ y_ : List Bool, y_ = (x3_1.set ((rd t105 x15_1) : Int).toNat true) := ⟨_, rfl⟩
                      replace H : (moves_Stay.l0 k1 y109 t105 (t105.length : Int) (wrap64 (x15_1 + 1))) = some r := by first | (rw [hy109]; with_reducible exact H) | (have H2_ := (Option.bind_some _ _).symm.trans H; rw [hy109]; with_reducible exact H2_) | (have H2_ := (Option.bind_some _ _).symm.trans H; with_reducible exact H2_) | with_reducible exact H | (rw [hy109]; exact H) | exact H
                      have Ny109 := zk hy109
                      clear hy109
                      have H' := zk H
                      clear H
                      have p108 : 0 ≤ (x15_1 : Int) := zo (by assumption)
                      have q108 : x15_1 < (t105.length : Int) := zo (by assumption)
                      obtain ⟨ad108, e108, hx108_0⟩ := Kd.at_int (Kd.R_reads' HO_13.out).2.2 x15_1 p108 q108
                      cases e108
                      replace p108 := eq_true p108
                      replace q108 := eq_true q108
                      have p17 : 0 ≤ ((rd t105 x15_1) : Int) := zo (by assumption)
                      have q17 : ((rd t105 x15_1) : Int) < ((x3_1.length : Int) : Int) := zo (by assumption)
                      obtain ⟨go17, co17, eo17, gb17, gl17, cl17, HG17⟩ := Kd.R_form HO_3.out (by omega)
                      (first | cases eo17 | (injection eo17 with ea_ en_ ec_; (first | subst ea_ | (injection ea_ with ea_; subst ea_)); subst ec_; clear en_))
                      have GB17 := zk gb17
                      have GG17 := zk HG17
                      clear gb17 gl17 HG17
                      obtain ⟨hx17_0, hf17_0⟩ := Kd.R_celln false HO_3.out ((rd t105 x15_1) : Int) p17 q17
                      replace p17 := eq_true p17
                      replace q17 := eq_true q17
                      have HP18 := Kd.R_putg HO_3.out ((rd t105 x15_1) : Int) true
                      go_wp2_with (first | ((with_reducible refine zgw (t := 4) (p := 21) rfl ?_); refine store_event (t := 4) (p := 21) (v := ?vo_w19) (w1 := (wr.setCell ⟨go17, ((rd t105 x15_1) : Int).toNat, none⟩ (.bool true))) ?hg ?ho ?hn ?hr ?_; (case ho => rfl); (case hg => rfl); (case hn => rfl); (case hr => go_simp; first | done | rfl); intro w19 hw; have hg : wr.grownBy w19 (some go17) := (by rw [hw]; exact HP18.2); have hp_ : Kd.R Kd.bool 4 w19 w.heap.size (fun _ => True) (.slice (some ⟨go17, 0, none⟩) x3_1.length co17) y109 := (by rw [hw, Ny109.out]; exact HP18.1); clear HP18; have n0_ := zk (hp_); have n1_ := zk (Kd.R_over' (v := (.slice (some ⟨go17, 0, none⟩) x3_1.length co17)) (by (with_reducible repeat (first | apply Kd.R_alloc | apply Kd.R_drewN | apply Kd.R_drew)); exact HO_13.out) (Kd.R_typed HO_3.out) (by decide) hg); have n2_ := zk ((by rw [hw]; exact zS (HB.out) GB17.out : Below w.heap.size w w19)); clear HO_3; clear HO_13; clear HB; have HO_3 := n0_; have HO_13 := n1_; have HB := n2_; clear n0_ n1_ n2_; clear hg hw hp_))
                      go_roundg k1
                      case measure => have := HK1.out; omega
                      case rel => exact ⟨(y109), (wrap64 (x15_1 + 1)), (by first | rfl | (simp; done) | (simp [*]; done)), H', ⟨by have := HK1.out; omega⟩, ⟨by (with_reducible repeat (first | apply Kd.R_alloc | apply Kd.R_drewN | apply Kd.R_drew)); exact HO_3.out⟩, ⟨by (with_reducible repeat (first | apply Kd.R_alloc | apply Kd.R_drewN | apply Kd.R_drew)); exact HO_13.out⟩, ⟨by with_reducible repeat first | exact HB.out | apply zA | apply zN | apply zD⟩⟩
                    · rw [if_neg c16] at H
                      exact absurd H (by simp)
                  · rw [if_neg c15] at H
                    exact absurd H (by simp)
                · rw [if_neg c14] at H
                  exact absurd H (by simp)
              · rw [if_neg c13] at H
                exact absurd H (by simp)
            · rw [if_neg c12] at H
              have c12b0 := decide_eq_false c12; clear c12; obtain rfl := Option.some.inj H; go_wp2; go_ret; exact ⟨_, by first | rfl | (simp [wN, wS] <;> rfl) | (simp [*, wN, wS] <;> rfl), by (with_reducible repeat (first | apply Kd.R_alloc | apply Kd.R_drewN | apply Kd.R_drew)); exact HO_3.out, by with_reducible repeat first | exact HB.out | apply zA | apply zN | apply zD⟩
      · rw [if_neg c5] at H
        exact absurd H (by simp)
    · rw [if_neg c4] at H
      exact absurd H (by simp)
  · rw [if_neg c3] at H
    have c3b0 : (t101 == 0) = false := beq_eq_false_iff_ne.mpr c3
    have c3b1 : (t101 != 0) = true := bne_iff_ne.mpr c3
    obtain rfl := Option.some.inj H
    go_enter Try.func8, Try.ntmps8
    go_wp2_with (first | ((with_reducible refine zgk (f := 10) rfl ?_); refine zgl (some 7) rfl rfl Try.func10 (by kernel_rfl) rfl #[.slice A0 l0.length c0] rfl (by (try simp only [List.map_toArray, List.map_cons, List.map_nil]); first | done | rfl | (simp only [List.length_drop, List.length_take]; rfl)) ?_; (with_reducible refine (moves_Check.calls _ _ l0 t101 _ ?side1 ?side2 A2.out).mono ?_); (case side1 => repeat (first | exact HR0.out | (with_reducible refine Kd.C_alloc ?_ _) | (with_reducible refine Kd.C_drewN ?_ _) | (with_reducible refine Kd.C_drew ?_))); (case side2 => exact HC0.out); rintro e w20 ⟨rfl, hb⟩; refine ⟨_, rfl, ?_⟩; have n0_ := zk (zs (by with_reducible repeat first | exact HB.out | apply zA | apply zN | apply zD) hb); clear HB; have HB := n0_; clear n0_; (try clear hb); (try clear hb2); (try clear hk); (try clear hi)))
    go_ret
    exact ⟨_, by first | rfl | (simp [wN, wS] <;> rfl) | (simp [*, wN, wS] <;> rfl), by first | exact Kd.R_nil _ _ _ _ _ | exact Kd.N_nil _ _ _ _ _ | exact Kd.V_nil _ _ _ _ _ | exact Kd.Q_nil _ _ _ _ _ | exact Kd.S_nil _ _ _ _ _, by with_reducible repeat first | exact HB.out | apply zA | apply zN | apply zD⟩
def moves_Plan.l0 : Nat → List (S36) → Int → List Bool → Int → Option ((List (S36)) × Int)
  | 0, _, _, _, _ => none
  | k + 1, x5, x6, x7, x8 => if x8 ≥ 0 then (if 0 ≤ x8 then (if x8 < (x7.length : Int) then (if rdOf false x7 x8 = true then (moves_Plan.l0 k x5 x8 x7 (wrap64 (x8 - 1))) else (if x5.length < 8796093022208 then (moves_Plan.l0 k (x5 ++ [(⟨x8, x6⟩ : S36)]) x8 x7 (wrap64 (x8 - 1))) else (none))) else (none)) else (none)) else (some (x5, 0))
def moves_Plan.f (k : Nat) (l0 : List Int) : Option ((List (S36)) × Int) := (moves_Check.f l0).bind fun t110 => (if t110 = 0 then ((moves_Stay.f k l0).bind fun t111 => (moves_Plan.l0 k ([] : List (S36)) (-1) t111 (wrap64 ((l0.length : Int) - 1)))) else (some (([] : List (S36)), t110)))
theorem moves_Plan.mono_l : ∀ k, (∀ y0 y1 y2 y3, LeO (moves_Plan.l0 k y0 y1 y2 y3) (moves_Plan.l0 (k + 1) y0 y1 y2 y3))
  | 0 => fun _ _ _ _ r h => by simp [moves_Plan.l0] at h
  | k + 1 => by
    have ih0 := moves_Plan.mono_l k
    · intro y0 y1 y2 y3
      unfold moves_Plan.l0
      with_reducible repeat' first | exact ih0 _ _ _ _ | exact moves_Stay.mono _ _ | exact LeO.refl _ | exact LeO.none _ | refine LeO.ite ?_ ?_ | refine LeO.bind ?_ (fun _ => ?_)
theorem moves_Plan.mono : ∀ a0 k, LeO (moves_Plan.f k a0) (moves_Plan.f (k + 1) a0) := by
  intro a0 k; have ih0 := moves_Plan.mono_l k; unfold moves_Plan.f
  with_reducible repeat' first | exact ih0 _ _ _ _ | exact moves_Stay.mono _ _ | exact LeO.refl _ | exact LeO.none _ | refine LeO.ite ?_ ?_ | refine LeO.bind ?_ (fun _ => ?_)
set_option maxHeartbeats 8000000 in
set_option maxRecDepth 100000 in
theorem moves_Plan.calls (k : Nat) (A0 : Option Addr) (c0 : Nat) (l0 : List Int) (r1 : List (S36)) (r2 : Int) (w : World) (hr0 : Kd.C (Kd.int .i64) w A0 l0.length l0) (hc0 : l0.length ≤ c0) (h : moves_Plan.f k l0 = some (r1, r2)) :
    Calls Try.prog 7 #[.slice A0 l0.length c0] w fun e w' => ∃ v0_ : Value, e = .returned (.tuple #[v0_, .int .i64 r2]) ∧ Kd.R k36 36 w' w.heap.size (fun _ => True) v0_ r1 ∧ Below w.heap.size w w' := by
  have hu36 := Try.underlying36; have HR0 := zk hr0; have HC0 := zk hc0; clear hr0 hc0; have HB := zk (Below.refl w.heap.size w); have H : ((moves_Check.f l0).bind fun t110 => (if t110 = 0 then ((moves_Stay.f k l0).bind fun t111 => (moves_Plan.l0 k ([] : List (S36)) (-1) t111 (wrap64 ((l0.length : Int) - 1)))) else (some (([] : List (S36)), t110)))) = some (r1, r2) := h; clear h; replace H := Option.bind_eq_some_iff.mp H; obtain ⟨t110, A20, H⟩ := H; replace H : (if t110 = 0 then ((moves_Stay.f k l0).bind fun t111 => (moves_Plan.l0 k ([] : List (S36)) (-1) t111 (wrap64 ((l0.length : Int) - 1)))) else (some (([] : List (S36)), t110))) = some (r1, r2) := H; have A2 := zk A20; clear A20
  by_cases c3 : t110 = 0
  · rw [if_pos c3] at H
    have c3b0 : (t110 == 0) = true := beq_iff_eq.mpr c3
    have c3b1 : (t110 != 0) = false := bne_eq_false_iff_eq.mpr c3
    clear c3
    replace H := Option.bind_eq_some_iff.mp H
    obtain ⟨t111, A40, H⟩ := H
    replace H : (moves_Plan.l0 k ([] : List (S36)) (-1) t111 (wrap64 ((l0.length : Int) - 1))) = some (r1, r2) := H
    have A4 := zk A40
    clear A40
    have H' := zk H
    clear H
    go_enter Try.func7, Try.ntmps7
    go_wp2_with (first | ((with_reducible refine zgk (f := 10) rfl ?_); refine zgl (some 10) rfl rfl Try.func10 (by kernel_rfl) rfl #[.slice A0 l0.length c0] rfl (by (try simp only [List.map_toArray, List.map_cons, List.map_nil]); first | done | rfl | (simp only [List.length_drop, List.length_take]; rfl)) ?_; (with_reducible refine (moves_Check.calls _ _ l0 t110 _ ?side1 ?side2 A2.out).mono ?_); (case side1 => repeat (first | exact HR0.out | (with_reducible refine Kd.C_alloc ?_ _) | (with_reducible refine Kd.C_drewN ?_ _) | (with_reducible refine Kd.C_drew ?_))); (case side2 => exact HC0.out); rintro e w5 ⟨rfl, hb⟩; refine ⟨_, rfl, ?_⟩; have n0_ := zk (zs (by with_reducible repeat first | exact HB.out | apply zA | apply zN | apply zD) hb); clear HB; have HB := n0_; clear n0_; (try clear hb); (try clear hb2); (try clear hk); (try clear hi)) | ((with_reducible refine zgk (f := 8) rfl ?_); refine zgl (some 15) rfl rfl Try.func8 (by kernel_rfl) rfl #[.slice A0 l0.length c0] rfl (by (try simp only [List.map_toArray, List.map_cons, List.map_nil]); first | done | rfl | (simp only [List.length_drop, List.length_take]; rfl)) ?_; (with_reducible refine (moves_Stay.calls k _ _ l0 t111 _ ?side1 ?side2 A4.out).mono ?_); (case side1 => repeat (first | exact (Kd.C_below HR0.out HB.out) | (with_reducible refine Kd.C_alloc ?_ _) | (with_reducible refine Kd.C_drewN ?_ _) | (with_reducible refine Kd.C_drew ?_))); (case side2 => exact HC0.out); rintro e w6 ⟨v112, rfl, ho0, hb⟩; refine ⟨_, rfl, ?_⟩; have n0_ := zk (Kd.R_lower ho0 (zq (by with_reducible repeat first | exact HB.out | apply zA | apply zN | apply zD))); have n1_ := zk (zs (by with_reducible repeat first | exact HB.out | apply zA | apply zN | apply zD) hb); clear HB; have HO113 := n0_; have HB := n1_; clear n0_ n1_; (try clear hb); (try clear hb2); (try clear hk); (try clear hi); (try clear ho0)))
    go_loopg [5, 6, 8] k (fun kq v5 v6 v8 w' => ∃ (x5_1 : List (S36)) (x6_1 : Int) (x8_1 : Int), v6 = .int .i64 x6_1 ∧ v8 = .int .i64 x8_1 ∧ Aside0 (moves_Plan.l0 kq x5_1 x6_1 t111 x8_1 = some (r1, r2)) ∧ Aside0 (kq ≤ k) ∧ Aside0 (Kd.R k36 36 w' w.heap.size (fun _ => True) v5 x5_1) ∧ Aside0 (Kd.R Kd.bool 4 w' w.heap.size (fun _ => True) v112 t111) ∧ Aside0 (Below w.heap.size w w'))
    case atStart => exact ⟨(([] : List (S36))), ((-1)), (wrap64 ((l0.length : Int) - 1)), (by first | rfl | (simp; done) | (simp [*]; done)), (by first | rfl | (simp; done) | (simp [*]; done)), H', ⟨Nat.le_refl _⟩, ⟨by first | exact Kd.R_nil _ _ _ _ _ | exact Kd.N_nil _ _ _ _ _ | exact Kd.V_nil _ _ _ _ _ | exact Kd.Q_nil _ _ _ _ _ | exact Kd.S_nil _ _ _ _ _⟩, ⟨by (with_reducible repeat (first | apply Kd.R_alloc | apply Kd.R_drewN | apply Kd.R_drew)); exact HO113.out⟩, ⟨by with_reducible repeat first | exact HB.out | apply zA | apply zN | apply zD⟩⟩
    case round =>
      clear H'; (try clear c1); (try clear p2); (try clear c3); (try clear c3b0); (try clear c3b1); (try clear p6); obtain ⟨x5_1, x6_1, x8_1, rfl, rfl, HA, HK1, HO_5, HO_7, HB⟩ := hrel
      cases gk with
      | zero => exact absurd HA.out (by simp [moves_Plan.l0])
      | succ k1 =>
        have H := HA.out; clear HA; simp only [moves_Plan.l0] at H
        by_cases c7 : x8_1 ≥ 0
        · rw [if_pos c7] at H
          have c7b0 : decide (0 ≤ x8_1) = true := decide_eq_true c7
          clear c7
          by_cases c8 : 0 ≤ x8_1
          · rw [if_pos c8] at H
            have c8b0 : decide (0 ≤ x8_1) = true := decide_eq_true c8
            clear c8
            by_cases c9 : x8_1 < (t111.length : Int)
            · rw [if_pos c9] at H
              have c9b0 : decide (x8_1 < (t111.length : Int)) = true := decide_eq_true c9
              clear c9
              obtain ⟨bq10, hbq10⟩ : ∃ b_ : Bool, b_ = (rdOf false t111 x8_1) := ⟨_, rfl⟩
              replace H : (if bq10 = true then (moves_Plan.l0 k1 x5_1 x8_1 t111 (wrap64 (x8_1 - 1))) else (if x5_1.length < 8796093022208 then (moves_Plan.l0 k1 (x5_1 ++ [(⟨x8_1, x6_1⟩ : S36)]) x8_1 t111 (wrap64 (x8_1 - 1))) else (none))) = some (r1, r2) := by rw [← hbq10] at H; exact H
              have Nbq10 := zk hbq10
              clear hbq10
              by_cases c11 : bq10 = true
              · subst c11
                have H1 : (moves_Plan.l0 k1 x5_1 x8_1 t111 (wrap64 (x8_1 - 1))) = some (r1, r2) := by rw [if_pos rfl] at H; exact H
                clear H
                have H := H1
                clear H1
                have H' := zk H
                clear H
                obtain ⟨Ao12, co12, eo12⟩ := Kd.R_slice HO_7.out
                subst eo12
                have p114 : 0 ≤ (x8_1 : Int) := zo (by assumption)
                have q114 : x8_1 < (t111.length : Int) := zo (by assumption)
                obtain ⟨ad114, e114, hx114_0⟩ := Kd.at_bool (Kd.R_reads' HO_7.out).2.2 x8_1 p114 q114
                (try rw [← Nbq10.out] at hx114_0)
                cases e114
                replace p114 := eq_true p114
                replace q114 := eq_true q114
                go_wp2
                go_roundg k1
                case measure => have := HK1.out; omega
                case rel => exact ⟨(x5_1), (x8_1), (wrap64 (x8_1 - 1)), (by first | rfl | (simp; done) | (simp [*]; done)), (by first | rfl | (simp; done) | (simp [*]; done)), H', ⟨by have := HK1.out; omega⟩, ⟨by (with_reducible repeat (first | apply Kd.R_alloc | apply Kd.R_drewN | apply Kd.R_drew)); exact HO_5.out⟩, ⟨by (with_reducible repeat (first | apply Kd.R_alloc | apply Kd.R_drewN | apply Kd.R_drew)); exact HO_7.out⟩, ⟨by with_reducible repeat first | exact HB.out | apply zA | apply zN | apply zD⟩⟩
              · replace c11 := Bool.eq_false_iff.mpr c11
                subst c11
                have H1 : (if x5_1.length < 8796093022208 then (moves_Plan.l0 k1 (x5_1 ++ [(⟨x8_1, x6_1⟩ : S36)]) x8_1 t111 (wrap64 (x8_1 - 1))) else (none)) = some (r1, r2) := by rw [if_neg (show ¬ (false = true) by decide)] at H; exact H
                clear H
                have H := H1
                clear H1
                by_cases c13 : x5_1.length < 8796093022208
                · rw [if_pos c13] at H
                  have LMc13 := zk c13
                  clear c13
                  obtain ⟨y115, hy115⟩ : ∃ y_ : List (S36), y_ = (x5_1 ++ [(⟨x8_1, x6_1⟩ : S36)]) := ⟨_, rfl⟩
                  replace H : (moves_Plan.l0 k1 y115 x8_1 t111 (wrap64 (x8_1 - 1))) = some (r1, r2) := by first | (rw [hy115]; with_reducible exact H) | (have H2_ := (Option.bind_some _ _).symm.trans H; rw [hy115]; with_reducible exact H2_) | (have H2_ := (Option.bind_some _ _).symm.trans H; with_reducible exact H2_) | with_reducible exact H | (rw [hy115]; exact H) | exact H
                  have Ny115 := zk hy115
                  clear hy115
                  have H' := zk H
                  clear H
                  obtain ⟨Ao14, co14, eo14⟩ := Kd.R_slice HO_7.out
                  subst eo14
                  have p114 : 0 ≤ (x8_1 : Int) := zo (by assumption)
                  have q114 : x8_1 < (t111.length : Int) := zo (by assumption)
                  obtain ⟨ad114, e114, hx114_0⟩ := Kd.at_bool (Kd.R_reads' HO_7.out).2.2 x8_1 p114 q114
                  (try rw [← Nbq10.out] at hx114_0)
                  cases e114
                  replace p114 := eq_true p114
                  replace q114 := eq_true q114
                  go_wp2_with (first | ((with_reducible refine zgn (b := .append) (xs := #[.tmp 28, .tmp 32]) rfl ?_); at_builtin; refine Kd.R_append k36 (w0 := w) w.heap.size rfl (.tmp 28) (.tmp 32) 24 36 (.agg #[(.int .i64 0), (.int .i64 0)]) 16 rfl Try.underlying24 info36 rfl (by decide) (by omega) u5 x5_1 (⟨x8_1, x6_1⟩ : S36) [.int .i64 x8_1, .int .i64 x6_1] (fun _ => True) (fun _ => False) rfl rfl ?aP (fun _ hk => hk.elim) ?aF ?aO ?aB ?aS ?aL ?_; (case aP => exact k36_mkM _ _ _ (⟨x8_1, x6_1⟩ : S36)); (case aB => exact (by with_reducible repeat first | exact HB.out | apply zA | apply zN | apply zD)); (case aF => exact (fun _ _ => trivial)); (case aO => exact (by (with_reducible repeat (first | apply Kd.R_alloc | apply Kd.R_drewN | apply Kd.R_drew)); exact HO_5.out)); (case aS => exact (zq (by with_reducible repeat first | exact HB.out | apply zA | apply zN | apply zD))); (case aL => have := LMc13.out; omega); intro v116 w15 ho hb hg hat; rw [← Ny115.out] at ho; have n0_ := zk (Kd.R_over' (by (with_reducible repeat (first | apply Kd.R_alloc | apply Kd.R_drewN | apply Kd.R_drew)); exact HO_7.out) (Kd.R_typed (by (with_reducible repeat (first | apply Kd.R_alloc | apply Kd.R_drewN | apply Kd.R_drew)); exact HO_5.out)) (by decide) hg); have n1_ := zk (hb); have n2_ := zk (ho); clear HO_7; clear HB; clear HO_5; have HO_7 := n0_; have HB := n1_; have HO117 := n2_; clear n0_ n1_ n2_; clear ho hb hg hat))
                  go_roundg k1
                  case measure => have := HK1.out; omega
                  case rel => exact ⟨(y115), (x8_1), (wrap64 (x8_1 - 1)), (by first | rfl | (simp; done) | (simp [*]; done)), (by first | rfl | (simp; done) | (simp [*]; done)), H', ⟨by have := HK1.out; omega⟩, ⟨by (with_reducible repeat (first | apply Kd.R_alloc | apply Kd.R_drewN | apply Kd.R_drew)); exact HO117.out⟩, ⟨by (with_reducible repeat (first | apply Kd.R_alloc | apply Kd.R_drewN | apply Kd.R_drew)); exact HO_7.out⟩, ⟨by with_reducible repeat first | exact HB.out | apply zA | apply zN | apply zD⟩⟩
                · rw [if_neg c13] at H
                  exact absurd H (by simp)
            · rw [if_neg c9] at H
              exact absurd H (by simp)
          · rw [if_neg c8] at H
            exact absurd H (by simp)
        · rw [if_neg c7] at H
          have c7b0 : decide (0 ≤ x8_1) = false := decide_eq_false c7
          clear c7
          simp only [Option.some.injEq, Prod.mk.injEq] at H
          obtain ⟨rfl, rfl⟩ := H
          go_wp2
          go_ret2
          exact ⟨_, by first | rfl | (simp [wN, wS] <;> rfl) | (simp [*, wN, wS] <;> rfl), by (with_reducible repeat (first | apply Kd.R_alloc | apply Kd.R_drewN | apply Kd.R_drew)); exact HO_5.out, by with_reducible repeat first | exact HB.out | apply zA | apply zN | apply zD⟩
  · rw [if_neg c3] at H
    have c3b0 : (t110 == 0) = false := beq_eq_false_iff_ne.mpr c3
    have c3b1 : (t110 != 0) = true := bne_iff_ne.mpr c3
    simp only [Option.some.injEq, Prod.mk.injEq] at H
    obtain ⟨rfl, rfl⟩ := H
    go_enter Try.func7, Try.ntmps7
    go_wp2_with (first | ((with_reducible refine zgk (f := 10) rfl ?_); refine zgl (some 10) rfl rfl Try.func10 (by kernel_rfl) rfl #[.slice A0 l0.length c0] rfl (by (try simp only [List.map_toArray, List.map_cons, List.map_nil]); first | done | rfl | (simp only [List.length_drop, List.length_take]; rfl)) ?_; (with_reducible refine (moves_Check.calls _ _ l0 t110 _ ?side1 ?side2 A2.out).mono ?_); (case side1 => repeat (first | exact HR0.out | (with_reducible refine Kd.C_alloc ?_ _) | (with_reducible refine Kd.C_drewN ?_ _) | (with_reducible refine Kd.C_drew ?_))); (case side2 => exact HC0.out); rintro e w16 ⟨rfl, hb⟩; refine ⟨_, rfl, ?_⟩; have n0_ := zk (zs (by with_reducible repeat first | exact HB.out | apply zA | apply zN | apply zD) hb); clear HB; have HB := n0_; clear n0_; (try clear hb); (try clear hb2); (try clear hk); (try clear hi)))
    go_ret2
    exact ⟨_, by first | rfl | (simp [wN, wS] <;> rfl) | (simp [*, wN, wS] <;> rfl), by first | exact Kd.R_nil _ _ _ _ _ | exact Kd.N_nil _ _ _ _ _ | exact Kd.V_nil _ _ _ _ _ | exact Kd.Q_nil _ _ _ _ _ | exact Kd.S_nil _ _ _ _ _, by with_reducible repeat first | exact HB.out | apply zA | apply zN | apply zD⟩
def moves_Least.l0 : Nat → List Int → Int → List Bool → Int → Int → Option (Int)
  | 0, _, _, _, _, _ => none
  | k + 1, x0, x3, x7, x8, x9 => if x9 < x8 then (if 0 ≤ x9 then (if x9 < (x7.length : Int) then (if x9 < (x0.length : Int) then (if (rd x0 x9) ≥ 0 then (if rdOf false x7 x9 = true then (moves_Least.l0 k x0 x3 x7 x8 (wrap64 (x9 + 1))) else (moves_Least.l0 k x0 (wrap64 (x3 + 1)) x7 x8 (wrap64 (x9 + 1)))) else (moves_Least.l0 k x0 x3 x7 x8 (wrap64 (x9 + 1)))) else (none)) else (none)) else (none)) else (some x3)
def moves_Least.f (k : Nat) (l0 : List Int) : Option (Int) := (moves_Stay.f k l0).bind fun t118 => (moves_Least.l0 k l0 0 t118 (t118.length : Int) 0)
theorem moves_Least.mono_l : ∀ k, (∀ y0 y1 y2 y3 y4, LeO (moves_Least.l0 k y0 y1 y2 y3 y4) (moves_Least.l0 (k + 1) y0 y1 y2 y3 y4))
  | 0 => fun _ _ _ _ _ r h => by simp [moves_Least.l0] at h
  | k + 1 => by
    have ih0 := moves_Least.mono_l k
    · intro y0 y1 y2 y3 y4
      unfold moves_Least.l0
      with_reducible repeat' first | exact ih0 _ _ _ _ _ | exact moves_Stay.mono _ _ | exact LeO.refl _ | exact LeO.none _ | refine LeO.ite ?_ ?_ | refine LeO.bind ?_ (fun _ => ?_)
theorem moves_Least.mono : ∀ a0 k, LeO (moves_Least.f k a0) (moves_Least.f (k + 1) a0) := by
  intro a0 k; have ih0 := moves_Least.mono_l k; unfold moves_Least.f
  with_reducible repeat' first | exact ih0 _ _ _ _ _ | exact moves_Stay.mono _ _ | exact LeO.refl _ | exact LeO.none _ | refine LeO.ite ?_ ?_ | refine LeO.bind ?_ (fun _ => ?_)
set_option maxHeartbeats 8000000 in
set_option maxRecDepth 100000 in
theorem moves_Least.calls (k : Nat) (A0 : Option Addr) (c0 : Nat) (l0 : List Int) (r : Int) (w : World) (hr0 : Kd.C (Kd.int .i64) w A0 l0.length l0) (hc0 : l0.length ≤ c0) (h : moves_Least.f k l0 = some r) :
    Calls Try.prog 11 #[.slice A0 l0.length c0] w fun e w' => e = .returned (.int .i64 r) ∧ Below w.heap.size w w' := by
  have HR0 := zk hr0; have HC0 := zk hc0; clear hr0 hc0; have HB := zk (Below.refl w.heap.size w); have H : ((moves_Stay.f k l0).bind fun t118 => (moves_Least.l0 k l0 0 t118 (t118.length : Int) 0)) = some r := h; clear h; replace H := Option.bind_eq_some_iff.mp H; obtain ⟨t118, A20, H⟩ := H; replace H : (moves_Least.l0 k l0 0 t118 (t118.length : Int) 0) = some r := H; have A2 := zk A20; clear A20; have H' := zk H; clear H
  go_enter Try.func11, Try.ntmps11
  go_wp2_with (first | ((with_reducible refine zgk (f := 8) rfl ?_); refine zgl (some 7) rfl rfl Try.func8 (by kernel_rfl) rfl #[.slice A0 l0.length c0] rfl (by (try simp only [List.map_toArray, List.map_cons, List.map_nil]); first | done | rfl | (simp only [List.length_drop, List.length_take]; rfl)) ?_; (with_reducible refine (moves_Stay.calls k _ _ l0 t118 _ ?side1 ?side2 A2.out).mono ?_); (case side1 => repeat (first | exact HR0.out | (with_reducible refine Kd.C_alloc ?_ _) | (with_reducible refine Kd.C_drewN ?_ _) | (with_reducible refine Kd.C_drew ?_))); (case side2 => exact HC0.out); rintro e w3 ⟨v119, rfl, ho0, hb⟩; refine ⟨_, rfl, ?_⟩; have n0_ := zk (Kd.R_lower ho0 (zq (by with_reducible repeat first | exact HB.out | apply zA | apply zN | apply zD))); have n1_ := zk (zs (by with_reducible repeat first | exact HB.out | apply zA | apply zN | apply zD) hb); clear HB; have HO120 := n0_; have HB := n1_; clear n0_ n1_; (try clear hb); (try clear hb2); (try clear hk); (try clear hi); (try clear ho0); obtain ⟨Ao4, co4, eo4⟩ := Kd.R_slice HO120.out; subst eo4))
  go_loopg [3, 9] k (fun kq v3 v9 w' => ∃ (x3_1 : Int) (x9_1 : Int), v3 = .int .i64 x3_1 ∧ v9 = .int .i64 x9_1 ∧ Aside0 (moves_Least.l0 kq l0 x3_1 t118 (t118.length : Int) x9_1 = some r) ∧ Aside0 (kq ≤ k) ∧ Aside0 (Kd.R Kd.bool 4 w' w.heap.size (fun _ => True) (.slice Ao4 t118.length co4) t118) ∧ Aside0 (Below w.heap.size w w'))
  case atStart => exact ⟨(0), (0), (by first | rfl | (simp; done) | (simp [*]; done)), (by first | rfl | (simp; done) | (simp [*]; done)), H', ⟨Nat.le_refl _⟩, ⟨by (with_reducible repeat (first | apply Kd.R_alloc | apply Kd.R_drewN | apply Kd.R_drew)); exact HO120.out⟩, ⟨by with_reducible repeat first | exact HB.out | apply zA | apply zN | apply zD⟩⟩
  case round =>
    clear H'; (try clear c1); (try clear p2); obtain ⟨x3_1, x9_1, rfl, rfl, HA, HK1, HO_7, HB⟩ := hrel
    cases gk with
    | zero => exact absurd HA.out (by simp [moves_Least.l0])
    | succ k1 =>
      have H := HA.out; clear HA; simp only [moves_Least.l0] at H
      by_cases c5 : x9_1 < (t118.length : Int)
      · rw [if_pos c5] at H
        have c5b0 : decide (x9_1 < (t118.length : Int)) = true := decide_eq_true c5
        clear c5
        by_cases c6 : 0 ≤ x9_1
        · rw [if_pos c6] at H
          have c6b0 : decide (0 ≤ x9_1) = true := decide_eq_true c6
          clear c6
          by_cases c7 : x9_1 < (t118.length : Int)
          · rw [if_pos c7] at H
            have c7b0 : decide (x9_1 < (t118.length : Int)) = true := decide_eq_true c7
            clear c7
            by_cases c8 : x9_1 < (l0.length : Int)
            · rw [if_pos c8] at H
              have c8b0 : decide (x9_1 < (l0.length : Int)) = true := decide_eq_true c8
              clear c8
              by_cases c9 : (rd l0 x9_1) ≥ 0
              · rw [if_pos c9] at H
                have c9b0 : decide (0 ≤ (rd l0 x9_1)) = true := decide_eq_true c9
                clear c9
                obtain ⟨bq10, hbq10⟩ : ∃ b_ : Bool, b_ = (rdOf false t118 x9_1) := ⟨_, rfl⟩
                replace H : (if bq10 = true then (moves_Least.l0 k1 l0 x3_1 t118 (t118.length : Int) (wrap64 (x9_1 + 1))) else (moves_Least.l0 k1 l0 (wrap64 (x3_1 + 1)) t118 (t118.length : Int) (wrap64 (x9_1 + 1)))) = some r := by rw [← hbq10] at H; exact H
                have Nbq10 := zk hbq10
                clear hbq10
                by_cases c11 : bq10 = true
                · subst c11
                  have H1 : (moves_Least.l0 k1 l0 x3_1 t118 (t118.length : Int) (wrap64 (x9_1 + 1))) = some r := by rw [if_pos rfl] at H; exact H
                  clear H
                  have H := H1
                  clear H1
                  have H' := zk H
                  clear H
                  have p121 : 0 ≤ (x9_1 : Int) := zo (by assumption)
                  have q121 : x9_1 < (t118.length : Int) := zo (by assumption)
                  obtain ⟨ad121, e121, hx121_0⟩ := Kd.at_bool (Kd.R_reads' HO_7.out).2.2 x9_1 p121 q121
                  (try rw [← Nbq10.out] at hx121_0)
                  cases e121
                  replace p121 := eq_true p121
                  replace q121 := eq_true q121
                  have p122 : 0 ≤ (x9_1 : Int) := zo (by assumption)
                  have q122 : x9_1 < (l0.length : Int) := zo (by assumption)
                  obtain ⟨ad122, e122, hx122_0⟩ := Kd.at_int HR0.out x9_1 p122 q122
                  cases e122
                  replace hx122_0 := zB HB hx122_0
                  replace p122 := eq_true p122
                  replace q122 := eq_true q122
                  go_wp2
                  go_roundg k1
                  case measure => have := HK1.out; omega
                  case rel => exact ⟨(x3_1), (wrap64 (x9_1 + 1)), (by first | rfl | (simp; done) | (simp [*]; done)), (by first | rfl | (simp; done) | (simp [*]; done)), H', ⟨by have := HK1.out; omega⟩, ⟨by (with_reducible repeat (first | apply Kd.R_alloc | apply Kd.R_drewN | apply Kd.R_drew)); exact HO_7.out⟩, ⟨by with_reducible repeat first | exact HB.out | apply zA | apply zN | apply zD⟩⟩
                · replace c11 := Bool.eq_false_iff.mpr c11
                  subst c11
                  have H1 : (moves_Least.l0 k1 l0 (wrap64 (x3_1 + 1)) t118 (t118.length : Int) (wrap64 (x9_1 + 1))) = some r := by rw [if_neg (show ¬ (false = true) by decide)] at H; exact H
                  clear H
                  have H := H1
                  clear H1
                  have H' := zk H
                  clear H
                  have p121 : 0 ≤ (x9_1 : Int) := zo (by assumption)
                  have q121 : x9_1 < (t118.length : Int) := zo (by assumption)
                  obtain ⟨ad121, e121, hx121_0⟩ := Kd.at_bool (Kd.R_reads' HO_7.out).2.2 x9_1 p121 q121
                  (try rw [← Nbq10.out] at hx121_0)
                  cases e121
                  replace p121 := eq_true p121
                  replace q121 := eq_true q121
                  have p122 : 0 ≤ (x9_1 : Int) := zo (by assumption)
                  have q122 : x9_1 < (l0.length : Int) := zo (by assumption)
                  obtain ⟨ad122, e122, hx122_0⟩ := Kd.at_int HR0.out x9_1 p122 q122
                  cases e122
                  replace hx122_0 := zB HB hx122_0
                  replace p122 := eq_true p122
                  replace q122 := eq_true q122
                  go_wp2
                  go_roundg k1
                  case measure => have := HK1.out; omega
                  case rel => exact ⟨(wrap64 (x3_1 + 1)), (wrap64 (x9_1 + 1)), (by first | rfl | (simp; done) | (simp [*]; done)), (by first | rfl | (simp; done) | (simp [*]; done)), H', ⟨by have := HK1.out; omega⟩, ⟨by (with_reducible repeat (first | apply Kd.R_alloc | apply Kd.R_drewN | apply Kd.R_drew)); exact HO_7.out⟩, ⟨by with_reducible repeat first | exact HB.out | apply zA | apply zN | apply zD⟩⟩
              · rw [if_neg c9] at H
                have c9b0 : decide (0 ≤ (rd l0 x9_1)) = false := decide_eq_false c9
                clear c9
                have H' := zk H
                clear H
                have p121 : 0 ≤ (x9_1 : Int) := zo (by assumption)
                have q121 : x9_1 < (t118.length : Int) := zo (by assumption)
                obtain ⟨ad121, e121, hx121_0⟩ := Kd.at_bool (Kd.R_reads' HO_7.out).2.2 x9_1 p121 q121
                cases e121
                replace p121 := eq_true p121
                replace q121 := eq_true q121
                have p122 : 0 ≤ (x9_1 : Int) := zo (by assumption)
                have q122 : x9_1 < (l0.length : Int) := zo (by assumption)
                obtain ⟨ad122, e122, hx122_0⟩ := Kd.at_int HR0.out x9_1 p122 q122
                cases e122
                replace hx122_0 := zB HB hx122_0
                replace p122 := eq_true p122
                replace q122 := eq_true q122
                go_wp2
                go_roundg k1
                case measure => have := HK1.out; omega
                case rel => exact ⟨(x3_1), (wrap64 (x9_1 + 1)), (by first | rfl | (simp; done) | (simp [*]; done)), (by first | rfl | (simp; done) | (simp [*]; done)), H', ⟨by have := HK1.out; omega⟩, ⟨by (with_reducible repeat (first | apply Kd.R_alloc | apply Kd.R_drewN | apply Kd.R_drew)); exact HO_7.out⟩, ⟨by with_reducible repeat first | exact HB.out | apply zA | apply zN | apply zD⟩⟩
            · rw [if_neg c8] at H
              exact absurd H (by simp)
          · rw [if_neg c7] at H
            exact absurd H (by simp)
        · rw [if_neg c6] at H
          exact absurd H (by simp)
      · rw [if_neg c5] at H
        have c5b0 : decide (x9_1 < (t118.length : Int)) = false := decide_eq_false c5; clear c5; obtain rfl := Option.some.inj H; go_wp2; go_ret; exact ⟨by first | rfl | (simp [wN, wS] <;> rfl) | (simp [*, wN, wS] <;> rfl), by with_reducible repeat first | exact HB.out | apply zA | apply zN | apply zD⟩
def slices_Index_int_int.l0 : Nat → List Int → Int → Int → Int → Option (Int)
  | 0, _, _, _, _ => none
  | k + 1, x0, x1, x7, x8 => if x8 < x7 then (if 0 ≤ x8 then (if x8 < (x0.length : Int) then (if x1 = (rd x0 x8) then (some x8) else (slices_Index_int_int.l0 k x0 x1 x7 (wrap64 (x8 + 1)))) else (none)) else (none)) else (some (-1))
def slices_Index_int_int.f (k : Nat) (l0 : List Int) (a1 : Int) : Option (Int) := slices_Index_int_int.l0 k l0 a1 (l0.length : Int) 0
set_option maxHeartbeats 8000000 in
set_option maxRecDepth 100000 in
theorem slices_Index_int_int.calls (k : Nat) (A0 : Option Addr) (c0 : Nat) (l0 : List Int) (a1 : Int) (r : Int) (w : World) (hr0 : Kd.C (Kd.int .i64) w A0 l0.length l0) (hc0 : l0.length ≤ c0) (h : slices_Index_int_int.f k l0 a1 = some r) :
    Calls Try.prog 22 #[.slice A0 l0.length c0, .int .i64 a1] w fun e w' => e = .returned (.int .i64 r) ∧ Drawn0 w w' := by
  have HR0 := zk hr0; have HC0 := zk hc0; clear hr0 hc0; have H : (slices_Index_int_int.l0 k l0 a1 (l0.length : Int) 0) = some r := h; clear h; have H' := zk H; clear H
  go_enter Try.func22, Try.ntmps22
  go_wp2
  go_loopg [8] k (fun kq v8 w' => ∃ (x8_1 : Int), v8 = .int .i64 x8_1 ∧ Aside0 (slices_Index_int_int.l0 kq l0 a1 (l0.length : Int) x8_1 = some r) ∧ Aside0 (kq ≤ k) ∧ Drawn0 w w')
  case atStart => exact ⟨(0), (by first | rfl | (simp; done) | (simp [*]; done)), H', ⟨Nat.le_refl _⟩, by repeat (first | exact Drawn0.refl _ | apply Drawn0.step)⟩
  case round =>
    clear H'; (try clear c2); (try clear p2); obtain ⟨x8_1, rfl, HA, HK1, ⟨m1, rfl⟩⟩ := hrel
    cases gk with
    | zero => exact absurd HA.out (by simp [slices_Index_int_int.l0])
    | succ k1 =>
      have H := HA.out; clear HA; simp only [slices_Index_int_int.l0] at H
      by_cases c3 : x8_1 < (l0.length : Int)
      · rw [if_pos c3] at H
        have c3b0 : decide (x8_1 < (l0.length : Int)) = true := decide_eq_true c3
        clear c3
        by_cases c4 : 0 ≤ x8_1
        · rw [if_pos c4] at H
          have c4b0 : decide (0 ≤ x8_1) = true := decide_eq_true c4
          clear c4
          by_cases c5 : x8_1 < (l0.length : Int)
          · rw [if_pos c5] at H
            have c5b0 : decide (x8_1 < (l0.length : Int)) = true := decide_eq_true c5
            clear c5
            by_cases c6 : a1 = (rd l0 x8_1)
            · rw [if_pos c6] at H
              have c6b0 : (a1 == (rd l0 x8_1)) = true := beq_iff_eq.mpr c6
              have c6b1 : (a1 != (rd l0 x8_1)) = false := bne_eq_false_iff_eq.mpr c6
              clear c6
              obtain rfl := Option.some.inj H
              have p123 : 0 ≤ (x8_1 : Int) := zo (by assumption)
              have q123 : x8_1 < (l0.length : Int) := zo (by assumption)
              obtain ⟨ad123, e123, hx123_0⟩ := Kd.at_int HR0.out x8_1 p123 q123
              cases e123
              replace p123 := eq_true p123
              replace q123 := eq_true q123
              go_wp2
              go_ret
              exact ⟨by first | rfl | (simp; done) | (simp [*]; done), by repeat (first | exact Drawn0.refl _ | apply Drawn0.step)⟩
            · rw [if_neg c6] at H
              have c6b0 : (a1 == (rd l0 x8_1)) = false := beq_eq_false_iff_ne.mpr c6
              have c6b1 : (a1 != (rd l0 x8_1)) = true := bne_iff_ne.mpr c6
              have H' := zk H
              clear H
              have p123 : 0 ≤ (x8_1 : Int) := zo (by assumption)
              have q123 : x8_1 < (l0.length : Int) := zo (by assumption)
              obtain ⟨ad123, e123, hx123_0⟩ := Kd.at_int HR0.out x8_1 p123 q123
              cases e123
              replace p123 := eq_true p123
              replace q123 := eq_true q123
              go_wp2
              go_roundg k1
              case measure => have := HK1.out; omega
              case rel => exact ⟨(wrap64 (x8_1 + 1)), (by first | rfl | (simp; done) | (simp [*]; done)), H', ⟨by have := HK1.out; omega⟩, by repeat (first | exact Drawn0.refl _ | apply Drawn0.step)⟩
          · rw [if_neg c5] at H
            exact absurd H (by simp)
        · rw [if_neg c4] at H
          exact absurd H (by simp)
      · rw [if_neg c3] at H
        have c3b0 : decide (x8_1 < (l0.length : Int)) = false := decide_eq_false c3; clear c3; obtain rfl := Option.some.inj H; go_wp2; go_ret; exact ⟨by first | rfl | (simp; done) | (simp [*]; done), by repeat (first | exact Drawn0.refl _ | apply Drawn0.step)⟩
def pl_Ints.l0 : Nat → List Int → List Int → Int → Int → Option (Bool)
  | 0, _, _, _, _ => none
  | k + 1, x0, x1, x12, x13 => if x13 < x12 then (if 0 ≤ x13 then (if x13 < (x0.length : Int) then (if x13 < (x1.length : Int) then (if (rd x0 x13) = (rd x1 x13) then (pl_Ints.l0 k x0 x1 x12 (wrap64 (x13 + 1))) else (some false)) else (none)) else (none)) else (none)) else (some true)
def pl_Ints.f (k : Nat) (l0 : List Int) (l1 : List Int) : Option (Bool) := if (l0.length : Int) = (l1.length : Int) then (pl_Ints.l0 k l0 l1 (l0.length : Int) 0) else (some false)
theorem pl_Ints.mono_l : ∀ k, (∀ y0 y1 y2 y3, LeO (pl_Ints.l0 k y0 y1 y2 y3) (pl_Ints.l0 (k + 1) y0 y1 y2 y3))
  | 0 => fun _ _ _ _ r h => by simp [pl_Ints.l0] at h
  | k + 1 => by
    have ih0 := pl_Ints.mono_l k
    · intro y0 y1 y2 y3
      unfold pl_Ints.l0
      with_reducible repeat' first | exact ih0 _ _ _ _ | exact LeO.refl _ | exact LeO.none _ | refine LeO.ite ?_ ?_ | refine LeO.bind ?_ (fun _ => ?_)
theorem pl_Ints.mono : ∀ a0 a1 k, LeO (pl_Ints.f k a0 a1) (pl_Ints.f (k + 1) a0 a1) := by
  intro a0 a1 k; have ih0 := pl_Ints.mono_l k; unfold pl_Ints.f
  with_reducible repeat' first | exact ih0 _ _ _ _ | exact LeO.refl _ | exact LeO.none _ | refine LeO.ite ?_ ?_ | refine LeO.bind ?_ (fun _ => ?_)
set_option maxHeartbeats 8000000 in
set_option maxRecDepth 100000 in
theorem pl_Ints.calls (k : Nat) (A0 : Option Addr) (c0 : Nat) (l0 : List Int) (A1 : Option Addr) (c1 : Nat) (l1 : List Int) (r : Bool) (w : World) (hr0 : Kd.C (Kd.int .i64) w A0 l0.length l0) (hc0 : l0.length ≤ c0) (hr1 : Kd.C (Kd.int .i64) w A1 l1.length l1) (hc1 : l1.length ≤ c1) (h : pl_Ints.f k l0 l1 = some r) :
    Calls Try.prog 17 #[.slice A0 l0.length c0, .slice A1 l1.length c1] w fun e w' => e = .returned (.bool r) ∧ Drawn0 w w' := by
  have HR0 := zk hr0; have HC0 := zk hc0; clear hr0 hc0; have HR1 := zk hr1; have HC1 := zk hc1; clear hr1 hc1; have H : (if (l0.length : Int) = (l1.length : Int) then (pl_Ints.l0 k l0 l1 (l0.length : Int) 0) else (some false)) = some r := h; clear h
  by_cases c3 : (l0.length : Int) = (l1.length : Int)
  · rw [if_pos c3] at H
    have c3b0 : ((l0.length : Int) == (l1.length : Int)) = true := beq_iff_eq.mpr c3
    have c3b1 : ((l0.length : Int) != (l1.length : Int)) = false := bne_eq_false_iff_eq.mpr c3
    have c3b2 : (l0.length == l1.length) = true := by first | simpa using c3 | (simp at c3 ⊢; omega)
    clear c3
    have H' := zk H
    clear H
    go_enter Try.func17, Try.ntmps17
    go_wp2
    repeat (go_quiet (fail); try go_wp2)
    go_loopg [13] k (fun kq v13 w' => ∃ (x13_1 : Int), v13 = .int .i64 x13_1 ∧ Aside0 (pl_Ints.l0 kq l0 l1 (l0.length : Int) x13_1 = some r) ∧ Aside0 (kq ≤ k) ∧ Drawn0 w w')
    case atStart => exact ⟨(0), (by first | rfl | (simp; done) | (simp [*]; done)), H', ⟨Nat.le_refl _⟩, by repeat (first | exact Drawn0.refl _ | apply Drawn0.step)⟩
    case round =>
      clear H'; (try clear c1); (try clear p2); (try clear c3); (try clear c3b0); (try clear c3b1); (try clear c3b2); obtain ⟨x13_1, rfl, HA, HK1, ⟨m1, rfl⟩⟩ := hrel
      cases gk with
      | zero => exact absurd HA.out (by simp [pl_Ints.l0])
      | succ k1 =>
        have H := HA.out; clear HA; simp only [pl_Ints.l0] at H
        by_cases c4 : x13_1 < (l0.length : Int)
        · rw [if_pos c4] at H
          have c4b0 : decide (x13_1 < (l0.length : Int)) = true := decide_eq_true c4
          clear c4
          by_cases c5 : 0 ≤ x13_1
          · rw [if_pos c5] at H
            have c5b0 : decide (0 ≤ x13_1) = true := decide_eq_true c5
            clear c5
            by_cases c6 : x13_1 < (l0.length : Int)
            · rw [if_pos c6] at H
              have c6b0 : decide (x13_1 < (l0.length : Int)) = true := decide_eq_true c6
              clear c6
              by_cases c7 : x13_1 < (l1.length : Int)
              · rw [if_pos c7] at H
                have c7b0 : decide (x13_1 < (l1.length : Int)) = true := decide_eq_true c7
                clear c7
                by_cases c8 : (rd l0 x13_1) = (rd l1 x13_1)
                · rw [if_pos c8] at H
                  have c8b0 : ((rd l0 x13_1) == (rd l1 x13_1)) = true := beq_iff_eq.mpr c8
                  have c8b1 : ((rd l0 x13_1) != (rd l1 x13_1)) = false := bne_eq_false_iff_eq.mpr c8
                  clear c8
                  have H' := zk H
                  clear H
                  have p125 : 0 ≤ (x13_1 : Int) := zo (by assumption)
                  have q125 : x13_1 < (l0.length : Int) := zo (by assumption)
                  obtain ⟨ad125, e125, hx125_0⟩ := Kd.at_int HR0.out x13_1 p125 q125
                  cases e125
                  replace p125 := eq_true p125
                  replace q125 := eq_true q125
                  have p126 : 0 ≤ (x13_1 : Int) := zo (by assumption)
                  have q126 : x13_1 < (l1.length : Int) := zo (by assumption)
                  obtain ⟨ad126, e126, hx126_0⟩ := Kd.at_int HR1.out x13_1 p126 q126
                  cases e126
                  replace p126 := eq_true p126
                  replace q126 := eq_true q126
                  go_wp2
                  repeat (go_quiet (fail); try go_wp2)
                  go_roundg k1
                  case measure => have := HK1.out; omega
                  case rel => exact ⟨(wrap64 (x13_1 + 1)), (by first | rfl | (simp; done) | (simp [*]; done)), H', ⟨by have := HK1.out; omega⟩, by repeat (first | exact Drawn0.refl _ | apply Drawn0.step)⟩
                · rw [if_neg c8] at H
                  have c8b0 : ((rd l0 x13_1) == (rd l1 x13_1)) = false := beq_eq_false_iff_ne.mpr c8
                  have c8b1 : ((rd l0 x13_1) != (rd l1 x13_1)) = true := bne_iff_ne.mpr c8
                  obtain rfl := Option.some.inj H
                  have p125 : 0 ≤ (x13_1 : Int) := zo (by assumption)
                  have q125 : x13_1 < (l0.length : Int) := zo (by assumption)
                  obtain ⟨ad125, e125, hx125_0⟩ := Kd.at_int HR0.out x13_1 p125 q125
                  cases e125
                  replace p125 := eq_true p125
                  replace q125 := eq_true q125
                  have p126 : 0 ≤ (x13_1 : Int) := zo (by assumption)
                  have q126 : x13_1 < (l1.length : Int) := zo (by assumption)
                  obtain ⟨ad126, e126, hx126_0⟩ := Kd.at_int HR1.out x13_1 p126 q126
                  cases e126
                  replace p126 := eq_true p126
                  replace q126 := eq_true q126
                  go_wp2
                  repeat (go_quiet (fail); try go_wp2)
                  go_ret
                  exact ⟨by first | rfl | (simp; done) | (simp [*]; done), by repeat (first | exact Drawn0.refl _ | apply Drawn0.step)⟩
              · rw [if_neg c7] at H
                exact absurd H (by simp)
            · rw [if_neg c6] at H
              exact absurd H (by simp)
          · rw [if_neg c5] at H
            exact absurd H (by simp)
        · rw [if_neg c4] at H
          have c4b0 : decide (x13_1 < (l0.length : Int)) = false := decide_eq_false c4
          clear c4
          obtain rfl := Option.some.inj H
          go_wp2
          repeat (go_quiet (fail); try go_wp2)
          go_ret
          exact ⟨by first | rfl | (simp; done) | (simp [*]; done), by repeat (first | exact Drawn0.refl _ | apply Drawn0.step)⟩
  · rw [if_neg c3] at H
    have c3b0 : ((l0.length : Int) == (l1.length : Int)) = false := beq_eq_false_iff_ne.mpr c3
    have c3b1 : ((l0.length : Int) != (l1.length : Int)) = true := bne_iff_ne.mpr c3
    have c3b2 : (l0.length == l1.length) = false := by first | simpa using c3 | (simp at c3 ⊢; omega)
    obtain rfl := Option.some.inj H
    go_enter Try.func17, Try.ntmps17
    go_wp2
    repeat (go_quiet (fail); try go_wp2)
    go_ret
    exact ⟨by first | rfl | (simp; done) | (simp [*]; done), by repeat (first | exact Drawn0.refl _ | apply Drawn0.step)⟩
end Go.Proofs.Ytconhodokldcbaa.G
namespace Go.Proofs.Ytconhodokldcbaa.G
open Go.RowKit Go.Proofs.YtconhodokldcbaaW.PrintWords Go.Proofs.YtconhodokldcbaaW.PrintLast Go.Proofs.YtconhodokldcbaaW.PrintMore
set_option linter.unusedVariables false
set_option linter.unusedSimpArgs false
def delI_ren : Go.Shelf.Ren := ⟨fun n => n, fun n => n, fun n => n⟩
theorem delI : Lays2.n23 Try.prog delI_ren := {
  mixed := by kernel_rfl
  f23 := Try.func23.trans (congrArg some (by kernel_rfl))
  t0 := Try.underlying0
  a0 := Try.isAgg0
  z0 := Try.sizeOf0
  v0 := Try.zeroValue0
  t3 := Try.underlying3
  a3 := Try.isAgg3
  z3 := Try.sizeOf3
  v3 := Try.zeroValue3
  t4 := Try.underlying4
  a4 := Try.isAgg4
  z4 := Try.sizeOf4
  v4 := Try.zeroValue4
  t22 := Try.underlying22
  a22 := Try.isAgg22
  z22 := Try.sizeOf22
  v22 := Try.zeroValue22
  i3 := info3
}
theorem putRow_heap (enc : Int → Value) (w : World) (g q : Nat) (d : Array Int) (k : Nat) (hk : k < w.heap.size) :
    (Go.Sort.putRow enc (Go.Sort.ahead w q) g 0 d).heap[k]? = if k = g then (w.heap[k]?).map (Go.Sort.onCells (Go.Sort.putCells enc 0 d)) else w.heap[k]? := by
  show (w.heap.modify g _)[k]? = _
  rw [Array.getElem?_modify]
  by_cases h : g = k
  (rw [if_pos h, if_pos h.symm]); (rw [if_neg h, if_neg (fun e => h e.symm)])
theorem putRow_below (enc : Int → Value) (w : World) (base g q : Nat) (d : Array Int) (hb : base ≤ g) (hg : g < w.heap.size) : Below base w (Go.Sort.putRow enc (Go.Sort.ahead w q) g 0 d) := by
  refine ⟨rfl, rfl, rfl, ?_, ?_⟩; (rw [Go.Sort.size_putRow]; exact Nat.le_refl _); (intro k hk; rw [putRow_heap _ _ _ _ _ _ (by omega), if_neg (by omega)])
theorem delete1 (w0 w : World) (hB : Below w0.heap.size w0 w) (v : Value) (L : List Int) (j : Nat) (hj : j < L.length) (h : Kd.R (Kd.int .i64) 3 w w0.heap.size (fun _ => True) v L) (hlen : L.length ≤ 1000000000) :
    Calls Try.prog 23 #[v, .int .i64 j, .int .i64 (j + 1)] w fun e w' => ∃ v', e = .returned v' ∧ Kd.R (Kd.int .i64) 3 w' w0.heap.size (fun _ => True) v' (L.take j ++ L.drop (j + 1)) ∧ Below w0.heap.size w0 w' ∧ ∀ k, k < w.heap.size → some k ≠ v.ownBlock → w'.heap[k]? = w.heap[k]? := by
  have hown := Kd.own_of_R (enc := fun x => Value.int .i64 x) h
  rcases hown.2 with ⟨rfl, h0⟩ | ⟨g, cap, cur, rfl, hbg, hcell, hnc, hcm, hsz, hin⟩
  · omega
  · have hlt := blk_lt hcell
    have hcsz : cur.size = cap := by rw [hsz]; omega
    have hH : Go.Sort.Holds (Value.int .i64) w g 0 L.toArray := by
      intro k hk
      have hk' : k < L.length := by simpa using hk
      refine ⟨?_, zR hcell _⟩; rw [zC hcell]; have e := congrArg (fun z => z[k]?) hin; simp only [Nat.mul_one] at e; rw [List.getElem?_take, if_pos hk', Array.getElem?_toList] at e; rw [Nat.zero_add, e]; unfold encs; rw [List.getElem?_map, List.getElem?_eq_getElem hk']
      have e2 : L.toArray[k]! = L[k] := by simp [hk']
      rw [e2]; rfl
    have hcon := Any.slices_Delete_int delI g 0 cap j (j + 1) L w hH hnc (by unfold maxLen at hcm; omega) (by omega) (by omega)
    refine hcon.mono ?_
    rintro e w' ⟨rfl, q, rfl⟩
    have e1 : L.length - (j + 1 - j) = L.length - 1 := by omega
    have e2 : j + 1 - j = 1 := by omega
    rw [e1, e2]
    obtain ⟨d', hd⟩ : ∃ d', L.take j ++ L.drop (j + 1) ++ List.replicate 1 (0 : Int) = d' := ⟨_, rfl⟩
    rw [hd]
    have hdl : d'.length = L.length := by rw [← hd]; simp; omega
    have hl1 : (L.take j ++ L.drop (j + 1)).length = L.length - 1 := by simp; omega
    have ht : d'.take (L.length - 1) = L.take j ++ L.drop (j + 1) := by rw [← hd, ← hl1]; exact List.take_left
    refine ⟨_, rfl, ?_, hB.trans (putRow_below _ w _ g q _ hbg hlt), fun k hk hne => by rw [putRow_heap _ _ _ _ _ _ hk, if_neg (fun e => hne (by rw [e]; rfl))]⟩
    refine Kd.R_of_own (enc := fun x => Value.int .i64 x) ⟨by simp [encs], .inr ⟨g, cap, Go.Sort.putCells (Value.int .i64) 0 d'.toArray cur, ?_, hbg, ?_, ?_, hcm, ?_, ?_⟩⟩ (fun _ _ => trivial)
    · rw [hl1]
    · rw [putRow_heap _ _ _ _ _ _ hlt, if_pos rfl, hcell]
      rfl
    · rw [hl1]; omega
    · simp [Go.Sort.putCells, hsz]
    · rw [← ht]
      apply List.ext_getElem?
      intro k
      rw [List.getElem?_take]
      have hm : (d'.take (L.length - 1)).length = L.length - 1 := by rw [List.length_take]; omega
      rw [hm]
      by_cases hk : k < L.length - 1
      · rw [if_pos (by omega), Array.getElem?_toList]
        unfold Go.Sort.putCells encs
        have hjc : k < cur.size := by omega
        have hjd : k < d'.length := by omega
        rw [List.getElem?_map, List.getElem?_take, if_pos hk]
        simp [Array.getElem?_mapIdx, hjc, hjd]
      · rw [if_neg (by omega), List.getElem?_eq_none (by simp [encs]; omega)]
/-- The place of a number, -1: none. -/
def ixF (x : Int) : List Int → Int → Int
  | [], _ => -1
  | y :: L, i => if x = y then i else ixF x L (i + 1)
theorem drop_rd (xs : List Int) (i : Nat) (hi : i < xs.length) : xs.drop i = rd xs (i : Int) :: xs.drop (i + 1) := by
  rw [List.drop_eq_getElem_cons hi]; unfold rd; rw [List.getD_eq_getElem?_getD, Int.toNat_natCast, List.getElem?_eq_getElem hi]; rfl
theorem index_l0 (L : List Int) (x : Int) (hl : L.length ≤ 1000000000) : ∀ (d i k : Nat), i + d = L.length → d < k → slices_Index_int_int.l0 k L x (L.length : Int) i = some (ixF x (L.drop i) i)
  | 0, i, k, h, hk => by
    obtain ⟨k, rfl⟩ : ∃ m, k = m + 1 := ⟨k - 1, by omega⟩
    simp only [slices_Index_int_int.l0]
    rw [if_neg (by omega), List.drop_eq_nil_of_le (by omega), ixF]
  | d + 1, i, k, h, hk => by
    obtain ⟨k, rfl⟩ : ∃ m, k = m + 1 := ⟨k - 1, by omega⟩
    simp only [slices_Index_int_int.l0]
    rw [if_pos (by omega), if_pos (by omega), if_pos (by omega), drop_rd L i (by omega), ixF]
    by_cases e : x = rd L (i : Int)
    · rw [if_pos e, if_pos e]
    · rw [if_neg e, if_neg e, show wrap64 ((i : Int) + 1) = ((i + 1 : Nat) : Int) from by unfold wrap64; omega]
      exact index_l0 L x hl d (i + 1) k (by omega) (by omega)
theorem index_f (L : List Int) (x : Int) (hl : L.length ≤ 1000000000) : slices_Index_int_int.f (L.length + 1) L x = some (ixF x L 0) := by
  unfold slices_Index_int_int.f; exact index_l0 L x hl L.length 0 (L.length + 1) (by omega) (by omega)
theorem ixF_cases (x : Int) : ∀ (L : List Int) (i : Nat), (x ∉ L ∧ ixF x L i = -1) ∨ ∃ j, j < L.length ∧ ixF x L i = ((i + j : Nat) : Int) ∧ j = L.idxOf x ∧ x ∈ L ∧ L.erase x = L.take j ++ L.drop (j + 1)
  | [], i => .inl ⟨by simp, rfl⟩
  | y :: L, i => by
    rw [ixF]
    by_cases e : x = y
    · subst e
      rw [if_pos rfl]
      exact .inr ⟨0, by simp, by simp, by simp, by simp, by simp⟩
    · rw [if_neg e]
      rcases ixF_cases x L (i + 1) with ⟨h1, h2⟩ | ⟨j, h1, h2, h3, h4, h5⟩
      · exact .inl ⟨by simp [e, h1], h2⟩
      · refine .inr ⟨j + 1, by simp; omega, ?_, ?_, by simp [h4], ?_⟩
        · rw [show ((i : Int) + 1) = ((i + 1 : Nat) : Int) from rfl, h2]
          congr 1
          omega
        · rw [List.idxOf_cons, ← h3]
          have : (y == x) = false := by simp; exact fun h => e h.symm
          rw [this]
          rfl
        · rw [List.erase_cons, if_neg (by simp; exact fun h => e h.symm), h5]
          simp
theorem twB_spec : ∀ (xs s : List Int), twB s xs = false → (∀ x ∈ xs, 0 ≤ x → x ∉ s) ∧ xs.Pairwise (fun a b => 0 ≤ a → a ≠ b)
  | [], s, _ => ⟨fun _ h _ => (by cases h), List.Pairwise.nil⟩
  | x :: xs, s, h => by
    rw [twB] at h
    split at h
    · rename_i hn
      obtain ⟨a, b⟩ := twB_spec xs s h
      refine ⟨?_, List.pairwise_cons.2 ⟨fun y _ h0 => by omega, b⟩⟩
      intro y hy h0
      rcases List.mem_cons.1 hy with rfl | hy
      · omega
      · exact a y hy h0
    · rename_i hn
      split at h
      · cases h
      · rename_i hc
        obtain ⟨a, b⟩ := twB_spec xs (x :: s) h
        refine ⟨?_, List.pairwise_cons.2 ⟨?_, b⟩⟩
        · intro y hy h0
          rcases List.mem_cons.1 hy with rfl | hy
          · simpa using hc
          · exact fun hs => a y hy h0 (List.mem_cons_of_mem _ hs)
        · intro y hy h0 e
          subst e
          exact a x hy h0 List.mem_cons_self
/-- A place among others, by what is there. -/
def insI (l : List Int) (x : Int) : List Int → List Int
  | [] => [x]
  | y :: ys => if rd l y < rd l x then y :: insI l x ys else x :: y :: ys
def standT (l : List Int) : Nat → List Int
  | 0 => []
  | i + 1 => if 0 ≤ rd l i then insI l i (standT l i) else standT l i
/-- The things that are not new, as_ they stood. -/
def standP (l : List Int) : List Int := standT l l.length
theorem insI_perm (l : List Int) (x : Int) : ∀ ys, (insI l x ys).Perm (x :: ys)
  | [] => List.Perm.refl _
  | y :: ys => by
    unfold insI
    split
    · exact (List.Perm.cons y (insI_perm l x ys)).trans (List.Perm.swap x y ys)
    · exact List.Perm.refl _
theorem insI_sorted (l : List Int) (x : Int) : ∀ ys, ys.Pairwise (fun a b => rd l a ≤ rd l b) → (insI l x ys).Pairwise (fun a b => rd l a ≤ rd l b)
  | [], _ => by simp [insI]
  | y :: ys, h => by
    rw [List.pairwise_cons] at h
    unfold insI
    split
    · rename_i hlt
      rw [List.pairwise_cons]
      refine ⟨fun z hz => ?_, insI_sorted l x ys h.2⟩
      rcases List.mem_cons.1 ((insI_perm l x ys).mem_iff.1 hz) with rfl | hz
      · omega
      · exact h.1 z hz
    · rename_i hlt
      rw [List.pairwise_cons]
      refine ⟨fun z hz => ?_, List.pairwise_cons.2 h⟩
      rcases List.mem_cons.1 hz with rfl | hz
      · omega
      · have := h.1 z hz
        omega
theorem standT_perm (l : List Int) : ∀ i, (standT l i).Perm (placesT l i)
  | 0 => List.Perm.refl _
  | i + 1 => by
    unfold standT placesT
    split
    · exact (insI_perm l i _).trans ((List.Perm.cons _ (standT_perm l i)).trans (List.perm_append_comm (l₁ := [(i : Int)])))
    · exact standT_perm l i
theorem standT_sorted (l : List Int) : ∀ i, (standT l i).Pairwise (fun a b => rd l a ≤ rd l b)
  | 0 => List.Pairwise.nil
  | i + 1 => by
    unfold standT
    split
    · exact insI_sorted l i _ (standT_sorted l i)
    · exact standT_sorted l i
theorem rd_nat (l : List Int) (i : Nat) (h : i < l.length) : rd l (i : Int) = l[i] := by
  unfold rd; rw [List.getD_eq_getElem?_getD, Int.toNat_natCast, List.getElem?_eq_getElem h]; rfl
theorem rd_ne {l : List Int} (h : twB [] l = false) (a b : Int) (ha : 0 ≤ a ∧ a < l.length ∧ 0 ≤ rd l a) (hb : 0 ≤ b ∧ b < l.length ∧ 0 ≤ rd l b) (e : rd l a = rd l b) : a = b := by
  have hp := List.pairwise_iff_getElem.1 (twB_spec l [] h).2; obtain ⟨i, rfl⟩ : ∃ i : Nat, a = i := ⟨a.toNat, by omega⟩; obtain ⟨j, rfl⟩ : ∃ j : Nat, b = j := ⟨b.toNat, by omega⟩
  have hi : i < l.length := by omega
  have hj : j < l.length := by omega
  rw [rd_nat l i hi] at ha e; rw [rd_nat l j hj] at hb e
  rcases Nat.lt_trichotomy i j with q | q | q
  (exact absurd e (hp i j hi hj q ha.2.2)); (rw [q]); (exact absurd e.symm (hp j i hj hi q hb.2.2))
theorem stand_eq {l : List Int} (h : twB [] l = false) (L : List Int) (hp : L.Perm (placesT l l.length)) (hw : L.Pairwise (fun a b => ¬ rd l b < rd l a)) : L = standP l := by
  have hpm : (standP l).Perm (placesT l l.length) := standT_perm l _; refine List.Perm.eq_of_pairwise (le := fun a b => rd l a ≤ rd l b) ?_ (hw.imp (fun h => by omega)) ?_ (hp.trans hpm.symm); (intro a b ha hb h1 h2; exact rd_ne h a b (by have := (placesT_mem l a _).1 (hp.mem_iff.1 ha); exact this) (by have := (placesT_mem l b _).1 (hpm.mem_iff.1 hb); exact this) (by omega)); (exact standT_sorted l _)
/-- A step. -/
def stepP (n : Nat) (L : List Int) (s : S36) : Option (List Int) :=
  if s.f0 < 0 ∨ (n : Int) ≤ s.f0 ∨ s.f0 = s.f1 then none
  else if s.f1 = -1 then some (L.erase s.f0 ++ [s.f0])
  else if s.f1 ∈ L.erase s.f0 then some ((L.erase s.f0).take ((L.erase s.f0).idxOf s.f1) ++ [s.f0] ++ (L.erase s.f0).drop ((L.erase s.f0).idxOf s.f1)) else none
def runP (n : Nat) : List Int → List S36 → Option (List Int)
  | L, [] => some L
  | L, s :: ss => match stepP n L s with
    | none => none
    | some L' => runP n L' ss
def doP (l : List Int) (ss : List S36) : List Int × Bool :=
  if twB [] l = true then ([], false) else match runP l.length (standP l) ss with
    | none => ([], false)
    | some L => (L, true)
def moves_Do.f (l0 : List Int) (l1 : List S36) : Option (List Int × Bool) := if l0.length ≤ 1000000 ∧ l0.all wfB = true ∧ l1.length ≤ 1000000 then some (doP l0 l1) else none
theorem erase_len (L : List Int) (x : Int) : (L.erase x).length ≤ L.length := List.length_erase_le
theorem stepP_len {n : Nat} {L : List Int} {s : S36} {L' : List Int} (h : stepP n L s = some L') : L'.length ≤ L.length + 1 := by
  have he := erase_len L s.f0; unfold stepP at h; split at h; (cases h)
  · split at h
    · obtain rfl := Option.some.inj h
      simp; omega
    · split at h
      · obtain rfl := Option.some.inj h
        simp; omega
      · cases h
theorem rd36_nat (l : List S36) (i : Nat) (h : i < l.length) : l.drop i = rd_T36 l (i : Int) :: l.drop (i + 1) := by
  rw [List.drop_eq_getElem_cons h]; unfold rd_T36; rw [List.getD_eq_getElem?_getD, Int.toNat_natCast, List.getElem?_eq_getElem h]; rfl
set_option maxHeartbeats 8000000 in
set_option maxRecDepth 100000 in
theorem moves_Do.calls (A0 : Option Addr) (c0 : Nat) (l0 : List Int) (A1 : Option Addr) (c1 : Nat) (l1 : List S36) (r1 : List Int) (r2 : Bool) (w : World) (hr0 : Kd.C (Kd.int .i64) w A0 l0.length l0) (hc0 : l0.length ≤ c0) (hr1 : Kd.C k36 w A1 l1.length l1) (hc1 : l1.length ≤ c1) (h : moves_Do.f l0 l1 = some (r1, r2)) :
    Calls Try.prog 15 #[.slice A0 l0.length c0, .slice A1 l1.length c1] w fun e w' => ∃ v0_ : Value, e = .returned (.tuple #[v0_, .bool r2]) ∧ Kd.R (Kd.int .i64) 3 w' w.heap.size (fun _ => True) v0_ r1 ∧ Below w.heap.size w w' := by
  unfold moves_Do.f at h; split at h
  case isFalse => cases h
  rename_i hg
  have h := Option.some.inj h; have HR0 := Aside0.mk hr0; have HR1 := Aside0.mk hr1; have HC0 := Aside0.mk hc0; have HG := Aside0.mk hg; have HH := Aside0.mk h; have hck := Aside0.mk (show moves_Check.f l0 = some (if twB [] l0 = true then 10 else 0) from if_pos ⟨hg.1, hg.2.1⟩); clear hr0 hr1 hc0 hc1 hg h
  cases htw : twB [] l0 with
  | true =>
    rw [htw] at hck
    have HH := Aside0.mk (show r1 = [] ∧ r2 = false from by
      have h := HH.out; unfold doP at h; rw [if_pos htw] at h; injection h with h1 h2
      exact ⟨h1.symm, h2.symm⟩)
    clear htw
    go_enter Try.func15, Try.ntmps15
    go_wp2_with (go_at_call 10; refine (moves_Check.calls A0 c0 l0 10 _ HR0.out HC0.out hck.out).mono ?_; rintro e w1 ⟨rfl, hb⟩; have B1 := Aside0.mk hb; clear hb)
    go_ret2
    exact ⟨_, by rw [HH.out.2]; rfl, by rw [HH.out.1]; exact Kd.R_nil _ _ _ _ _, B1.out⟩
  | false =>
    have HTW := Aside0.mk htw; rw [htw] at hck
    have HH := Aside0.mk (show (match runP l0.length (standP l0) l1 with | none => (([] : List Int), false) | some L => (L, true)) = (r1, r2) from by
      have h := HH.out; unfold doP at h
      rwa [if_neg (by rw [htw]; decide)] at h)
    clear htw
    go_enter Try.func15, Try.ntmps15
    go_upto_region 4 with (first
      | (go_at_call 10; refine (moves_Check.calls A0 c0 l0 0 _ HR0.out HC0.out hck.out).mono ?_; rintro e w1 ⟨rfl, hb⟩; have B1 := Aside0.mk hb; clear hb)
      | (go_at_call 21; refine (stand_walk A0 c0 l0 _ (Kd.C_below HR0.out B1.out) HG.out.1).mono ?_; rintro e w2 ⟨v2, L2, rfl, hb, hR, hperm, hpw⟩; have B2 := Aside0.mk (B1.out.trans (hb.mono B1.out.size)); have R2 := Aside0.mk (show Kd.R (Kd.int .i64) 3 w2 w.heap.size (fun _ => True) v2 (standP l0) from stand_eq HTW.out L2 hperm hpw ▸ Kd.R_lower hR B1.out.size); clear hb hR hperm hpw))
    have HSL := Aside0.mk (show (standP l0).length ≤ 1000000 from by
      have h1 := (standT_perm l0 l0.length).length_eq; have h2 := placesT_len l0 l0.length; have h3 := HG.out.1; unfold standP
      omega)
    go_wp2_with fail
    go_loopg [4, 5, 6, 8, 9, 10, 18] l1.length (fun kq v4 v5 v6 v8 v9 v10 v18 W => ∃ (i : Nat) (L : List Int), v4 = .slice none 0 0 ∧ v5 = .bool false ∧ v18 = .int .i64 (i : Int) ∧ Aside0 (i + kq = l1.length) ∧ Aside0 (Below w.heap.size w W) ∧ Aside0 (Kd.R (Kd.int .i64) 3 W w.heap.size (fun _ => True) v6 L) ∧ Aside0 (L.length ≤ 1000000 + i) ∧ Aside0 ((match runP l0.length L (l1.drop i) with | none => (([] : List Int), false) | some L => (L, true)) = (r1, r2)))
    case atStart => exact ⟨0, standP l0, rfl, rfl, rfl, ⟨by omega⟩, B2, R2, ⟨by have := HSL.out; omega⟩, by rw [List.drop_zero]; exact HH⟩
    case round =>
    clear B1 B2 R2 HH HSL; obtain ⟨i, L, rfl, rfl, rfl, HI, HB, HR, HLN, HH⟩ := hrel
    cases gk with
    | zero =>
      have hi : i = l1.length := by have := HI.out; omega
      subst hi
      have HH2 := Aside0.mk (show L = r1 ∧ true = r2 from by
        have h := HH.out; rw [List.drop_eq_nil_of_le (by have := HI.out; omega), runP] at h; injection h with h1 h2
        exact ⟨h1, h2⟩)
      go_wp2_with fail
      go_ret2
      exact ⟨_, by rw [← HH2.out.2]; rfl, HH2.out.1 ▸ HR.out, HB.out⟩
    | succ k1 =>
      have hlt : i < l1.length := by have := HI.out; omega
      have hltb : decide ((i : Int) < (l1.length : Int)) = true := decide_eq_true (by omega); have HIL := Aside0.mk hlt; obtain ⟨ad, rfl, t0, t1⟩ := at_T36 (Kd.C_below HR1.out HB.out) i (by omega) (by omega); obtain ⟨⟨x0, x1⟩, hs⟩ : ∃ s, rd_T36 l1 (i : Int) = s := ⟨_, rfl⟩; rw [hs, Int.toNat_natCast] at t0 t1
      have HH := Aside0.mk (show (match (match stepP l0.length L ⟨x0, x1⟩ with | none => none | some L' => runP l0.length L' (l1.drop (i + 1))) with | none => (([] : List Int), false) | some L => (L, true)) = (r1, r2) from by
        have h := HH.out; rw [rd36_nat l1 i HIL.out, hs, runP] at h
        exact h)
      clear hs; have HW := Aside0.mk (show wrap64 ((i : Int) + 1) = ((i + 1 : Nat) : Int) from by have := HG.out; have := HIL.out; unfold wrap64; omega)
      go_upto_region 7 with fail
      obtain ⟨W3, hW3⟩ : ∃ W3, wr.alloc (.cells #[.int .i64 x0, .int .i64 x1] 36) = W3 := ⟨_, rfl⟩; rw [hW3]; obtain ⟨gs, hgs⟩ : ∃ gs, wr.heap.size = gs := ⟨_, rfl⟩; have X3 := Aside0.mk (show W3.heap[gs]? = some (.cells #[.int .i64 x0, .int .i64 x1] 36 (0, 0)) from hgs ▸ hW3 ▸ heap_alloc_new wr _); have B3 := Aside0.mk (show Below w.heap.size w W3 from hW3 ▸ zA HB.out _); have R3 := Aside0.mk (show Kd.R (Kd.int .i64) 3 W3 w.heap.size (fun _ => True) u6 L from hW3 ▸ Kd.R_alloc HR.out _); have b30 : W3.cell? ⟨gs, 0, none⟩ = some (.int .i64 x0) := (zC X3.out 0).trans rfl; have b31 : W3.cell? ⟨gs, 1, none⟩ = some (.int .i64 x1) := (zC X3.out 1).trans rfl; rw [hgs]; clear hW3 hgs t0 t1 HB HR
      by_cases hbad : x0 < 0 ∨ (l0.length : Int) ≤ x0 ∨ x0 = x1
      · have HH2 := Aside0.mk (show r1 = [] ∧ r2 = false from by
          have h := HH.out
          have hst : stepP l0.length L ⟨x0, x1⟩ = none := by
            unfold stepP; rw [if_pos hbad]
          rw [hst] at h
          injection h with h1 h2
          exact ⟨h1.symm, h2.symm⟩)
        by_cases q1 : x0 < 0
        · have q1b : decide (x0 < 0) = true := decide_eq_true q1
          clear hbad q1
          go_wp2_with fail
          go_ret2
          exact ⟨_, by rw [HH2.out.2]; rfl, by rw [HH2.out.1]; exact Kd.R_nil _ _ _ _ _, B3.out⟩
        · have q1b : decide (x0 < 0) = false := decide_eq_false q1
          by_cases q2 : (l0.length : Int) ≤ x0
          · have q2b : decide (x0 ≥ (l0.length : Int)) = true := decide_eq_true q2
            have q2c : decide ((l0.length : Int) ≤ x0) = true := decide_eq_true q2
            clear hbad q1 q2
            go_wp2_with fail
            go_ret2
            exact ⟨_, by rw [HH2.out.2]; rfl, by rw [HH2.out.1]; exact Kd.R_nil _ _ _ _ _, B3.out⟩
          · have q2b : decide (x0 ≥ (l0.length : Int)) = false := decide_eq_false q2
            have q2c : decide ((l0.length : Int) ≤ x0) = false := decide_eq_false q2
            obtain rfl : x0 = x1 := by omega
            clear hbad q1 q2
            go_wp2_with fail
            go_ret2
            exact ⟨_, by rw [HH2.out.2]; rfl, by rw [HH2.out.1]; exact Kd.R_nil _ _ _ _ _, B3.out⟩
      have q1b : decide (x0 < 0) = false := decide_eq_false (by omega); have q2b : decide (x0 ≥ (l0.length : Int)) = false := decide_eq_false (by omega); have q2c : decide ((l0.length : Int) ≤ x0) = false := decide_eq_false (by omega)
      have q3b : (x0 == x1) = false := by simp; omega
      have HBAD := Aside0.mk hbad; clear hbad; obtain ⟨A3, c3, rfl, hc3, C3⟩ := Kd.R_reads R3.out; have C3 := Aside0.mk C3; have HC3 := Aside0.mk hc3; clear hc3
      rcases ixF_cases x0 L 0 with ⟨hin, hix⟩ | ⟨j0, hj0, hix, hz1, hz2, her⟩
      · have HIX0 := Aside0.mk (show slices_Index_int_int.f (L.length + 1) L x0 = some (-1) from hix ▸ index_f L x0 (by have := HLN.out; have := HG.out; have := HIL.out; omega))
        have HER := Aside0.mk (show L.erase x0 = L from List.erase_of_not_mem hin)
        clear hin hix
        go_upto_region 10 with (go_at_call 22; refine (slices_Index_int_int.calls _ A3 c3 L x0 (-1) _ C3.out HC3.out HIX0.out).mono ?_; rintro e W4 ⟨rfl, hb⟩; have B4 := Aside0.mk (B3.out.trans (hb.below.mono B3.out.size)); have X4 := Aside0.mk (blk_below X3.out hb.below); have R4 := Aside0.mk (show Kd.R (Kd.int .i64) 3 W4 w.heap.size (fun _ => True) (.slice A3 L.length c3) (L.erase x0) from by rw [HER.out]; exact Kd.R_below R3.out hb.below); clear hb)
        go_upto_region 12 with fail
        have b40 : W4.cell? ⟨gs, 0, none⟩ = some (.int .i64 x0) := (zC X4.out 0).trans rfl
        have b41 : W4.cell? ⟨gs, 1, none⟩ = some (.int .i64 x1) := (zC X4.out 1).trans rfl
        obtain ⟨v4, hv4⟩ : ∃ v, Value.slice A3 L.length c3 = v := ⟨_, rfl⟩
        rw [hv4] at R4 ⊢
        clear hv4
        obtain ⟨A4, c4, rfl, hc4, C4⟩ := Kd.R_reads R4.out
        have C4 := Aside0.mk C4
        have HC4 := Aside0.mk hc4
        clear hc4
        have HL4 := Aside0.mk (show (L.erase x0).length ≤ 1000000 + i from by have := HLN.out; have := erase_len L x0; omega)
        obtain ⟨M, hM⟩ : ∃ M, L.erase x0 = M := ⟨_, rfl⟩
        rw [hM] at HL4 HC4 C4 R4
        have HM := Aside0.mk hM
        rw [hM]
        clear hM
        by_cases hf : x1 = -1
        · subst hf
          have hst : Aside0 (stepP l0.length L ⟨x0, -1⟩ = some (M ++ [x0])) := ⟨by
            unfold stepP
            rw [if_neg HBAD.out, if_pos rfl, HM.out]⟩
          have HH2 := Aside0.mk (show (match runP l0.length (M ++ [x0]) (l1.drop (i + 1)) with | none => (([] : List Int), false) | some L => (L, true)) = (r1, r2) from by
            have h := HH.out; rw [hst.out] at h
            exact h)
          clear HH hst
          go_upto_region 18 with (go_at_call 24; refine (insert w (W4.alloc (.cells #[.int .i64 x0] 3)) (fun _ => True) A4 (M).length c4 (M) (M.length) x0 W4.heap.size (Kd.R_alloc R4.out _) (zA B4.out _) (blk_new W4 _) B4.out.size (fun e => by have := Kd.R_lt R4.out _ e.symm; omega) (by exact Nat.le_refl _) (by have := HL4.out; have := HG.out; have := HIL.out; omega) _ rfl).mono ?_; rintro e w9 ⟨v9, rfl, hr9, hb⟩; have R9 := Aside0.mk hr9; have B9 := Aside0.mk hb; clear hb hr9)
          go_wp2_with fail
          go_roundg k1
          case measure => omega
          case rel =>
            refine ⟨i + 1, _, rfl, rfl, by rw [HW.out], ⟨by have := HI.out; omega⟩, B9, R9, ⟨by have := HL4.out; simp only [List.length_append, List.length_take, List.length_drop, List.length_singleton]; omega⟩, ⟨?_⟩⟩; rw [List.take_length, List.drop_length, List.append_nil]; exact HH2.out
        · have e1 : (x1 == -1) = false := by simpa using hf
          have e2 : (x1 != -1) = true := by simpa using hf
          rcases ixF_cases x1 M 0 with ⟨hin, hix⟩ | ⟨j, hj, hix, hjx, hin, hz1⟩
          · have HH2 := Aside0.mk (show r1 = [] ∧ r2 = false from by
              have h := HH.out
              have hst : stepP l0.length L ⟨x0, x1⟩ = none := by
                unfold stepP; rw [if_neg HBAD.out, if_neg hf, if_neg (by rw [HM.out]; exact hin)]
              rw [hst] at h
              injection h with h1 h2
              exact ⟨h1.symm, h2.symm⟩)
            have HIX := Aside0.mk (show slices_Index_int_int.f (M.length + 1) M x1 = some (-1) from hix ▸ index_f M x1 (by have := HL4.out; have := HG.out; have := HIL.out; omega))
            clear HH hin hix
            go_wp2_with (go_at_call 22; refine (slices_Index_int_int.calls _ A4 c4 M x1 (-1) _ C4.out HC4.out HIX.out).mono ?_; rintro e w6 ⟨rfl, hb⟩; have B6 := Aside0.mk (B4.out.trans (hb.below.mono B4.out.size)); clear hb)
            go_ret2
            exact ⟨_, by rw [HH2.out.2]; rfl, by rw [HH2.out.1]; exact Kd.R_nil _ _ _ _ _, B6.out⟩
          · have HH2 := Aside0.mk (show (match runP l0.length (M.take j ++ [x0] ++ M.drop j) (l1.drop (i + 1)) with | none => (([] : List Int), false) | some L => (L, true)) = (r1, r2) from by
              have h := HH.out
              have hst : stepP l0.length L ⟨x0, x1⟩ = some (M.take j ++ [x0] ++ M.drop j) := by
                unfold stepP; rw [if_neg HBAD.out, if_neg hf, if_pos (by rw [HM.out]; exact hin), HM.out, hjx]
              rw [hst] at h
              exact h)
            have HIX := Aside0.mk (show slices_Index_int_int.f (M.length + 1) M x1 = some (j : Int) from by
              have h := index_f M x1 (by have := HL4.out; have := HG.out; have := HIL.out; omega); rw [h]
              exact congrArg some (hix.trans (by rw [Nat.zero_add])))
            have HJ := Aside0.mk hj
            clear HH hin hix hjx hj hz1
            go_upto_region 15 with (go_at_call 22; refine (slices_Index_int_int.calls _ A4 c4 M x1 j _ C4.out HC4.out HIX.out).mono ?_; rintro e w6 ⟨rfl, hb⟩; have B6 := Aside0.mk (B4.out.trans (hb.below.mono B4.out.size)); have R6 := Aside0.mk (Kd.R_below R4.out hb.below); have Q0 := Aside0.mk (And.intro (zC (blk_below X4.out hb.below) 0) (zC (blk_below X4.out hb.below) 1)); clear hb)
            have b60 : w6.cell? ⟨gs, 0, none⟩ = some (.int .i64 x0) := Q0.out.1.trans rfl
            go_upto_region 18 with (go_at_call 24; refine (insert w (w6.alloc (.cells #[.int .i64 x0] 3)) (fun _ => True) A4 (M).length c4 (M) (j) x0 w6.heap.size (Kd.R_alloc R6.out _) (zA B6.out _) (blk_new w6 _) B6.out.size (fun e => by have := Kd.R_lt R6.out _ e.symm; omega) (by have := HJ.out; omega) (by have := HL4.out; have := HG.out; have := HIL.out; omega) _ rfl).mono ?_; rintro e w9 ⟨v9, rfl, hr9, hb⟩; have R9 := Aside0.mk hr9; have B9 := Aside0.mk hb; clear hb hr9)
            go_wp2_with fail
            go_roundg k1
            case measure => omega
            case rel =>
              refine ⟨i + 1, _, rfl, rfl, by rw [HW.out], ⟨by have := HI.out; omega⟩, B9, R9, ⟨by have := HL4.out; simp only [List.length_append, List.length_take, List.length_drop, List.length_singleton]; omega⟩, ⟨HH2.out⟩⟩
      · have HIX0 := Aside0.mk (show slices_Index_int_int.f (L.length + 1) L x0 = some (j0 : Int) from by
          have h := index_f L x0 (by have := HLN.out; have := HG.out; have := HIL.out; omega)
          rw [h]
          exact congrArg some (hix.trans (by rw [Nat.zero_add])))
        have HJ0 := Aside0.mk hj0
        have HER := Aside0.mk her
        have hwj : wrap64 ((j0 : Int) + 1) = (j0 : Int) + 1 := by have := HLN.out; have := HG.out; have := HIL.out; unfold wrap64; omega
        have hjn : decide ((j0 : Int) ≥ 0) = true := decide_eq_true (by omega)
        clear hj0 hix her hz1 hz2
        go_upto_region 10 with (go_at_call 22; refine (slices_Index_int_int.calls _ A3 c3 L x0 j0 _ C3.out HC3.out HIX0.out).mono ?_; rintro e w5 ⟨rfl, hb⟩; have B5 := Aside0.mk (B3.out.trans (hb.below.mono B3.out.size)); have X5 := Aside0.mk (blk_below X3.out hb.below); have R5 := Aside0.mk (Kd.R_below R3.out hb.below); clear hb)
        go_upto_region 11 with fail
        go_upto_region 12 with (go_at_call 23; refine (delete1 w w5 B5.out _ L j0 HJ0.out R5.out (by have := HLN.out; have := HG.out; have := HIL.out; omega)).mono ?_; rintro e W4 ⟨v4, rfl, hr4, hb4, hk4⟩; have X4 := Aside0.mk ((hk4 gs (blk_lt X5.out) (Kd.R_ne R5.out X5.out (by decide))).trans X5.out); have R4 := Aside0.mk (show Kd.R (Kd.int .i64) 3 W4 w.heap.size (fun _ => True) v4 (L.erase x0) from by rw [HER.out]; exact hr4); have B4 := Aside0.mk hb4; clear hr4 hb4 hk4)
        have b40 : W4.cell? ⟨gs, 0, none⟩ = some (.int .i64 x0) := (zC X4.out 0).trans rfl
        have b41 : W4.cell? ⟨gs, 1, none⟩ = some (.int .i64 x1) := (zC X4.out 1).trans rfl
        obtain ⟨A4, c4, rfl, hc4, C4⟩ := Kd.R_reads R4.out
        have C4 := Aside0.mk C4
        have HC4 := Aside0.mk hc4
        clear hc4
        have HL4 := Aside0.mk (show (L.erase x0).length ≤ 1000000 + i from by have := HLN.out; have := erase_len L x0; omega)
        obtain ⟨M, hM⟩ : ∃ M, L.erase x0 = M := ⟨_, rfl⟩
        rw [hM] at HL4 HC4 C4 R4
        have HM := Aside0.mk hM
        rw [hM]
        clear hM
        by_cases hf : x1 = -1
        · subst hf
          have hst : Aside0 (stepP l0.length L ⟨x0, -1⟩ = some (M ++ [x0])) := ⟨by
            unfold stepP
            rw [if_neg HBAD.out, if_pos rfl, HM.out]⟩
          have HH2 := Aside0.mk (show (match runP l0.length (M ++ [x0]) (l1.drop (i + 1)) with | none => (([] : List Int), false) | some L => (L, true)) = (r1, r2) from by
            have h := HH.out; rw [hst.out] at h
            exact h)
          clear HH hst
          go_upto_region 18 with (go_at_call 24; refine (insert w (W4.alloc (.cells #[.int .i64 x0] 3)) (fun _ => True) A4 (M).length c4 (M) (M.length) x0 W4.heap.size (Kd.R_alloc R4.out _) (zA B4.out _) (blk_new W4 _) B4.out.size (fun e => by have := Kd.R_lt R4.out _ e.symm; omega) (by exact Nat.le_refl _) (by have := HL4.out; have := HG.out; have := HIL.out; omega) _ rfl).mono ?_; rintro e w9 ⟨v9, rfl, hr9, hb⟩; have R9 := Aside0.mk hr9; have B9 := Aside0.mk hb; clear hb hr9)
          go_wp2_with fail
          go_roundg k1
          case measure => omega
          case rel =>
            refine ⟨i + 1, _, rfl, rfl, by rw [HW.out], ⟨by have := HI.out; omega⟩, B9, R9, ⟨by have := HL4.out; simp only [List.length_append, List.length_take, List.length_drop, List.length_singleton]; omega⟩, ⟨?_⟩⟩; rw [List.take_length, List.drop_length, List.append_nil]; exact HH2.out
        · have e1 : (x1 == -1) = false := by simpa using hf
          have e2 : (x1 != -1) = true := by simpa using hf
          rcases ixF_cases x1 M 0 with ⟨hin, hix⟩ | ⟨j, hj, hix, hjx, hin, hz1⟩
          · have HH2 := Aside0.mk (show r1 = [] ∧ r2 = false from by
              have h := HH.out
              have hst : stepP l0.length L ⟨x0, x1⟩ = none := by
                unfold stepP; rw [if_neg HBAD.out, if_neg hf, if_neg (by rw [HM.out]; exact hin)]
              rw [hst] at h
              injection h with h1 h2
              exact ⟨h1.symm, h2.symm⟩)
            have HIX := Aside0.mk (show slices_Index_int_int.f (M.length + 1) M x1 = some (-1) from hix ▸ index_f M x1 (by have := HL4.out; have := HG.out; have := HIL.out; omega))
            clear HH hin hix
            go_wp2_with (go_at_call 22; refine (slices_Index_int_int.calls _ A4 c4 M x1 (-1) _ C4.out HC4.out HIX.out).mono ?_; rintro e w6 ⟨rfl, hb⟩; have B6 := Aside0.mk (B4.out.trans (hb.below.mono B4.out.size)); clear hb)
            go_ret2
            exact ⟨_, by rw [HH2.out.2]; rfl, by rw [HH2.out.1]; exact Kd.R_nil _ _ _ _ _, B6.out⟩
          · have HH2 := Aside0.mk (show (match runP l0.length (M.take j ++ [x0] ++ M.drop j) (l1.drop (i + 1)) with | none => (([] : List Int), false) | some L => (L, true)) = (r1, r2) from by
              have h := HH.out
              have hst : stepP l0.length L ⟨x0, x1⟩ = some (M.take j ++ [x0] ++ M.drop j) := by
                unfold stepP; rw [if_neg HBAD.out, if_neg hf, if_pos (by rw [HM.out]; exact hin), HM.out, hjx]
              rw [hst] at h
              exact h)
            have HIX := Aside0.mk (show slices_Index_int_int.f (M.length + 1) M x1 = some (j : Int) from by
              have h := index_f M x1 (by have := HL4.out; have := HG.out; have := HIL.out; omega); rw [h]
              exact congrArg some (hix.trans (by rw [Nat.zero_add])))
            have HJ := Aside0.mk hj
            clear HH hin hix hjx hj hz1
            go_upto_region 15 with (go_at_call 22; refine (slices_Index_int_int.calls _ A4 c4 M x1 j _ C4.out HC4.out HIX.out).mono ?_; rintro e w6 ⟨rfl, hb⟩; have B6 := Aside0.mk (B4.out.trans (hb.below.mono B4.out.size)); have R6 := Aside0.mk (Kd.R_below R4.out hb.below); have Q0 := Aside0.mk (And.intro (zC (blk_below X4.out hb.below) 0) (zC (blk_below X4.out hb.below) 1)); clear hb)
            have b60 : w6.cell? ⟨gs, 0, none⟩ = some (.int .i64 x0) := Q0.out.1.trans rfl
            go_upto_region 18 with (go_at_call 24; refine (insert w (w6.alloc (.cells #[.int .i64 x0] 3)) (fun _ => True) A4 (M).length c4 (M) (j) x0 w6.heap.size (Kd.R_alloc R6.out _) (zA B6.out _) (blk_new w6 _) B6.out.size (fun e => by have := Kd.R_lt R6.out _ e.symm; omega) (by have := HJ.out; omega) (by have := HL4.out; have := HG.out; have := HIL.out; omega) _ rfl).mono ?_; rintro e w9 ⟨v9, rfl, hr9, hb⟩; have R9 := Aside0.mk hr9; have B9 := Aside0.mk hb; clear hb hr9)
            go_wp2_with fail
            go_roundg k1
            case measure => omega
            case rel =>
              refine ⟨i + 1, _, rfl, rfl, by rw [HW.out], ⟨by have := HI.out; omega⟩, B9, R9, ⟨by have := HL4.out; simp only [List.length_append, List.length_take, List.length_drop, List.length_singleton]; omega⟩, ⟨HH2.out⟩⟩
end Go.Proofs.Ytconhodokldcbaa.G
namespace Go.Proofs.Ytconhodokldcbaa.G
open Go.RowKit Go.Proofs.YtconhodokldcbaaW.PrintWords Go.Proofs.YtconhodokldcbaaW.PrintLast Go.Proofs.YtconhodokldcbaaW.PrintMore
attribute [local go_sem] max2_int min2_int max_two min_two max_three min_three max_four min_four
set_option linter.unusedVariables false
set_option linter.unusedSimpArgs false
attribute [local go_sem high] eqA36
def lw_same.f0 (k : Nat)  : Option (Bool) := (moves_Plan.f k (([1, 2, 0] : List Int))).bind fun bt130 => ((moves_Do.f (([1, 2, 0] : List Int)) bt130.1).bind fun bt137 => (if bt130.2 = 0 then (if (bt130.1.length : Int) = 1 then (if 0 < (bt130.1.length : Int) then (if (((rd_T36 bt130.1 0).f0) == 2 && (((rd_T36 bt130.1 0).f1) == (-1))) = true then (if bt137.2 = true then ((pl_Ints.f k bt137.1 (([0, 1, 2] : List Int))).bind fun t145 => (if t145 = true then ((moves_Least.f k (([2, 1, 0] : List Int))).bind fun t149 => (some (t149 == 2))) else (some false))) else (some false)) else (some false)) else (none)) else (some false)) else (some false)))
theorem lw_same.mono0 : ∀ k, LeO (lw_same.f0 k ) (lw_same.f0 (k + 1) ) := by
 intro  k
 unfold lw_same.f0
 with_reducible repeat' first | exact moves_Least.mono _ _ | exact moves_Plan.mono _ _ | exact pl_Ints.mono _ _ _ | exact LeO.refl _ | exact LeO.none _ | refine LeO.ite ?_ ?_ | refine LeO.bind ?_ (fun _ => ?_)
def lw_same.f (k : Nat) : Option Bool := (lw_same.f0 k).bind fun b => if b = true then some true else none
theorem lw_same.mono : ∀ k, LeO (lw_same.f k ) (lw_same.f (k + 1) ) := by
  intro  k; unfold lw_same.f; exact LeO.bind (lw_same.mono0  k) (fun _ => LeO.refl _)
set_option maxHeartbeats 8000000 in
set_option maxRecDepth 100000 in
theorem lw_same.calls (k : Nat)  (r : Bool) (w : World) (h : lw_same.f k  = some r) :
  Calls Try.prog 6 #[] w fun e w' => e = .returned (.bool r) ∧ Below w.heap.size w w' := by
 obtain ⟨b_, hb_, hr_⟩ := Option.bind_eq_some_iff.1 h
 split at hr_
 case isFalse => cases hr_
 rename_i hbt_
 subst hbt_
 obtain rfl := Option.some.inj hr_
 obtain ⟨r, hr2_⟩ : ∃ r : Bool, r = true := ⟨_, rfl⟩
 rw [← hr2_] at hb_ ⊢
 have HR_ := zk hr2_
 clear hr_ hr2_ h
 have h := hb_
 clear hb_
 have hu36 := Try.underlying36
 have HB := zk (Below.refl w.heap.size w)
 have H : ((moves_Plan.f k (([1, 2, 0] : List Int))).bind fun bt130 => ((moves_Do.f (([1, 2, 0] : List Int)) bt130.1).bind fun bt137 => (if bt130.2 = 0 then (if (bt130.1.length : Int) = 1 then (if 0 < (bt130.1.length : Int) then (if (((rd_T36 bt130.1 0).f0) == 2 && (((rd_T36 bt130.1 0).f1) == (-1))) = true then (if bt137.2 = true then ((pl_Ints.f k bt137.1 (([0, 1, 2] : List Int))).bind fun t145 => (if t145 = true then ((moves_Least.f k (([2, 1, 0] : List Int))).bind fun t149 => (some (t149 == 2))) else (some false))) else (some false)) else (some false)) else (none)) else (some false)) else (some false)))) = some r := h
 clear h
 obtain ⟨y127, hy127⟩ : ∃ y_ : List Int, y_ = (([1, 2, 0] : List Int)) := ⟨_, rfl⟩
 replace H : ((moves_Plan.f k y127).bind fun bt130 => ((moves_Do.f (([1, 2, 0] : List Int)) bt130.1).bind fun bt137 => (if bt130.2 = 0 then (if (bt130.1.length : Int) = 1 then (if 0 < (bt130.1.length : Int) then (if (((rd_T36 bt130.1 0).f0) == 2 && (((rd_T36 bt130.1 0).f1) == (-1))) = true then (if bt137.2 = true then ((pl_Ints.f k bt137.1 (([0, 1, 2] : List Int))).bind fun t145 => (if t145 = true then ((moves_Least.f k (([2, 1, 0] : List Int))).bind fun t149 => (some (t149 == 2))) else (some false))) else (some false)) else (some false)) else (none)) else (some false)) else (some false)))) = some r := by first | (rw [hy127]; with_reducible exact H) | (have H2_ := (Option.bind_some _ _).symm.trans H; rw [hy127]; with_reducible exact H2_) | (have H2_ := (Option.bind_some _ _).symm.trans H; with_reducible exact H2_) | with_reducible exact H | (rw [hy127]; exact H) | exact H
 have Ny127 := zk hy127
 clear hy127
 replace H := Option.bind_eq_some_iff.mp H
 obtain ⟨⟨t130, t131⟩, A10, H⟩ := H
 replace H : ((moves_Do.f (([1, 2, 0] : List Int)) t130).bind fun bt137 => (if t131 = 0 then (if (t130.length : Int) = 1 then (if 0 < (t130.length : Int) then (if (((rd_T36 t130 0).f0) == 2 && (((rd_T36 t130 0).f1) == (-1))) = true then (if bt137.2 = true then ((pl_Ints.f k bt137.1 (([0, 1, 2] : List Int))).bind fun t145 => (if t145 = true then ((moves_Least.f k (([2, 1, 0] : List Int))).bind fun t149 => (some (t149 == 2))) else (some false))) else (some false)) else (some false)) else (none)) else (some false)) else (some false))) = some r := H
 have A1 := zk A10
 clear A10
 obtain ⟨y134, hy134⟩ : ∃ y_ : List Int, y_ = (([1, 2, 0] : List Int)) := ⟨_, rfl⟩
 replace H : ((moves_Do.f y134 t130).bind fun bt137 => (if t131 = 0 then (if (t130.length : Int) = 1 then (if 0 < (t130.length : Int) then (if (((rd_T36 t130 0).f0) == 2 && (((rd_T36 t130 0).f1) == (-1))) = true then (if bt137.2 = true then ((pl_Ints.f k bt137.1 (([0, 1, 2] : List Int))).bind fun t145 => (if t145 = true then ((moves_Least.f k (([2, 1, 0] : List Int))).bind fun t149 => (some (t149 == 2))) else (some false))) else (some false)) else (some false)) else (none)) else (some false)) else (some false))) = some r := by first | (rw [hy134]; with_reducible exact H) | (have H2_ := (Option.bind_some _ _).symm.trans H; rw [hy134]; with_reducible exact H2_) | (have H2_ := (Option.bind_some _ _).symm.trans H; with_reducible exact H2_) | with_reducible exact H | (rw [hy134]; exact H) | exact H
 have Ny134 := zk hy134
 clear hy134
 replace H := Option.bind_eq_some_iff.mp H
 obtain ⟨⟨t137, t138⟩, A20, H⟩ := H
 replace H : (if t131 = 0 then (if (t130.length : Int) = 1 then (if 0 < (t130.length : Int) then (if (((rd_T36 t130 0).f0) == 2 && (((rd_T36 t130 0).f1) == (-1))) = true then (if t138 = true then ((pl_Ints.f k t137 (([0, 1, 2] : List Int))).bind fun t145 => (if t145 = true then ((moves_Least.f k (([2, 1, 0] : List Int))).bind fun t149 => (some (t149 == 2))) else (some false))) else (some false)) else (some false)) else (none)) else (some false)) else (some false)) = some r := H
 have A2 := zk A20
 clear A20
 by_cases c3 : t131 = 0
 ·
  rw [if_pos c3] at H; have c3b0 : (t131 == 0) = true := beq_iff_eq.mpr c3; have c3b1 : (t131 != 0) = false := bne_eq_false_iff_eq.mpr c3; clear c3
  by_cases c4 : (t130.length : Int) = 1
  ·
   rw [if_pos c4] at H; have c4b0 : ((t130.length : Int) == 1) = true := beq_iff_eq.mpr c4; have c4b1 : ((t130.length : Int) != 1) = false := bne_eq_false_iff_eq.mpr c4; clear c4
   by_cases c5 : 0 < (t130.length : Int)
   ·
    rw [if_pos c5] at H; have c5b0 : decide (0 < (t130.length : Int)) = true := decide_eq_true c5; have c5b1 : decide (0 < t130.length) = true := decide_eq_true (by omega); clear c5
    by_cases c6 : (((rd_T36 t130 0).f0) == 2 && (((rd_T36 t130 0).f1) == (-1))) = true
    ·
     rw [if_pos c6] at H; have c6b0 : (((rd_T36 t130 0).f0) == 2 && (((rd_T36 t130 0).f1) == (-1))) = true := c6
     (try (have c6b1 : decide (((rd_T36 t130 0).f0) = 2 && (((rd_T36 t130 0).f1) == (-1))) = true := by simpa using c6))
     (try (have c6b2 : (((rd_T36 t130 0).f0) == 2 && (((rd_T36 t130 0).f1) == (-1))) = true := by simpa using c6))
     clear c6
     by_cases c7 : t138 = true
     ·
      subst c7
      have H1 : ((pl_Ints.f k t137 (([0, 1, 2] : List Int))).bind fun t145 => (if t145 = true then ((moves_Least.f k (([2, 1, 0] : List Int))).bind fun t149 => (some (t149 == 2))) else (some false))) = some r := by rw [if_pos rfl] at H; exact H
      clear H; have H := H1; clear H1; obtain ⟨y142, hy142⟩ : ∃ y_ : List Int, y_ = (([0, 1, 2] : List Int)) := ⟨_, rfl⟩
      replace H : ((pl_Ints.f k t137 y142).bind fun t145 => (if t145 = true then ((moves_Least.f k (([2, 1, 0] : List Int))).bind fun t149 => (some (t149 == 2))) else (some false))) = some r := by first | (rw [hy142]; with_reducible exact H) | (have H2_ := (Option.bind_some _ _).symm.trans H; rw [hy142]; with_reducible exact H2_) | (have H2_ := (Option.bind_some _ _).symm.trans H; with_reducible exact H2_) | with_reducible exact H | (rw [hy142]; exact H) | exact H
      have Ny142 := zk hy142; clear hy142; replace H := Option.bind_eq_some_iff.mp H; obtain ⟨t145, A80, H⟩ := H; replace H : (if t145 = true then ((moves_Least.f k (([2, 1, 0] : List Int))).bind fun t149 => (some (t149 == 2))) else (some false)) = some r := H; have A8 := zk A80; clear A80
      by_cases c9 : t145 = true
      ·
       subst c9
       have H1 : ((moves_Least.f k (([2, 1, 0] : List Int))).bind fun t149 => (some (t149 == 2))) = some r := by rw [if_pos rfl] at H; exact H
       clear H; have H := H1; clear H1; obtain ⟨y146, hy146⟩ : ∃ y_ : List Int, y_ = (([2, 1, 0] : List Int)) := ⟨_, rfl⟩
       replace H : ((moves_Least.f k y146).bind fun t149 => (some (t149 == 2))) = some r := by first | (rw [hy146]; with_reducible exact H) | (have H2_ := (Option.bind_some _ _).symm.trans H; rw [hy146]; with_reducible exact H2_) | (have H2_ := (Option.bind_some _ _).symm.trans H; with_reducible exact H2_) | with_reducible exact H | (rw [hy146]; exact H) | exact H
       have Ny146 := zk hy146; clear hy146; replace H := Option.bind_eq_some_iff.mp H; obtain ⟨t149, A100, H⟩ := H; replace H : (some (t149 == 2)) = some r := H; have A10 := zk A100; clear A100; obtain rfl := Option.some.inj H
       go_enter Try.func6, Try.ntmps6
       go_wp2_with (first | ((with_reducible refine zgd (N := 6) rfl ?_); (try (refine zgg (by rfl) ?_; dsimp only)); refine Kd.R_lit (Kd.int .i64) _ 3 ?hg (N := 6) ?hd (xs := ([1, 2, 0] : List Int)) (inner := [.int .i64 1, .int .i64 2, .int .i64 0]) (ok := fun _ => True) (okp := fun _ => True) ?hr ?hp (fun _ hk => hk) trivial (Below.refl _ _) (Nat.le_refl _) (by simp) ?_; (case hd => rfl); (case hg => rfl); (case hr => go_simp; first | done | rfl); (case hp => exact (Reps.one (show Kd.M (Kd.int .i64) _ _ _ 1 [.int .i64 1] from rfl) (Reps.one (show Kd.M (Kd.int .i64) _ _ _ 2 [.int .i64 2] from rfl) (Reps.one (show Kd.M (Kd.int .i64) _ _ _ 0 [.int .i64 0] from rfl) (Reps.none _ _))))); intro v128 w11 ho12 hb hg_ hnew_; clear hg_ hnew_; (first | rw [← Ny127.out] at ho12 | (simp only [Int.reduceToNat] at ho12; rw [← Ny127.out] at ho12)); have n0_ := zk (Kd.R_lower ho12 (zq (by with_reducible repeat first | exact HB.out | apply zA | apply zN | apply zD))); have n1_ := zk (zs (by with_reducible repeat first | exact HB.out | apply zA | apply zN | apply zD) hb); clear HB; have HO129 := n0_; have HB := n1_; clear n0_ n1_; clear hb ho12; obtain ⟨Ao13, co13, eo13⟩ := Kd.R_slice HO129.out; subst eo13) | ((with_reducible refine zgk (f := 7) rfl ?_); refine zgl (some 7) rfl rfl Try.func7 (by kernel_rfl) rfl #[.slice Ao13 y127.length co13] rfl (by (try simp only [List.map_toArray, List.map_cons, List.map_nil]); first | done | rfl | (simp only [List.length_drop, List.length_take]; rfl)) ?_; (with_reducible refine (moves_Plan.calls k _ _ y127 t130 t131 _ ?side1 ?side2 A1.out).mono ?_); (case side1 => repeat (first | exact (Kd.R_reads' HO129.out).2.2 | (with_reducible refine Kd.C_alloc ?_ _) | (with_reducible refine Kd.C_drewN ?_ _) | (with_reducible refine Kd.C_drew ?_))); (case side2 => exact (Kd.R_reads' HO129.out).2.1); rintro e w14 ⟨v132, rfl, ho0, hb⟩; refine ⟨_, rfl, ?_⟩; have n0_ := zk (Kd.R_below (by (with_reducible repeat (first | apply Kd.R_alloc | apply Kd.R_drewN | apply Kd.R_drew)); exact HO129.out) hb); have n1_ := zk (Kd.R_lower ho0 (zq (by with_reducible repeat first | exact HB.out | apply zA | apply zN | apply zD))); have n2_ := zk (zs (by with_reducible repeat first | exact HB.out | apply zA | apply zN | apply zD) hb); clear HO129; clear HB; have HO129 := n0_; have HO133 := n1_; have HB := n2_; clear n0_ n1_ n2_; (try clear hb); (try clear hb2); (try clear hk); (try clear hi); (try clear ho0)) | ((with_reducible refine zgd (N := 11) rfl ?_); (try (refine zgg (by rfl) ?_; dsimp only)); refine Kd.R_lit (Kd.int .i64) _ 3 ?hg (N := 11) ?hd (xs := ([1, 2, 0] : List Int)) (inner := [.int .i64 1, .int .i64 2, .int .i64 0]) (ok := fun _ => True) (okp := fun _ => True) ?hr ?hp (fun _ hk => hk) trivial (Below.refl _ _) (Nat.le_refl _) (by simp) ?_; (case hd => rfl); (case hg => rfl); (case hr => go_simp; first | done | rfl); (case hp => exact (Reps.one (show Kd.M (Kd.int .i64) _ _ _ 1 [.int .i64 1] from rfl) (Reps.one (show Kd.M (Kd.int .i64) _ _ _ 2 [.int .i64 2] from rfl) (Reps.one (show Kd.M (Kd.int .i64) _ _ _ 0 [.int .i64 0] from rfl) (Reps.none _ _))))); intro v135 w15 ho16 hb hg_ hnew_; clear hg_ hnew_; (first | rw [← Ny134.out] at ho16 | (simp only [Int.reduceToNat] at ho16; rw [← Ny134.out] at ho16)); have n0_ := zk (Kd.R_elder' (by (with_reducible repeat (first | apply Kd.R_alloc | apply Kd.R_drewN | apply Kd.R_drew)); exact HO129.out) (Kd.R_base ho16) hb); have n1_ := zk (Kd.R_below (by (with_reducible repeat (first | apply Kd.R_alloc | apply Kd.R_drewN | apply Kd.R_drew)); exact HO133.out) hb); have n2_ := zk (Kd.R_lower (Kd.R_new' ho16 (Kd.R_lt (by (with_reducible repeat (first | apply Kd.R_alloc | apply Kd.R_drewN | apply Kd.R_drew)); exact HO129.out))) (zq (by with_reducible repeat first | exact HB.out | apply zA | apply zN | apply zD))); have n3_ := zk (zs (by with_reducible repeat first | exact HB.out | apply zA | apply zN | apply zD) hb); clear HO129; clear HO133; clear HB; have HO129 := n0_; have HO133 := n1_; have HO136 := n2_; have HB := n3_; clear n0_ n1_ n2_ n3_; clear hb ho16; obtain ⟨Ao17, co17, eo17⟩ := Kd.R_slice HO136.out; subst eo17; obtain ⟨Ao18, co18, eo18⟩ := Kd.R_slice HO133.out; subst eo18) | ((with_reducible refine zgk (f := 15) rfl ?_); refine zgl (some 13) rfl rfl Try.func15 (by kernel_rfl) rfl #[.slice Ao17 y134.length co17, .slice Ao18 t130.length co18] rfl (by (try simp only [List.map_toArray, List.map_cons, List.map_nil]); first | done | rfl | (simp only [List.length_drop, List.length_take]; rfl)) ?_; (with_reducible refine (moves_Do.calls _ _ y134 _ _ t130 t137 true _ ?side1 ?side2 ?side3 ?side4 A2.out).mono ?_); (case side1 => repeat (first | exact (Kd.R_reads' HO136.out).2.2 | (with_reducible refine Kd.C_alloc ?_ _) | (with_reducible refine Kd.C_drewN ?_ _) | (with_reducible refine Kd.C_drew ?_))); (case side2 => exact (Kd.R_reads' HO136.out).2.1); (case side3 => repeat (first | exact (Kd.R_reads' HO133.out).2.2 | (with_reducible refine Kd.C_alloc ?_ _) | (with_reducible refine Kd.C_drewN ?_ _) | (with_reducible refine Kd.C_drew ?_))); (case side4 => exact (Kd.R_reads' HO133.out).2.1); rintro e w19 ⟨v139, rfl, ho0, hb⟩; refine ⟨_, rfl, ?_⟩; have n0_ := zk (Kd.R_elder' (by (with_reducible repeat (first | apply Kd.R_alloc | apply Kd.R_drewN | apply Kd.R_drew)); exact HO129.out) (Kd.R_base ho0) hb); have n1_ := zk (Kd.R_below (by (with_reducible repeat (first | apply Kd.R_alloc | apply Kd.R_drewN | apply Kd.R_drew)); exact HO133.out) hb); have n2_ := zk (Kd.R_elder' (by (with_reducible repeat (first | apply Kd.R_alloc | apply Kd.R_drewN | apply Kd.R_drew)); exact HO136.out) (Kd.R_base ho0) hb); have n3_ := zk (Kd.R_lower (Kd.R_new' (Kd.R_new' ho0 (Kd.R_lt (by (with_reducible repeat (first | apply Kd.R_alloc | apply Kd.R_drewN | apply Kd.R_drew)); exact HO129.out))) (Kd.R_lt (by (with_reducible repeat (first | apply Kd.R_alloc | apply Kd.R_drewN | apply Kd.R_drew)); exact HO136.out))) (zq (by with_reducible repeat first | exact HB.out | apply zA | apply zN | apply zD))); have n4_ := zk (zs (by with_reducible repeat first | exact HB.out | apply zA | apply zN | apply zD) hb); clear HO129; clear HO133; clear HO136; clear HB; have HO129 := n0_; have HO133 := n1_; have HO136 := n2_; have HO140 := n3_; have HB := n4_; clear n0_ n1_ n2_ n3_ n4_; (try clear hb); (try clear hb2); (try clear hk); (try clear hi); (try clear ho0); have p141 : 0 ≤ (0 : Int) := (by omega); have q141 : 0 < (t130.length : Int) := zo (by assumption); obtain ⟨ad141, e141, hx141_0, hx141_1⟩ := at_T36 (Kd.R_reads' HO133.out).2.2 0 p141 q141; cases e141; have qi141 : (0 < t130.length) = True := eq_true (by omega); (try rw [show ((0 : Int)).toNat = 0 from rfl] at hx141_0); (try rw [show 0 * 2 = 0 from rfl] at hx141_0); (try rw [Addr.add_zero'] at hx141_0); (try rw [show ((0 : Int)).toNat = 0 from rfl] at hx141_1); (try rw [show 0 * 2 = 0 from rfl] at hx141_1); (try rw [Addr.add_zero'] at hx141_1); replace p141 := eq_true p141; replace q141 := eq_true q141) | ((with_reducible refine zgd (N := 35) rfl ?_); (try (refine zgg (by rfl) ?_; dsimp only)); refine Kd.R_lit (Kd.int .i64) _ 3 ?hg (N := 35) ?hd (xs := ([0, 1, 2] : List Int)) (inner := [.int .i64 0, .int .i64 1, .int .i64 2]) (ok := fun _ => True) (okp := fun _ => True) ?hr ?hp (fun _ hk => hk) trivial (Below.refl _ _) (Nat.le_refl _) (by simp) ?_; (case hd => rfl); (case hg => rfl); (case hr => go_simp; first | done | rfl); (case hp => exact (Reps.one (show Kd.M (Kd.int .i64) _ _ _ 0 [.int .i64 0] from rfl) (Reps.one (show Kd.M (Kd.int .i64) _ _ _ 1 [.int .i64 1] from rfl) (Reps.one (show Kd.M (Kd.int .i64) _ _ _ 2 [.int .i64 2] from rfl) (Reps.none _ _))))); intro v143 w20 ho21 hb hg_ hnew_; clear hg_ hnew_; (first | rw [← Ny142.out] at ho21 | (simp only [Int.reduceToNat] at ho21; rw [← Ny142.out] at ho21)); have n0_ := zk (Kd.R_elder' (by (with_reducible repeat (first | apply Kd.R_alloc | apply Kd.R_drewN | apply Kd.R_drew)); exact HO129.out) (Kd.R_base ho21) hb); have n1_ := zk (Kd.R_below (by (with_reducible repeat (first | apply Kd.R_alloc | apply Kd.R_drewN | apply Kd.R_drew)); exact HO133.out) hb); have n2_ := zk (Kd.R_elder' (by (with_reducible repeat (first | apply Kd.R_alloc | apply Kd.R_drewN | apply Kd.R_drew)); exact HO136.out) (Kd.R_base ho21) hb); have n3_ := zk (Kd.R_elder' (by (with_reducible repeat (first | apply Kd.R_alloc | apply Kd.R_drewN | apply Kd.R_drew)); exact HO140.out) (Kd.R_base ho21) hb); have n4_ := zk (Kd.R_lower (Kd.R_new' (Kd.R_new' (Kd.R_new' ho21 (Kd.R_lt (by (with_reducible repeat (first | apply Kd.R_alloc | apply Kd.R_drewN | apply Kd.R_drew)); exact HO129.out))) (Kd.R_lt (by (with_reducible repeat (first | apply Kd.R_alloc | apply Kd.R_drewN | apply Kd.R_drew)); exact HO136.out))) (Kd.R_lt (by (with_reducible repeat (first | apply Kd.R_alloc | apply Kd.R_drewN | apply Kd.R_drew)); exact HO140.out))) (zq (by with_reducible repeat first | exact HB.out | apply zA | apply zN | apply zD))); have n5_ := zk (zs (by with_reducible repeat first | exact HB.out | apply zA | apply zN | apply zD) hb); clear HO129; clear HO133; clear HO136; clear HO140; clear HB; have HO129 := n0_; have HO133 := n1_; have HO136 := n2_; have HO140 := n3_; have HO144 := n4_; have HB := n5_; clear n0_ n1_ n2_ n3_ n4_ n5_; clear hb ho21; obtain ⟨Ao22, co22, eo22⟩ := Kd.R_slice HO140.out; subst eo22; obtain ⟨Ao23, co23, eo23⟩ := Kd.R_slice HO144.out; subst eo23) | (go_at_call 17; (with_reducible refine (pl_Ints.calls k _ _ t137 _ _ y142 true _ ?side1 ?side2 ?side3 ?side4 A8.out).mono ?_); (case side1 => repeat (first | exact (Kd.R_reads' HO140.out).2.2 | (with_reducible refine Kd.C_alloc ?_ _) | (with_reducible refine Kd.C_drewN ?_ _) | (with_reducible refine Kd.C_drew ?_))); (case side2 => exact (Kd.R_reads' HO140.out).2.1); (case side3 => repeat (first | exact (Kd.R_reads' HO144.out).2.2 | (with_reducible refine Kd.C_alloc ?_ _) | (with_reducible refine Kd.C_drewN ?_ _) | (with_reducible refine Kd.C_drew ?_))); (case side4 => exact (Kd.R_reads' HO144.out).2.1); rintro e w' ⟨rfl, ⟨nd, rfl⟩⟩) | ((with_reducible refine zgd (N := 39) rfl ?_); (try (refine zgg (by rfl) ?_; dsimp only)); refine Kd.R_lit (Kd.int .i64) _ 3 ?hg (N := 39) ?hd (xs := ([2, 1, 0] : List Int)) (inner := [.int .i64 2, .int .i64 1, .int .i64 0]) (ok := fun _ => True) (okp := fun _ => True) ?hr ?hp (fun _ hk => hk) trivial (Below.refl _ _) (Nat.le_refl _) (by simp) ?_; (case hd => rfl); (case hg => rfl); (case hr => go_simp; first | done | rfl); (case hp => exact (Reps.one (show Kd.M (Kd.int .i64) _ _ _ 2 [.int .i64 2] from rfl) (Reps.one (show Kd.M (Kd.int .i64) _ _ _ 1 [.int .i64 1] from rfl) (Reps.one (show Kd.M (Kd.int .i64) _ _ _ 0 [.int .i64 0] from rfl) (Reps.none _ _))))); intro v147 w24 ho25 hb hg_ hnew_; clear hg_ hnew_; (first | rw [← Ny146.out] at ho25 | (simp only [Int.reduceToNat] at ho25; rw [← Ny146.out] at ho25)); have n0_ := zk (Kd.R_elder' (by (with_reducible repeat (first | apply Kd.R_alloc | apply Kd.R_drewN | apply Kd.R_drew)); exact HO129.out) (Kd.R_base ho25) hb); have n1_ := zk (Kd.R_below (by (with_reducible repeat (first | apply Kd.R_alloc | apply Kd.R_drewN | apply Kd.R_drew)); exact HO133.out) hb); have n2_ := zk (Kd.R_elder' (by (with_reducible repeat (first | apply Kd.R_alloc | apply Kd.R_drewN | apply Kd.R_drew)); exact HO136.out) (Kd.R_base ho25) hb); have n3_ := zk (Kd.R_elder' (by (with_reducible repeat (first | apply Kd.R_alloc | apply Kd.R_drewN | apply Kd.R_drew)); exact HO140.out) (Kd.R_base ho25) hb); have n4_ := zk (Kd.R_elder' (by (with_reducible repeat (first | apply Kd.R_alloc | apply Kd.R_drewN | apply Kd.R_drew)); exact HO144.out) (Kd.R_base ho25) hb); have n5_ := zk (Kd.R_lower (Kd.R_new' (Kd.R_new' (Kd.R_new' (Kd.R_new' ho25 (Kd.R_lt (by (with_reducible repeat (first | apply Kd.R_alloc | apply Kd.R_drewN | apply Kd.R_drew)); exact HO129.out))) (Kd.R_lt (by (with_reducible repeat (first | apply Kd.R_alloc | apply Kd.R_drewN | apply Kd.R_drew)); exact HO136.out))) (Kd.R_lt (by (with_reducible repeat (first | apply Kd.R_alloc | apply Kd.R_drewN | apply Kd.R_drew)); exact HO140.out))) (Kd.R_lt (by (with_reducible repeat (first | apply Kd.R_alloc | apply Kd.R_drewN | apply Kd.R_drew)); exact HO144.out))) (zq (by with_reducible repeat first | exact HB.out | apply zA | apply zN | apply zD))); have n6_ := zk (zs (by with_reducible repeat first | exact HB.out | apply zA | apply zN | apply zD) hb); clear HO129; clear HO133; clear HO136; clear HO140; clear HO144; clear HB; have HO129 := n0_; have HO133 := n1_; have HO136 := n2_; have HO140 := n3_; have HO144 := n4_; have HO148 := n5_; have HB := n6_; clear n0_ n1_ n2_ n3_ n4_ n5_ n6_; clear hb ho25; obtain ⟨Ao26, co26, eo26⟩ := Kd.R_slice HO148.out; subst eo26) | (go_at_call 11; (with_reducible refine (moves_Least.calls k _ _ y146 t149 _ ?side1 ?side2 A10.out).mono ?_); (case side1 => repeat (first | exact (Kd.R_reads' HO148.out).2.2 | (with_reducible refine Kd.C_alloc ?_ _) | (with_reducible refine Kd.C_drewN ?_ _) | (with_reducible refine Kd.C_drew ?_))); (case side2 => exact (Kd.R_reads' HO148.out).2.1); rintro e w27 ⟨rfl, hb⟩; have n0_ := zk (Kd.R_below (by (with_reducible repeat (first | apply Kd.R_alloc | apply Kd.R_drewN | apply Kd.R_drew)); exact HO129.out) hb); have n1_ := zk (Kd.R_below (by (with_reducible repeat (first | apply Kd.R_alloc | apply Kd.R_drewN | apply Kd.R_drew)); exact HO133.out) hb); have n2_ := zk (Kd.R_below (by (with_reducible repeat (first | apply Kd.R_alloc | apply Kd.R_drewN | apply Kd.R_drew)); exact HO136.out) hb); have n3_ := zk (Kd.R_below (by (with_reducible repeat (first | apply Kd.R_alloc | apply Kd.R_drewN | apply Kd.R_drew)); exact HO140.out) hb); have n4_ := zk (Kd.R_below (by (with_reducible repeat (first | apply Kd.R_alloc | apply Kd.R_drewN | apply Kd.R_drew)); exact HO144.out) hb); have n5_ := zk (Kd.R_below (by (with_reducible repeat (first | apply Kd.R_alloc | apply Kd.R_drewN | apply Kd.R_drew)); exact HO148.out) hb); have n6_ := zk (zs (by with_reducible repeat first | exact HB.out | apply zA | apply zN | apply zD) hb); clear HO129; clear HO133; clear HO136; clear HO140; clear HO144; clear HO148; clear HB; have HO129 := n0_; have HO133 := n1_; have HO136 := n2_; have HO140 := n3_; have HO144 := n4_; have HO148 := n5_; have HB := n6_; clear n0_ n1_ n2_ n3_ n4_ n5_ n6_; (try clear hb); (try clear hb2); (try clear hk); (try clear hi)))
       go_ret; exact ⟨by first | rfl | (simp [wN, wS] <;> rfl) | (simp [*, wN, wS] <;> rfl), by with_reducible repeat first | exact HB.out | apply zA | apply zN | apply zD⟩
      ·
       replace c9 := Bool.eq_false_iff.mpr c9; subst c9
       have H1 : (some false) = some r := by rw [if_neg (show ¬ (false = true) by decide)] at H; exact H
       clear H; have H := H1; clear H1; exact absurd ((Option.some.inj H).trans HR_.out) (by decide)
     ·
      replace c7 := Bool.eq_false_iff.mpr c7; subst c7
      have H1 : (some false) = some r := by rw [if_neg (show ¬ (false = true) by decide)] at H; exact H
      clear H; have H := H1; clear H1; exact absurd ((Option.some.inj H).trans HR_.out) (by decide)
    ·
     rw [if_neg c6] at H
     have c6b0 : (((rd_T36 t130 0).f0) == 2 && (((rd_T36 t130 0).f1) == (-1))) = false := by simpa using c6
     (try (have c6b1 : decide (((rd_T36 t130 0).f0) = 2 && (((rd_T36 t130 0).f1) == (-1))) = false := by simpa using c6))
     (try (have c6b2 : (((rd_T36 t130 0).f0) == 2 && (((rd_T36 t130 0).f1) == (-1))) = false := by simpa using c6))
     (try (have c6b3 : ¬ (((rd_T36 t130 0).f0) = 2 && (((rd_T36 t130 0).f1) == (-1))) := by simpa using c6))
     clear c6; exact absurd ((Option.some.inj H).trans HR_.out) (by decide)
   ·
    rw [if_neg c5] at H; exact absurd H (by simp)
  ·
   rw [if_neg c4] at H; have c4b0 : ((t130.length : Int) == 1) = false := beq_eq_false_iff_ne.mpr c4; have c4b1 : ((t130.length : Int) != 1) = true := bne_iff_ne.mpr c4; exact absurd ((Option.some.inj H).trans HR_.out) (by decide)
 ·
  rw [if_neg c3] at H; have c3b0 : (t131 == 0) = false := beq_eq_false_iff_ne.mpr c3; have c3b1 : (t131 != 0) = true := bne_iff_ne.mpr c3; exact absurd ((Option.some.inj H).trans HR_.out) (by decide)
mutual
def r08_Twice.l0 : Nat → List Int → Int → Int → Option (Bool)
  | 0, _, _, _ => none
  | k + 1, x0, x6, x7 => if x7 < x6 then (r08_Twice.l1 k x0 x7 x6 x7 x7 0) else (some false)
def r08_Twice.l1 : Nat → List Int → Int → Int → Int → Int → Int → Option (Bool)
  | 0, _, _, _, _, _, _ => none
  | k + 1, x0, x3, x6, x7, x10, x11 => if x11 < x10 then (if 0 ≤ x3 then (if x3 < (x0.length : Int) then (if (rd x0 x3) ≥ 0 then (if 0 ≤ x11 then (if x11 < (x0.length : Int) then (if (rd x0 x3) = (rd x0 x11) then (some true) else (r08_Twice.l1 k x0 x3 x6 x7 x10 (wrap64 (x11 + 1)))) else (none)) else (none)) else (r08_Twice.l1 k x0 x3 x6 x7 x10 (wrap64 (x11 + 1)))) else (none)) else (none)) else (r08_Twice.l0 k x0 x6 (wrap64 (x7 + 1)))
end
def r08_Twice.f (k : Nat) (l0 : List Int) : Option (Bool) := r08_Twice.l0 k l0 (l0.length : Int) 0
set_option maxHeartbeats 8000000 in
set_option maxRecDepth 100000 in
theorem r08_Twice.calls (k : Nat) (A0 : Option Addr) (c0 : Nat) (l0 : List Int) (r : Bool) (w : World) (hr0 : Kd.C (Kd.int .i64) w A0 l0.length l0) (hc0 : l0.length ≤ c0) (h : r08_Twice.f k l0 = some r) :
    Calls Try.prog 9 #[.slice A0 l0.length c0] w fun e w' => e = .returned (.bool r) ∧ Drawn0 w w' := by
  have HR0 := zk hr0; have HC0 := zk hc0; clear hr0 hc0; have H : (r08_Twice.l0 k l0 (l0.length : Int) 0) = some r := h; clear h; have H' := zk H; clear H
  go_enter Try.func9, Try.ntmps9
  go_wp2
  repeat (go_quiet (fail); try go_wp2)
  go_loopg [7] k (fun kq v7 w' => ∃ (x7_1 : Int), v7 = .int .i64 x7_1 ∧ Aside0 (r08_Twice.l0 kq l0 (l0.length : Int) x7_1 = some r) ∧ Aside0 (kq ≤ k) ∧ Drawn0 w w')
  case atStart => exact ⟨(0), (by first | rfl | (simp; done) | (simp [*]; done)), H', ⟨Nat.le_refl _⟩, by repeat (first | exact Drawn0.refl _ | apply Drawn0.step)⟩
  case round =>
    clear H'; obtain ⟨x7_1, rfl, HA, HK1, ⟨m1, rfl⟩⟩ := hrel
    cases gk with
    | zero => exact absurd HA.out (by simp [r08_Twice.l0])
    | succ k1 =>
      have H := HA.out; clear HA; simp only [r08_Twice.l0] at H
      by_cases c2 : x7_1 < (l0.length : Int)
      · rw [if_pos c2] at H
        have c2b0 := decide_eq_true c2
        clear c2
        have H' := zk H
        clear H
        go_wp2
        repeat (go_quiet (fail); try go_wp2)
        go_loopg [11] k1 (fun kq v11 w' => ∃ (x11_2 : Int), v11 = .int .i64 x11_2 ∧ Aside0 (r08_Twice.l1 kq l0 x7_1 (l0.length : Int) x7_1 x7_1 x11_2 = some r) ∧ Aside0 (kq ≤ k1) ∧ Drawn0 w w')
        case atStart => exact ⟨(0), (by first | rfl | (simp; done) | (simp [*]; done)), H', ⟨Nat.le_refl _⟩, by repeat (first | exact Drawn0.refl _ | apply Drawn0.step)⟩
        case round =>
          clear H'; (try clear c2); (try clear c2b0); (try clear p2); obtain ⟨x11_2, rfl, HA, HK2, ⟨m2, rfl⟩⟩ := hrel
          cases gk with
          | zero => exact absurd HA.out (by simp [r08_Twice.l1])
          | succ k2 =>
            have H := HA.out; clear HA; simp only [r08_Twice.l1] at H
            by_cases c3 : x11_2 < x7_1
            · rw [if_pos c3] at H
              have c3b0 : decide (x11_2 < x7_1) = true := decide_eq_true c3
              clear c3
              by_cases c4 : 0 ≤ x7_1
              · rw [if_pos c4] at H
                have c4b0 : decide (0 ≤ x7_1) = true := decide_eq_true c4
                clear c4
                by_cases c5 : x7_1 < (l0.length : Int)
                · rw [if_pos c5] at H
                  have c5b0 : decide (x7_1 < (l0.length : Int)) = true := decide_eq_true c5
                  clear c5
                  by_cases c6 : (rd l0 x7_1) ≥ 0
                  · rw [if_pos c6] at H
                    have c6b0 : decide (0 ≤ (rd l0 x7_1)) = true := decide_eq_true c6
                    clear c6
                    by_cases c7 : 0 ≤ x11_2
                    · rw [if_pos c7] at H
                      have c7b0 : decide (0 ≤ x11_2) = true := decide_eq_true c7
                      clear c7
                      by_cases c8 : x11_2 < (l0.length : Int)
                      · rw [if_pos c8] at H
                        have c8b0 := decide_eq_true c8
                        clear c8
                        by_cases c9 : (rd l0 x7_1) = (rd l0 x11_2)
                        · rw [if_pos c9] at H
                          have c9b0 : ((rd l0 x7_1) == (rd l0 x11_2)) = true := beq_iff_eq.mpr c9
                          have c9b1 : ((rd l0 x7_1) != (rd l0 x11_2)) = false := bne_eq_false_iff_eq.mpr c9
                          clear c9
                          obtain rfl := Option.some.inj H
                          have p150 : 0 ≤ (x7_1 : Int) := zo (by assumption)
                          have q150 : x7_1 < (l0.length : Int) := zo (by assumption)
                          obtain ⟨ad150, e150, hx150_0⟩ := Kd.at_int HR0.out x7_1 p150 q150
                          cases e150
                          replace p150 := eq_true p150
                          replace q150 := eq_true q150
                          have p151 : 0 ≤ (x7_1 : Int) := zo (by assumption)
                          have q151 : x7_1 < (l0.length : Int) := zo (by assumption)
                          obtain ⟨ad151, e151, hx151_0⟩ := Kd.at_int HR0.out x7_1 p151 q151
                          obtain rfl : ad150 = ad151 := (by injection e151)
                          replace p151 := eq_true p151
                          replace q151 := eq_true q151
                          have p152 : 0 ≤ (x11_2 : Int) := zo (by assumption)
                          have q152 : x11_2 < (l0.length : Int) := zo (by assumption)
                          obtain ⟨ad152, e152, hx152_0⟩ := Kd.at_int HR0.out x11_2 p152 q152
                          obtain rfl : ad150 = ad152 := (by injection e152)
                          replace p152 := eq_true p152
                          replace q152 := eq_true q152
                          go_wp2
                          repeat (go_quiet (fail); try go_wp2)
                          go_ret
                          exact ⟨by first | rfl | (simp; done) | (simp [*]; done), by repeat (first | exact Drawn0.refl _ | apply Drawn0.step)⟩
                        · rw [if_neg c9] at H
                          have c9b0 : ((rd l0 x7_1) == (rd l0 x11_2)) = false := beq_eq_false_iff_ne.mpr c9
                          have c9b1 : ((rd l0 x7_1) != (rd l0 x11_2)) = true := bne_iff_ne.mpr c9
                          have H' := zk H
                          clear H
                          have p150 : 0 ≤ (x7_1 : Int) := zo (by assumption)
                          have q150 : x7_1 < (l0.length : Int) := zo (by assumption)
                          obtain ⟨ad150, e150, hx150_0⟩ := Kd.at_int HR0.out x7_1 p150 q150
                          cases e150
                          replace p150 := eq_true p150
                          replace q150 := eq_true q150
                          have p151 : 0 ≤ (x7_1 : Int) := zo (by assumption)
                          have q151 : x7_1 < (l0.length : Int) := zo (by assumption)
                          obtain ⟨ad151, e151, hx151_0⟩ := Kd.at_int HR0.out x7_1 p151 q151
                          obtain rfl : ad150 = ad151 := (by injection e151)
                          replace p151 := eq_true p151
                          replace q151 := eq_true q151
                          have p152 : 0 ≤ (x11_2 : Int) := zo (by assumption)
                          have q152 : x11_2 < (l0.length : Int) := zo (by assumption)
                          obtain ⟨ad152, e152, hx152_0⟩ := Kd.at_int HR0.out x11_2 p152 q152
                          obtain rfl : ad150 = ad152 := (by injection e152)
                          replace p152 := eq_true p152
                          replace q152 := eq_true q152
                          go_wp2
                          repeat (go_quiet (fail); try go_wp2)
                          go_roundg k2
                          case measure => have := HK1.out; have := HK2.out; omega
                          case rel => exact ⟨(wrap64 (x11_2 + 1)), (by first | rfl | (simp; done) | (simp [*]; done)), H', ⟨by have := HK1.out; have := HK2.out; omega⟩, by repeat (first | exact Drawn0.refl _ | apply Drawn0.step)⟩
                      · rw [if_neg c8] at H
                        exact absurd H (by simp)
                    · rw [if_neg c7] at H
                      exact absurd H (by simp)
                  · rw [if_neg c6] at H
                    have c6b0 : decide (0 ≤ (rd l0 x7_1)) = false := decide_eq_false c6
                    clear c6
                    have H' := zk H
                    clear H
                    have p150 : 0 ≤ (x7_1 : Int) := zo (by assumption)
                    have q150 : x7_1 < (l0.length : Int) := zo (by assumption)
                    obtain ⟨ad150, e150, hx150_0⟩ := Kd.at_int HR0.out x7_1 p150 q150
                    cases e150
                    replace p150 := eq_true p150
                    replace q150 := eq_true q150
                    go_wp2
                    repeat (go_quiet (fail); try go_wp2)
                    go_roundg k2
                    case measure => have := HK1.out; have := HK2.out; omega
                    case rel => exact ⟨(wrap64 (x11_2 + 1)), (by first | rfl | (simp; done) | (simp [*]; done)), H', ⟨by have := HK1.out; have := HK2.out; omega⟩, by repeat (first | exact Drawn0.refl _ | apply Drawn0.step)⟩
                · rw [if_neg c5] at H
                  exact absurd H (by simp)
              · rw [if_neg c4] at H
                exact absurd H (by simp)
            · rw [if_neg c3] at H
              have c3b0 : decide (x11_2 < x7_1) = false := decide_eq_false c3
              clear c3
              have H' := zk H
              clear H
              go_wp2
              repeat (go_quiet (fail); try go_wp2)
              go_roundg k2
              case measure => have := HK1.out; have := HK2.out; omega
              case rel => exact ⟨(wrap64 (x7_1 + 1)), (by first | rfl | (simp; done) | (simp [*]; done)), H', ⟨by have := HK1.out; have := HK2.out; omega⟩, by repeat (first | exact Drawn0.refl _ | apply Drawn0.step)⟩
      · rw [if_neg c2] at H
        have c2b0 := decide_eq_false c2
        clear c2
        obtain rfl := Option.some.inj H
        go_wp2
        repeat (go_quiet (fail); try go_wp2)
        go_ret
        exact ⟨by first | rfl | (simp; done) | (simp [*]; done), by repeat (first | exact Drawn0.refl _ | apply Drawn0.step)⟩
mutual
def r06_Ends.l0 : Nat → List Int → List Int → Int → Int → Option (List Int)
 | 0, _, _, _, _ => none
 | k + 1, x0, x3, x8, x9 => if x9 < x8 then (if 0 ≤ x9 then (if x9 < (x0.length : Int) then (if (rd x0 x9) ≥ 0 then (r06_Ends.j1 k x0 x3 x9 1 x8 x9) else (r06_Ends.j1 k x0 x3 x9 0 x8 x9)) else (none)) else (none)) else (some x3)
def r06_Ends.j1 : Nat → List Int → List Int → Int → Int → Int → Int → Option (List Int)
 | 0, _, _, _, _, _, _ => none
 | k + 1, x0, x3, x4, x5, x8, x9 => r06_Ends.l1 k x0 x3 x4 x5 x8 x9 x4 0
def r06_Ends.l1 : Nat → List Int → List Int → Int → Int → Int → Int → Int → Int → Option (List Int)
 | 0, _, _, _, _, _, _, _, _ => none
 | k + 1, x0, x3, x4, x5, x8, x9, x17, x18 => if x18 < x17 then (if 0 ≤ x4 then (if x4 < (x0.length : Int) then (if (rd x0 x4) ≥ 0 then (if 0 ≤ x18 then (if x18 < (x0.length : Int) then (if (rd x0 x18) ≥ 0 then (if (rd x0 x18) < (rd x0 x4) then (if x18 < (x3.length : Int) then (if (wrap64 ((rd x3 x18) + 1)) > x5 then (r06_Ends.l1 k x0 x3 x4 (wrap64 ((rd x3 x18) + 1)) x8 x9 x17 (wrap64 (x18 + 1))) else (r06_Ends.l1 k x0 x3 x4 x5 x8 x9 x17 (wrap64 (x18 + 1)))) else (none)) else (r06_Ends.l1 k x0 x3 x4 x5 x8 x9 x17 (wrap64 (x18 + 1)))) else (r06_Ends.l1 k x0 x3 x4 x5 x8 x9 x17 (wrap64 (x18 + 1)))) else (none)) else (none)) else (r06_Ends.l1 k x0 x3 x4 x5 x8 x9 x17 (wrap64 (x18 + 1)))) else (none)) else (none)) else (if x3.length < 17592186044416 then (r06_Ends.l0 k x0 (x3 ++ [x5]) x8 (wrap64 (x9 + 1))) else (none))
end
def r06_Ends.f (k : Nat) (l0 : List Int) : Option (List Int) := r06_Ends.l0 k l0 ([] : List Int) (l0.length : Int) 0
end Go.Proofs.Ytconhodokldcbaa.G
namespace Go.Proofs.Ytconhodokldcbaa.G
open Go.RowKit Go.Proofs.YtconhodokldcbaaW.PrintWords Go.Proofs.YtconhodokldcbaaW.PrintLast Go.Proofs.YtconhodokldcbaaW.PrintMore
attribute [local go_sem] max2_int min2_int max_two min_two max_three min_three max_four min_four
set_option linter.unusedVariables false
set_option linter.unusedSimpArgs false
def r06_Length.l0 : Nat → Int → List Int → Int → Int → Option (Int)
  | 0, _, _, _, _ => none
  | k + 1, x3, x4, x9, x10 => if x10 < x9 then (if 0 ≤ x10 then (if x10 < (x4.length : Int) then (r06_Length.l0 k (mx x3 (rd x4 x10)) x4 x9 (wrap64 (x10 + 1))) else (none)) else (none)) else (some x3)
def r06_Length.f (k : Nat) (l0 : List Int) : Option (Int) := (r06_Ends.f k l0).bind fun t163 => (r06_Length.l0 k 0 t163 (t163.length : Int) 0)
mutual
def r06_Longest.l0 : Nat → List Int → List Int → List Int → Int → Int → Option (List Int)
 | 0, _, _, _, _, _ => none
 | k + 1, x0, x3, x4, x5, x6 => if x6 > 0 then (r06_Longest.l1 k x0 x3 x4 x6 (-1) x5 0) else (some x4)
def r06_Longest.l1 : Nat → List Int → List Int → List Int → Int → Int → Int → Int → Option (List Int)
 | 0, _, _, _, _, _, _, _ => none
 | k + 1, x0, x3, x4, x6, x7, x19, x20 => if x20 < x19 then (if 0 ≤ x20 then (if x20 < (x3.length : Int) then (if (rd x3 x20) = x6 then (if x7 < 0 then (r06_Longest.l1 k x0 x3 x4 x6 x20 x19 (wrap64 (x20 + 1))) else (if x20 < (x0.length : Int) then (if 0 ≤ x7 then (if x7 < (x0.length : Int) then (if (rd x0 x20) ≤ (rd x0 x7) then (r06_Longest.l1 k x0 x3 x4 x6 x20 x19 (wrap64 (x20 + 1))) else (r06_Longest.l1 k x0 x3 x4 x6 x7 x19 (wrap64 (x20 + 1)))) else (none)) else (none)) else (none))) else (r06_Longest.l1 k x0 x3 x4 x6 x7 x19 (wrap64 (x20 + 1)))) else (none)) else (none)) else (if x7 < 0 then (some ([] : List Int)) else ((some (([x7] : List Int) : List Int)).bind fun y174 => (if y174.length + x4.length < 17592186044416 then (r06_Longest.l0 k x0 x3 (y174 ++ x4) x7 (wrap64 (x6 - 1))) else (none))))
end
def r06_Longest.f (k : Nat) (l0 : List Int) : Option (List Int) := (r06_Ends.f k l0).bind fun t167 => ((r06_Length.f k l0).bind fun t170 => (r06_Longest.l0 k l0 t167 ([] : List Int) (l0.length : Int) t170))
mutual
def r08_Stay.l0 : Nat → List Int → List Bool → Int → Int → Option (List Bool)
  | 0, _, _, _, _ => none
  | k + 1, x3, x4, x11, x12 => if x12 < x11 then (r08_Stay.l1 k x3 x4 x12 false x11 x12 (x3.length : Int) 0) else (some x4)
def r08_Stay.l1 : Nat → List Int → List Bool → Int → Bool → Int → Int → Int → Int → Option (List Bool)
  | 0, _, _, _, _, _, _, _, _ => none
  | k + 1, x3, x4, x5, x6, x11, x12, x16, x17 => if x17 < x16 then (if x6 = true then (r08_Stay.l1 k x3 x4 x5 true x11 x12 x16 (wrap64 (x17 + 1))) else (if 0 ≤ x17 then (if x17 < (x3.length : Int) then (r08_Stay.l1 k x3 x4 x5 ((rd x3 x17) == x5) x11 x12 x16 (wrap64 (x17 + 1))) else (none)) else (none))) else (if x4.length < 140737488355328 then (r08_Stay.l0 k x3 (x4 ++ [x6]) x11 (wrap64 (x12 + 1))) else (none))
end
def r08_Stay.f (k : Nat) (l0 : List Int) : Option (List Bool) := (r06_Longest.f k l0).bind fun t180 => (r08_Stay.l0 k t180 ([] : List Bool) (l0.length : Int) 0)
def r08_Plan.l0 : Nat → List Int → List (S37) → List Bool → Int → Option ((List (S37)))
 | 0, _, _, _, _ => none
 | k + 1, x0, x3, x4, x5 => if x5 ≥ 0 then (if 0 ≤ x5 then (if x5 < (x4.length : Int) then (if rdOf false x4 x5 = true then (r08_Plan.l0 k x0 x3 x4 (wrap64 (x5 - 1))) else (if x5 = (wrap64 ((x0.length : Int) - 1)) then (if x3.length < 8796093022208 then (r08_Plan.l0 k x0 (x3 ++ [(⟨x5, (-1)⟩ : S37)]) x4 (wrap64 (x5 - 1))) else (none)) else (if x3.length < 8796093022208 then (r08_Plan.l0 k x0 (x3 ++ [(⟨x5, wrap64 (x5 + 1)⟩ : S37)]) x4 (wrap64 (x5 - 1))) else (none)))) else (none)) else (none)) else (some x3)
def r08_Plan.f (k : Nat) (l0 : List Int) : Option ((List (S37))) := (r08_Stay.f k l0).bind fun t187 => (r08_Plan.l0 k l0 ([] : List (S37)) t187 (wrap64 ((l0.length : Int) - 1)))
def r08_Least.l0 : Nat → List Int → Int → List Bool → Int → Int → Option (Int)
  | 0, _, _, _, _, _ => none
  | k + 1, x0, x3, x4, x9, x10 => if x10 < x9 then (if 0 ≤ x10 then (if x10 < (x0.length : Int) then (if (rd x0 x10) ≥ 0 then (if x10 < (x4.length : Int) then (if rdOf false x4 x10 = true then (r08_Least.l0 k x0 x3 x4 x9 (wrap64 (x10 + 1))) else (r08_Least.l0 k x0 (wrap64 (x3 + 1)) x4 x9 (wrap64 (x10 + 1)))) else (none)) else (r08_Least.l0 k x0 x3 x4 x9 (wrap64 (x10 + 1)))) else (none)) else (none)) else (some x3)
def r08_Least.f (k : Nat) (l0 : List Int) : Option (Int) := (r08_Stay.f k l0).bind fun t198 => (r08_Least.l0 k l0 0 t198 (l0.length : Int) 0)
end Go.Proofs.Ytconhodokldcbaa.G
