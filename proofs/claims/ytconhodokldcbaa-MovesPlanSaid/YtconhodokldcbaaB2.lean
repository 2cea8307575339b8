/- What the claim LawMovesPlan rests on, part 2 of 4: the kit's words, the printed walks, the walks by hand, the plain laws. -/
import Derived.Test.YtconhodokldcbaaB0
import Derived.Test.YtconhodokldcbaaB1
namespace Go.Proofs.Ytconhodokldcbaa.G
open Go.RowKit Go.Proofs.YtconhodokldcbaaW.PrintWords Go.Proofs.YtconhodokldcbaaW.PrintLast Go.Proofs.YtconhodokldcbaaW.PrintMore
attribute [local go_sem] max2_int min2_int max_two min_two max_three min_three max_four min_four
set_option linter.unusedVariables false
set_option linter.unusedSimpArgs false
mutual
def lw_MovesPlan.j0 : Nat → List (S36) → List Bool → List (S37) → List Bool → Bool → Option (Bool)
 | 0, _, _, _, _, _ => none
 | k + 1, x3, x5, x6, x7, x79 => if x79 = true then (some false) else (lw_MovesPlan.l0 k x3 x5 x6 x7 (x3.length : Int) 0)
def lw_MovesPlan.l0 : Nat → List (S36) → List Bool → List (S37) → List Bool → Int → Int → Option (Bool)
 | 0, _, _, _, _, _, _ => none
 | k + 1, x3, x5, x6, x7, x81, x82 => if x82 < x81 then (if 0 ≤ x82 then (if x82 < (x3.length : Int) then (if x82 < (x6.length : Int) then (if ((rd_T36 x3 x82).f0) = ((rd_T37 x6 x82).f0) then (if ((rd_T36 x3 x82).f1) = ((rd_T37 x6 x82).f1) then (lw_MovesPlan.l0 k x3 x5 x6 x7 x81 (wrap64 (x82 + 1))) else (some false)) else (some false)) else (none)) else (none)) else (none)) else (lw_MovesPlan.l1 k x5 x7 (x5.length : Int) 0)
def lw_MovesPlan.l1 : Nat → List Bool → List Bool → Int → Int → Option (Bool)
 | 0, _, _, _, _ => none
 | k + 1, x5, x7, x111, x112 => if x112 < x111 then (if 0 ≤ x112 then (if x112 < (x5.length : Int) then (if x112 < (x7.length : Int) then (if ((rdOf false x5 x112) != (rdOf false x7 x112)) = true then (some false) else (lw_MovesPlan.l1 k x5 x7 x111 (wrap64 (x112 + 1)))) else (none)) else (none)) else (none)) else ((lw_same.f k).bind fun t230 => (some t230))
end
def lw_MovesPlan.f (k : Nat) (l0 : List Int) : Option (Bool) := if (l0.length : Int) > 100 then ((lw_same.f k).bind fun t203 => (some t203)) else ((moves_Plan.f k l0).bind fun bt204 => ((moves_Stay.f k l0).bind fun t208 => ((r08_Twice.f k l0).bind fun t211 => (if t211 = true then ((moves_Check.f l0).bind fun t212 => (if t212 = 10 then (if bt204.2 = 10 then (if (bt204.1.length : Int) = 0 then (if (t208.length : Int) = 0 then ((moves_Least.f k l0).bind fun t213 => (if t213 = 0 then ((lw_same.f k).bind fun t214 => (some t214)) else (some false))) else (some false)) else (some false)) else (some false)) else (some false))) else ((r08_Plan.f k l0).bind fun t215 => ((r08_Stay.f k l0).bind fun t218 => ((moves_Check.f l0).bind fun t221 => (if t221 = 0 then (if bt204.2 = 0 then (if (bt204.1.length : Int) = (t215.length : Int) then (if (t208.length : Int) = (t218.length : Int) then ((moves_Least.f k l0).bind fun t222 => ((r08_Least.f k l0).bind fun t223 => (lw_MovesPlan.j0 k bt204.1 t208 t215 t218 (t222 != t223)))) else (lw_MovesPlan.j0 k bt204.1 t208 t215 t218 true)) else (lw_MovesPlan.j0 k bt204.1 t208 t215 t218 true)) else (lw_MovesPlan.j0 k bt204.1 t208 t215 t218 true)) else (lw_MovesPlan.j0 k bt204.1 t208 t215 t218 true)))))))))
set_option maxHeartbeats 8000000 in
set_option maxRecDepth 100000 in
theorem lw_MovesPlan.calls (k : Nat) (A0 : Option Addr) (c0 : Nat) (l0 : List Int) (r : Bool) (w : World) (hr0 : Kd.C (Kd.int .i64) w A0 l0.length l0) (hc0 : l0.length ≤ c0) (h : (if r = true then lw_MovesPlan.f k l0 else none) = some r) :
  Calls Try.prog 3 #[.slice A0 l0.length c0] w fun e w' => e = .returned (.bool r) ∧ Below w.heap.size w w' := by
 split at h
 case isFalse => cases h
 rename_i hr_
 have HR_ := zk hr_
 clear hr_
 have HR0 := zk hr0
 have HC0 := zk hc0
 clear hr0 hc0
 have HB := zk (Below.refl w.heap.size w)
 have H : (if (l0.length : Int) > 100 then ((lw_same.f k).bind fun t203 => (some t203)) else ((moves_Plan.f k l0).bind fun bt204 => ((moves_Stay.f k l0).bind fun t208 => ((r08_Twice.f k l0).bind fun t211 => (if t211 = true then ((moves_Check.f l0).bind fun t212 => (if t212 = 10 then (if bt204.2 = 10 then (if (bt204.1.length : Int) = 0 then (if (t208.length : Int) = 0 then ((moves_Least.f k l0).bind fun t213 => (if t213 = 0 then ((lw_same.f k).bind fun t214 => (some t214)) else (some false))) else (some false)) else (some false)) else (some false)) else (some false))) else ((r08_Plan.f k l0).bind fun t215 => ((r08_Stay.f k l0).bind fun t218 => ((moves_Check.f l0).bind fun t221 => (if t221 = 0 then (if bt204.2 = 0 then (if (bt204.1.length : Int) = (t215.length : Int) then (if (t208.length : Int) = (t218.length : Int) then ((moves_Least.f k l0).bind fun t222 => ((r08_Least.f k l0).bind fun t223 => (lw_MovesPlan.j0 k bt204.1 t208 t215 t218 (t222 != t223)))) else (lw_MovesPlan.j0 k bt204.1 t208 t215 t218 true)) else (lw_MovesPlan.j0 k bt204.1 t208 t215 t218 true)) else (lw_MovesPlan.j0 k bt204.1 t208 t215 t218 true)) else (lw_MovesPlan.j0 k bt204.1 t208 t215 t218 true)))))))))) = some r := h
 clear h
 by_cases c2 : (l0.length : Int) > 100
 ·
  rw [if_pos c2] at H; have c2b0 : decide (100 < (l0.length : Int)) = true := decide_eq_true c2; have c2b1 : decide (100 < l0.length) = true := decide_eq_true (by omega); clear c2; replace H := Option.bind_eq_some_iff.mp H; obtain ⟨t203, A30, H⟩ := H; replace H : (some t203) = some r := H; have A3 := zk A30; clear A30; obtain rfl := Option.some.inj H
  go_enter Try.func3, Try.ntmps3
  go_wp2_with (first | (go_at_call 6; (with_reducible refine (lw_same.calls k  t203 _ A3.out).mono ?_); rintro e w4 ⟨rfl, hb⟩; have n0_ := zk (zs (by with_reducible repeat first | exact HB.out | apply zA | apply zN | apply zD) hb); clear HB; have HB := n0_; clear n0_; (try clear hb); (try clear hb2); (try clear hk); (try clear hi)))
  repeat (go_quiet (first | (go_at_call 6; (with_reducible refine (lw_same.calls k  t203 _ A3.out).mono ?_); rintro e w4 ⟨rfl, hb⟩; have n0_ := zk (zs (by with_reducible repeat first | exact HB.out | apply zA | apply zN | apply zD) hb); clear HB; have HB := n0_; clear n0_; (try clear hb); (try clear hb2); (try clear hk); (try clear hi))); try go_wp2_with (first | (go_at_call 6; (with_reducible refine (lw_same.calls k  t203 _ A3.out).mono ?_); rintro e w4 ⟨rfl, hb⟩; have n0_ := zk (zs (by with_reducible repeat first | exact HB.out | apply zA | apply zN | apply zD) hb); clear HB; have HB := n0_; clear n0_; (try clear hb); (try clear hb2); (try clear hk); (try clear hi))))
  go_ret; exact ⟨by first | rfl | (simp [wN, wS] <;> rfl) | (simp [*, wN, wS] <;> rfl), by with_reducible repeat first | exact HB.out | apply zA | apply zN | apply zD⟩
 ·
  rw [if_neg c2] at H; have c2b0 : decide (100 < (l0.length : Int)) = false := decide_eq_false c2; have c2b1 : decide (100 < l0.length) = false := decide_eq_false (by omega); clear c2; replace H := Option.bind_eq_some_iff.mp H; obtain ⟨⟨t204, t205⟩, A50, H⟩ := H; replace H : ((moves_Stay.f k l0).bind fun t208 => ((r08_Twice.f k l0).bind fun t211 => (if t211 = true then ((moves_Check.f l0).bind fun t212 => (if t212 = 10 then (if t205 = 10 then (if (t204.length : Int) = 0 then (if (t208.length : Int) = 0 then ((moves_Least.f k l0).bind fun t213 => (if t213 = 0 then ((lw_same.f k).bind fun t214 => (some t214)) else (some false))) else (some false)) else (some false)) else (some false)) else (some false))) else ((r08_Plan.f k l0).bind fun t215 => ((r08_Stay.f k l0).bind fun t218 => ((moves_Check.f l0).bind fun t221 => (if t221 = 0 then (if t205 = 0 then (if (t204.length : Int) = (t215.length : Int) then (if (t208.length : Int) = (t218.length : Int) then ((moves_Least.f k l0).bind fun t222 => ((r08_Least.f k l0).bind fun t223 => (lw_MovesPlan.j0 k t204 t208 t215 t218 (t222 != t223)))) else (lw_MovesPlan.j0 k t204 t208 t215 t218 true)) else (lw_MovesPlan.j0 k t204 t208 t215 t218 true)) else (lw_MovesPlan.j0 k t204 t208 t215 t218 true)) else (lw_MovesPlan.j0 k t204 t208 t215 t218 true)))))))) = some r := H; have A5 := zk A50; clear A50; replace H := Option.bind_eq_some_iff.mp H; obtain ⟨t208, A60, H⟩ := H; replace H : ((r08_Twice.f k l0).bind fun t211 => (if t211 = true then ((moves_Check.f l0).bind fun t212 => (if t212 = 10 then (if t205 = 10 then (if (t204.length : Int) = 0 then (if (t208.length : Int) = 0 then ((moves_Least.f k l0).bind fun t213 => (if t213 = 0 then ((lw_same.f k).bind fun t214 => (some t214)) else (some false))) else (some false)) else (some false)) else (some false)) else (some false))) else ((r08_Plan.f k l0).bind fun t215 => ((r08_Stay.f k l0).bind fun t218 => ((moves_Check.f l0).bind fun t221 => (if t221 = 0 then (if t205 = 0 then (if (t204.length : Int) = (t215.length : Int) then (if (t208.length : Int) = (t218.length : Int) then ((moves_Least.f k l0).bind fun t222 => ((r08_Least.f k l0).bind fun t223 => (lw_MovesPlan.j0 k t204 t208 t215 t218 (t222 != t223)))) else (lw_MovesPlan.j0 k t204 t208 t215 t218 true)) else (lw_MovesPlan.j0 k t204 t208 t215 t218 true)) else (lw_MovesPlan.j0 k t204 t208 t215 t218 true)) else (lw_MovesPlan.j0 k t204 t208 t215 t218 true))))))) = some r := H; have A6 := zk A60; clear A60; replace H := Option.bind_eq_some_iff.mp H; obtain ⟨t211, A70, H⟩ := H; replace H : (if t211 = true then ((moves_Check.f l0).bind fun t212 => (if t212 = 10 then (if t205 = 10 then (if (t204.length : Int) = 0 then (if (t208.length : Int) = 0 then ((moves_Least.f k l0).bind fun t213 => (if t213 = 0 then ((lw_same.f k).bind fun t214 => (some t214)) else (some false))) else (some false)) else (some false)) else (some false)) else (some false))) else ((r08_Plan.f k l0).bind fun t215 => ((r08_Stay.f k l0).bind fun t218 => ((moves_Check.f l0).bind fun t221 => (if t221 = 0 then (if t205 = 0 then (if (t204.length : Int) = (t215.length : Int) then (if (t208.length : Int) = (t218.length : Int) then ((moves_Least.f k l0).bind fun t222 => ((r08_Least.f k l0).bind fun t223 => (lw_MovesPlan.j0 k t204 t208 t215 t218 (t222 != t223)))) else (lw_MovesPlan.j0 k t204 t208 t215 t218 true)) else (lw_MovesPlan.j0 k t204 t208 t215 t218 true)) else (lw_MovesPlan.j0 k t204 t208 t215 t218 true)) else (lw_MovesPlan.j0 k t204 t208 t215 t218 true)))))) = some r := H; have A7 := zk A70; clear A70
  by_cases c8 : t211 = true
  ·
   subst c8
   have H1 : ((moves_Check.f l0).bind fun t212 => (if t212 = 10 then (if t205 = 10 then (if (t204.length : Int) = 0 then (if (t208.length : Int) = 0 then ((moves_Least.f k l0).bind fun t213 => (if t213 = 0 then ((lw_same.f k).bind fun t214 => (some t214)) else (some false))) else (some false)) else (some false)) else (some false)) else (some false))) = some r := by rw [if_pos rfl] at H; exact H
   clear H; have H := H1; clear H1; replace H := Option.bind_eq_some_iff.mp H; obtain ⟨t212, A90, H⟩ := H; replace H : (if t212 = 10 then (if t205 = 10 then (if (t204.length : Int) = 0 then (if (t208.length : Int) = 0 then ((moves_Least.f k l0).bind fun t213 => (if t213 = 0 then ((lw_same.f k).bind fun t214 => (some t214)) else (some false))) else (some false)) else (some false)) else (some false)) else (some false)) = some r := H; have A9 := zk A90; clear A90
   by_cases c10 : t212 = 10
   ·
    rw [if_pos c10] at H; have c10b0 := beq_iff_eq.mpr c10; have c10b1 := bne_eq_false_iff_eq.mpr c10; clear c10
    by_cases c11 : t205 = 10
    ·
     rw [if_pos c11] at H; have c11b0 := beq_iff_eq.mpr c11; have c11b1 := bne_eq_false_iff_eq.mpr c11; clear c11
     by_cases c12 : (t204.length : Int) = 0
     ·
      rw [if_pos c12] at H; have c12b0 := beq_iff_eq.mpr c12; have c12b1 := bne_eq_false_iff_eq.mpr c12; clear c12
      by_cases c13 : (t208.length : Int) = 0
      ·
       rw [if_pos c13] at H; have c13b0 := beq_iff_eq.mpr c13; have c13b1 := bne_eq_false_iff_eq.mpr c13; clear c13; replace H := Option.bind_eq_some_iff.mp H; obtain ⟨t213, A140, H⟩ := H; replace H : (if t213 = 0 then ((lw_same.f k).bind fun t214 => (some t214)) else (some false)) = some r := H; have A14 := zk A140; clear A140
       by_cases c15 : t213 = 0
       ·
        rw [if_pos c15] at H; have c15b0 := beq_iff_eq.mpr c15; have c15b1 := bne_eq_false_iff_eq.mpr c15; clear c15; replace H := Option.bind_eq_some_iff.mp H; obtain ⟨t214, A160, H⟩ := H; replace H : (some t214) = some r := H; have A16 := zk A160; clear A160; obtain rfl := Option.some.inj H
        go_enter Try.func3, Try.ntmps3
        go_wp2_with (first | (go_at_call 7; (with_reducible refine (moves_Plan.calls k _ _ l0 t204 t205 _ ?side1 ?side2 A5.out).mono ?_); (case side1 => repeat (first | exact HR0.out | (with_reducible refine Kd.C_alloc ?_ _) | (with_reducible refine Kd.C_drewN ?_ _) | (with_reducible refine Kd.C_drew ?_))); (case side2 => exact HC0.out); rintro e w17 ⟨v206, rfl, ho0, hb⟩; have n0_ := zk (Kd.R_lower ho0 (zq (by with_reducible repeat first | exact HB.out | apply zA | apply zN | apply zD))); have n1_ := zk (zs (by with_reducible repeat first | exact HB.out | apply zA | apply zN | apply zD) hb); clear HB; have HO207 := n0_; have HB := n1_; clear n0_ n1_; (try clear hb); (try clear hb2); (try clear hk); (try clear hi); (try clear ho0)) | (go_at_call 8; (with_reducible refine (moves_Stay.calls k _ _ l0 t208 _ ?side1 ?side2 A6.out).mono ?_); (case side1 => repeat (first | exact (Kd.C_below HR0.out HB.out) | (with_reducible refine Kd.C_alloc ?_ _) | (with_reducible refine Kd.C_drewN ?_ _) | (with_reducible refine Kd.C_drew ?_))); (case side2 => exact HC0.out); rintro e w18 ⟨v209, rfl, ho0, hb⟩; have n0_ := zk (Kd.R_below (by (with_reducible repeat (first | apply Kd.R_alloc | apply Kd.R_drewN | apply Kd.R_drew)); exact HO207.out) hb); have n1_ := zk (Kd.R_lower ho0 (zq (by with_reducible repeat first | exact HB.out | apply zA | apply zN | apply zD))); have n2_ := zk (zs (by with_reducible repeat first | exact HB.out | apply zA | apply zN | apply zD) hb); clear HO207; clear HB; have HO207 := n0_; have HO210 := n1_; have HB := n2_; clear n0_ n1_ n2_; (try clear hb); (try clear hb2); (try clear hk); (try clear hi); (try clear ho0)) | (go_at_call 9; (with_reducible refine (r08_Twice.calls k _ _ l0 true _ ?side1 ?side2 A7.out).mono ?_); (case side1 => repeat (first | exact (Kd.C_below HR0.out HB.out) | (with_reducible refine Kd.C_alloc ?_ _) | (with_reducible refine Kd.C_drewN ?_ _) | (with_reducible refine Kd.C_drew ?_))); (case side2 => exact HC0.out); rintro e w' ⟨rfl, ⟨nd, rfl⟩⟩; (try first | exact ⟨rfl, _, World.drewN_drewN _ _ _⟩ | exact ⟨rfl, _, Eq.trans (World.drewN_drewN _ _ _) (congrArg (World.drewN _) (Nat.add_assoc _ _ _))⟩)) | (go_at_call 10; (with_reducible refine (moves_Check.calls _ _ l0 t212 _ ?side1 ?side2 A9.out).mono ?_); (case side1 => repeat (first | exact (Kd.C_below HR0.out (by with_reducible repeat first | exact HB.out | apply zA | apply zN | apply zD)) | (with_reducible refine Kd.C_alloc ?_ _) | (with_reducible refine Kd.C_drewN ?_ _) | (with_reducible refine Kd.C_drew ?_))); (case side2 => exact HC0.out); rintro e w19 ⟨rfl, hb⟩; have n0_ := zk (Kd.R_below (by (with_reducible repeat (first | apply Kd.R_alloc | apply Kd.R_drewN | apply Kd.R_drew)); exact HO207.out) hb); have n1_ := zk (Kd.R_below (by (with_reducible repeat (first | apply Kd.R_alloc | apply Kd.R_drewN | apply Kd.R_drew)); exact HO210.out) hb); have n2_ := zk (zs (by with_reducible repeat first | exact HB.out | apply zA | apply zN | apply zD) hb); clear HO207; clear HO210; clear HB; have HO207 := n0_; have HO210 := n1_; have HB := n2_; clear n0_ n1_ n2_; (try clear hb); (try clear hb2); (try clear hk); (try clear hi); obtain ⟨Ao20, co20, eo20⟩ := Kd.R_slice HO207.out; subst eo20; obtain ⟨Ao21, co21, eo21⟩ := Kd.R_slice HO210.out; subst eo21) | (go_at_call 11; (with_reducible refine (moves_Least.calls k _ _ l0 t213 _ ?side1 ?side2 A14.out).mono ?_); (case side1 => repeat (first | exact (Kd.C_below HR0.out HB.out) | (with_reducible refine Kd.C_alloc ?_ _) | (with_reducible refine Kd.C_drewN ?_ _) | (with_reducible refine Kd.C_drew ?_))); (case side2 => exact HC0.out); rintro e w22 ⟨rfl, hb⟩; have n0_ := zk (Kd.R_below (by (with_reducible repeat (first | apply Kd.R_alloc | apply Kd.R_drewN | apply Kd.R_drew)); exact HO207.out) hb); have n1_ := zk (Kd.R_below (by (with_reducible repeat (first | apply Kd.R_alloc | apply Kd.R_drewN | apply Kd.R_drew)); exact HO210.out) hb); have n2_ := zk (zs (by with_reducible repeat first | exact HB.out | apply zA | apply zN | apply zD) hb); clear HO207; clear HO210; clear HB; have HO207 := n0_; have HO210 := n1_; have HB := n2_; clear n0_ n1_ n2_; (try clear hb); (try clear hb2); (try clear hk); (try clear hi)) | (go_at_call 6; (with_reducible refine (lw_same.calls k  t214 _ A16.out).mono ?_); rintro e w23 ⟨rfl, hb⟩; have n0_ := zk (Kd.R_below (by (with_reducible repeat (first | apply Kd.R_alloc | apply Kd.R_drewN | apply Kd.R_drew)); exact HO207.out) hb); have n1_ := zk (Kd.R_below (by (with_reducible repeat (first | apply Kd.R_alloc | apply Kd.R_drewN | apply Kd.R_drew)); exact HO210.out) hb); have n2_ := zk (zs (by with_reducible repeat first | exact HB.out | apply zA | apply zN | apply zD) hb); clear HO207; clear HO210; clear HB; have HO207 := n0_; have HO210 := n1_; have HB := n2_; clear n0_ n1_ n2_; (try clear hb); (try clear hb2); (try clear hk); (try clear hi)))
        repeat (go_quiet (first | (go_at_call 7; (with_reducible refine (moves_Plan.calls k _ _ l0 t204 t205 _ ?side1 ?side2 A5.out).mono ?_); (case side1 => repeat (first | exact HR0.out | (with_reducible refine Kd.C_alloc ?_ _) | (with_reducible refine Kd.C_drewN ?_ _) | (with_reducible refine Kd.C_drew ?_))); (case side2 => exact HC0.out); rintro e w17 ⟨v206, rfl, ho0, hb⟩; have n0_ := zk (Kd.R_lower ho0 (zq (by with_reducible repeat first | exact HB.out | apply zA | apply zN | apply zD))); have n1_ := zk (zs (by with_reducible repeat first | exact HB.out | apply zA | apply zN | apply zD) hb); clear HB; have HO207 := n0_; have HB := n1_; clear n0_ n1_; (try clear hb); (try clear hb2); (try clear hk); (try clear hi); (try clear ho0)) | (go_at_call 8; (with_reducible refine (moves_Stay.calls k _ _ l0 t208 _ ?side1 ?side2 A6.out).mono ?_); (case side1 => repeat (first | exact (Kd.C_below HR0.out HB.out) | (with_reducible refine Kd.C_alloc ?_ _) | (with_reducible refine Kd.C_drewN ?_ _) | (with_reducible refine Kd.C_drew ?_))); (case side2 => exact HC0.out); rintro e w18 ⟨v209, rfl, ho0, hb⟩; have n0_ := zk (Kd.R_below (by (with_reducible repeat (first | apply Kd.R_alloc | apply Kd.R_drewN | apply Kd.R_drew)); exact HO207.out) hb); have n1_ := zk (Kd.R_lower ho0 (zq (by with_reducible repeat first | exact HB.out | apply zA | apply zN | apply zD))); have n2_ := zk (zs (by with_reducible repeat first | exact HB.out | apply zA | apply zN | apply zD) hb); clear HO207; clear HB; have HO207 := n0_; have HO210 := n1_; have HB := n2_; clear n0_ n1_ n2_; (try clear hb); (try clear hb2); (try clear hk); (try clear hi); (try clear ho0)) | (go_at_call 9; (with_reducible refine (r08_Twice.calls k _ _ l0 true _ ?side1 ?side2 A7.out).mono ?_); (case side1 => repeat (first | exact (Kd.C_below HR0.out HB.out) | (with_reducible refine Kd.C_alloc ?_ _) | (with_reducible refine Kd.C_drewN ?_ _) | (with_reducible refine Kd.C_drew ?_))); (case side2 => exact HC0.out); rintro e w' ⟨rfl, ⟨nd, rfl⟩⟩; (try first | exact ⟨rfl, _, World.drewN_drewN _ _ _⟩ | exact ⟨rfl, _, Eq.trans (World.drewN_drewN _ _ _) (congrArg (World.drewN _) (Nat.add_assoc _ _ _))⟩)) | (go_at_call 10; (with_reducible refine (moves_Check.calls _ _ l0 t212 _ ?side1 ?side2 A9.out).mono ?_); (case side1 => repeat (first | exact (Kd.C_below HR0.out (by with_reducible repeat first | exact HB.out | apply zA | apply zN | apply zD)) | (with_reducible refine Kd.C_alloc ?_ _) | (with_reducible refine Kd.C_drewN ?_ _) | (with_reducible refine Kd.C_drew ?_))); (case side2 => exact HC0.out); rintro e w19 ⟨rfl, hb⟩; have n0_ := zk (Kd.R_below (by (with_reducible repeat (first | apply Kd.R_alloc | apply Kd.R_drewN | apply Kd.R_drew)); exact HO207.out) hb); have n1_ := zk (Kd.R_below (by (with_reducible repeat (first | apply Kd.R_alloc | apply Kd.R_drewN | apply Kd.R_drew)); exact HO210.out) hb); have n2_ := zk (zs (by with_reducible repeat first | exact HB.out | apply zA | apply zN | apply zD) hb); clear HO207; clear HO210; clear HB; have HO207 := n0_; have HO210 := n1_; have HB := n2_; clear n0_ n1_ n2_; (try clear hb); (try clear hb2); (try clear hk); (try clear hi); obtain ⟨Ao20, co20, eo20⟩ := Kd.R_slice HO207.out; subst eo20; obtain ⟨Ao21, co21, eo21⟩ := Kd.R_slice HO210.out; subst eo21) | (go_at_call 11; (with_reducible refine (moves_Least.calls k _ _ l0 t213 _ ?side1 ?side2 A14.out).mono ?_); (case side1 => repeat (first | exact (Kd.C_below HR0.out HB.out) | (with_reducible refine Kd.C_alloc ?_ _) | (with_reducible refine Kd.C_drewN ?_ _) | (with_reducible refine Kd.C_drew ?_))); (case side2 => exact HC0.out); rintro e w22 ⟨rfl, hb⟩; have n0_ := zk (Kd.R_below (by (with_reducible repeat (first | apply Kd.R_alloc | apply Kd.R_drewN | apply Kd.R_drew)); exact HO207.out) hb); have n1_ := zk (Kd.R_below (by (with_reducible repeat (first | apply Kd.R_alloc | apply Kd.R_drewN | apply Kd.R_drew)); exact HO210.out) hb); have n2_ := zk (zs (by with_reducible repeat first | exact HB.out | apply zA | apply zN | apply zD) hb); clear HO207; clear HO210; clear HB; have HO207 := n0_; have HO210 := n1_; have HB := n2_; clear n0_ n1_ n2_; (try clear hb); (try clear hb2); (try clear hk); (try clear hi)) | (go_at_call 6; (with_reducible refine (lw_same.calls k  t214 _ A16.out).mono ?_); rintro e w23 ⟨rfl, hb⟩; have n0_ := zk (Kd.R_below (by (with_reducible repeat (first | apply Kd.R_alloc | apply Kd.R_drewN | apply Kd.R_drew)); exact HO207.out) hb); have n1_ := zk (Kd.R_below (by (with_reducible repeat (first | apply Kd.R_alloc | apply Kd.R_drewN | apply Kd.R_drew)); exact HO210.out) hb); have n2_ := zk (zs (by with_reducible repeat first | exact HB.out | apply zA | apply zN | apply zD) hb); clear HO207; clear HO210; clear HB; have HO207 := n0_; have HO210 := n1_; have HB := n2_; clear n0_ n1_ n2_; (try clear hb); (try clear hb2); (try clear hk); (try clear hi))); try go_wp2_with (first | (go_at_call 7; (with_reducible refine (moves_Plan.calls k _ _ l0 t204 t205 _ ?side1 ?side2 A5.out).mono ?_); (case side1 => repeat (first | exact HR0.out | (with_reducible refine Kd.C_alloc ?_ _) | (with_reducible refine Kd.C_drewN ?_ _) | (with_reducible refine Kd.C_drew ?_))); (case side2 => exact HC0.out); rintro e w17 ⟨v206, rfl, ho0, hb⟩; have n0_ := zk (Kd.R_lower ho0 (zq (by with_reducible repeat first | exact HB.out | apply zA | apply zN | apply zD))); have n1_ := zk (zs (by with_reducible repeat first | exact HB.out | apply zA | apply zN | apply zD) hb); clear HB; have HO207 := n0_; have HB := n1_; clear n0_ n1_; (try clear hb); (try clear hb2); (try clear hk); (try clear hi); (try clear ho0)) | (go_at_call 8; (with_reducible refine (moves_Stay.calls k _ _ l0 t208 _ ?side1 ?side2 A6.out).mono ?_); (case side1 => repeat (first | exact (Kd.C_below HR0.out HB.out) | (with_reducible refine Kd.C_alloc ?_ _) | (with_reducible refine Kd.C_drewN ?_ _) | (with_reducible refine Kd.C_drew ?_))); (case side2 => exact HC0.out); rintro e w18 ⟨v209, rfl, ho0, hb⟩; have n0_ := zk (Kd.R_below (by (with_reducible repeat (first | apply Kd.R_alloc | apply Kd.R_drewN | apply Kd.R_drew)); exact HO207.out) hb); have n1_ := zk (Kd.R_lower ho0 (zq (by with_reducible repeat first | exact HB.out | apply zA | apply zN | apply zD))); have n2_ := zk (zs (by with_reducible repeat first | exact HB.out | apply zA | apply zN | apply zD) hb); clear HO207; clear HB; have HO207 := n0_; have HO210 := n1_; have HB := n2_; clear n0_ n1_ n2_; (try clear hb); (try clear hb2); (try clear hk); (try clear hi); (try clear ho0)) | (go_at_call 9; (with_reducible refine (r08_Twice.calls k _ _ l0 true _ ?side1 ?side2 A7.out).mono ?_); (case side1 => repeat (first | exact (Kd.C_below HR0.out HB.out) | (with_reducible refine Kd.C_alloc ?_ _) | (with_reducible refine Kd.C_drewN ?_ _) | (with_reducible refine Kd.C_drew ?_))); (case side2 => exact HC0.out); rintro e w' ⟨rfl, ⟨nd, rfl⟩⟩; (try first | exact ⟨rfl, _, World.drewN_drewN _ _ _⟩ | exact ⟨rfl, _, Eq.trans (World.drewN_drewN _ _ _) (congrArg (World.drewN _) (Nat.add_assoc _ _ _))⟩)) | (go_at_call 10; (with_reducible refine (moves_Check.calls _ _ l0 t212 _ ?side1 ?side2 A9.out).mono ?_); (case side1 => repeat (first | exact (Kd.C_below HR0.out (by with_reducible repeat first | exact HB.out | apply zA | apply zN | apply zD)) | (with_reducible refine Kd.C_alloc ?_ _) | (with_reducible refine Kd.C_drewN ?_ _) | (with_reducible refine Kd.C_drew ?_))); (case side2 => exact HC0.out); rintro e w19 ⟨rfl, hb⟩; have n0_ := zk (Kd.R_below (by (with_reducible repeat (first | apply Kd.R_alloc | apply Kd.R_drewN | apply Kd.R_drew)); exact HO207.out) hb); have n1_ := zk (Kd.R_below (by (with_reducible repeat (first | apply Kd.R_alloc | apply Kd.R_drewN | apply Kd.R_drew)); exact HO210.out) hb); have n2_ := zk (zs (by with_reducible repeat first | exact HB.out | apply zA | apply zN | apply zD) hb); clear HO207; clear HO210; clear HB; have HO207 := n0_; have HO210 := n1_; have HB := n2_; clear n0_ n1_ n2_; (try clear hb); (try clear hb2); (try clear hk); (try clear hi); obtain ⟨Ao20, co20, eo20⟩ := Kd.R_slice HO207.out; subst eo20; obtain ⟨Ao21, co21, eo21⟩ := Kd.R_slice HO210.out; subst eo21) | (go_at_call 11; (with_reducible refine (moves_Least.calls k _ _ l0 t213 _ ?side1 ?side2 A14.out).mono ?_); (case side1 => repeat (first | exact (Kd.C_below HR0.out HB.out) | (with_reducible refine Kd.C_alloc ?_ _) | (with_reducible refine Kd.C_drewN ?_ _) | (with_reducible refine Kd.C_drew ?_))); (case side2 => exact HC0.out); rintro e w22 ⟨rfl, hb⟩; have n0_ := zk (Kd.R_below (by (with_reducible repeat (first | apply Kd.R_alloc | apply Kd.R_drewN | apply Kd.R_drew)); exact HO207.out) hb); have n1_ := zk (Kd.R_below (by (with_reducible repeat (first | apply Kd.R_alloc | apply Kd.R_drewN | apply Kd.R_drew)); exact HO210.out) hb); have n2_ := zk (zs (by with_reducible repeat first | exact HB.out | apply zA | apply zN | apply zD) hb); clear HO207; clear HO210; clear HB; have HO207 := n0_; have HO210 := n1_; have HB := n2_; clear n0_ n1_ n2_; (try clear hb); (try clear hb2); (try clear hk); (try clear hi)) | (go_at_call 6; (with_reducible refine (lw_same.calls k  t214 _ A16.out).mono ?_); rintro e w23 ⟨rfl, hb⟩; have n0_ := zk (Kd.R_below (by (with_reducible repeat (first | apply Kd.R_alloc | apply Kd.R_drewN | apply Kd.R_drew)); exact HO207.out) hb); have n1_ := zk (Kd.R_below (by (with_reducible repeat (first | apply Kd.R_alloc | apply Kd.R_drewN | apply Kd.R_drew)); exact HO210.out) hb); have n2_ := zk (zs (by with_reducible repeat first | exact HB.out | apply zA | apply zN | apply zD) hb); clear HO207; clear HO210; clear HB; have HO207 := n0_; have HO210 := n1_; have HB := n2_; clear n0_ n1_ n2_; (try clear hb); (try clear hb2); (try clear hk); (try clear hi))))
        go_ret; exact ⟨by first | rfl | (simp [wN, wS] <;> rfl) | (simp [*, wN, wS] <;> rfl), by with_reducible repeat first | exact HB.out | apply zA | apply zN | apply zD⟩
       ·
        rw [if_neg c15] at H; have c15b0 := beq_eq_false_iff_ne.mpr c15; have c15b1 := bne_iff_ne.mpr c15; exact absurd ((Option.some.inj H).trans HR_.out) (by decide)
      ·
       rw [if_neg c13] at H; have c13b0 := beq_eq_false_iff_ne.mpr c13; have c13b1 := bne_iff_ne.mpr c13
       have c13b2 : ¬ (t208 = []) := fun h_ => c13 (by rw [h_]; rfl)
       exact absurd ((Option.some.inj H).trans HR_.out) (by decide)
     ·
      rw [if_neg c12] at H; have c12b0 := beq_eq_false_iff_ne.mpr c12; have c12b1 := bne_iff_ne.mpr c12
      have c12b2 : ¬ (t204 = []) := fun h_ => c12 (by rw [h_]; rfl)
      exact absurd ((Option.some.inj H).trans HR_.out) (by decide)
    ·
     rw [if_neg c11] at H; have c11b0 := beq_eq_false_iff_ne.mpr c11; have c11b1 := bne_iff_ne.mpr c11; exact absurd ((Option.some.inj H).trans HR_.out) (by decide)
   ·
    rw [if_neg c10] at H; have c10b0 := beq_eq_false_iff_ne.mpr c10; have c10b1 := bne_iff_ne.mpr c10; exact absurd ((Option.some.inj H).trans HR_.out) (by decide)
  ·
   replace c8 := Bool.eq_false_iff.mpr c8; subst c8
   have H1 : ((r08_Plan.f k l0).bind fun t215 => ((r08_Stay.f k l0).bind fun t218 => ((moves_Check.f l0).bind fun t221 => (if t221 = 0 then (if t205 = 0 then (if (t204.length : Int) = (t215.length : Int) then (if (t208.length : Int) = (t218.length : Int) then ((moves_Least.f k l0).bind fun t222 => ((r08_Least.f k l0).bind fun t223 => (lw_MovesPlan.j0 k t204 t208 t215 t218 (t222 != t223)))) else (lw_MovesPlan.j0 k t204 t208 t215 t218 true)) else (lw_MovesPlan.j0 k t204 t208 t215 t218 true)) else (lw_MovesPlan.j0 k t204 t208 t215 t218 true)) else (lw_MovesPlan.j0 k t204 t208 t215 t218 true))))) = some r := by rw [if_neg (show ¬ (false = true) by decide)] at H; exact H
   clear H; have H := H1; clear H1; replace H := Option.bind_eq_some_iff.mp H; obtain ⟨t215, A450, H⟩ := H; replace H : ((r08_Stay.f k l0).bind fun t218 => ((moves_Check.f l0).bind fun t221 => (if t221 = 0 then (if t205 = 0 then (if (t204.length : Int) = (t215.length : Int) then (if (t208.length : Int) = (t218.length : Int) then ((moves_Least.f k l0).bind fun t222 => ((r08_Least.f k l0).bind fun t223 => (lw_MovesPlan.j0 k t204 t208 t215 t218 (t222 != t223)))) else (lw_MovesPlan.j0 k t204 t208 t215 t218 true)) else (lw_MovesPlan.j0 k t204 t208 t215 t218 true)) else (lw_MovesPlan.j0 k t204 t208 t215 t218 true)) else (lw_MovesPlan.j0 k t204 t208 t215 t218 true)))) = some r := H; have A45 := zk A450; clear A450; replace H := Option.bind_eq_some_iff.mp H; obtain ⟨t218, A460, H⟩ := H; replace H : ((moves_Check.f l0).bind fun t221 => (if t221 = 0 then (if t205 = 0 then (if (t204.length : Int) = (t215.length : Int) then (if (t208.length : Int) = (t218.length : Int) then ((moves_Least.f k l0).bind fun t222 => ((r08_Least.f k l0).bind fun t223 => (lw_MovesPlan.j0 k t204 t208 t215 t218 (t222 != t223)))) else (lw_MovesPlan.j0 k t204 t208 t215 t218 true)) else (lw_MovesPlan.j0 k t204 t208 t215 t218 true)) else (lw_MovesPlan.j0 k t204 t208 t215 t218 true)) else (lw_MovesPlan.j0 k t204 t208 t215 t218 true))) = some r := H; have A46 := zk A460; clear A460; have HC47 := zk H; clear H
   go_enter Try.func3, Try.ntmps3
   go_upto_region 9 with (first | (go_at_call 7; (with_reducible refine (moves_Plan.calls k _ _ l0 t204 t205 _ ?side1 ?side2 A5.out).mono ?_); (case side1 => repeat (first | exact HR0.out | (with_reducible refine Kd.C_alloc ?_ _) | (with_reducible refine Kd.C_drewN ?_ _) | (with_reducible refine Kd.C_drew ?_))); (case side2 => exact HC0.out); rintro e w48 ⟨v206, rfl, ho0, hb⟩; have n0_ := zk (Kd.R_lower ho0 (zq (by with_reducible repeat first | exact HB.out | apply zA | apply zN | apply zD))); have n1_ := zk (zs (by with_reducible repeat first | exact HB.out | apply zA | apply zN | apply zD) hb); clear HB; have HO207 := n0_; have HB := n1_; clear n0_ n1_; (try clear hb); (try clear hb2); (try clear hk); (try clear hi); (try clear ho0)) | (go_at_call 8; (with_reducible refine (moves_Stay.calls k _ _ l0 t208 _ ?side1 ?side2 A6.out).mono ?_); (case side1 => repeat (first | exact (Kd.C_below HR0.out HB.out) | (with_reducible refine Kd.C_alloc ?_ _) | (with_reducible refine Kd.C_drewN ?_ _) | (with_reducible refine Kd.C_drew ?_))); (case side2 => exact HC0.out); rintro e w49 ⟨v209, rfl, ho0, hb⟩; have n0_ := zk (Kd.R_below (by (with_reducible repeat (first | apply Kd.R_alloc | apply Kd.R_drewN | apply Kd.R_drew)); exact HO207.out) hb); have n1_ := zk (Kd.R_lower ho0 (zq (by with_reducible repeat first | exact HB.out | apply zA | apply zN | apply zD))); have n2_ := zk (zs (by with_reducible repeat first | exact HB.out | apply zA | apply zN | apply zD) hb); clear HO207; clear HB; have HO207 := n0_; have HO210 := n1_; have HB := n2_; clear n0_ n1_ n2_; (try clear hb); (try clear hb2); (try clear hk); (try clear hi); (try clear ho0)) | (go_at_call 9; (with_reducible refine (r08_Twice.calls k _ _ l0 false _ ?side1 ?side2 A7.out).mono ?_); (case side1 => repeat (first | exact (Kd.C_below HR0.out HB.out) | (with_reducible refine Kd.C_alloc ?_ _) | (with_reducible refine Kd.C_drewN ?_ _) | (with_reducible refine Kd.C_drew ?_))); (case side2 => exact HC0.out); rintro e w' ⟨rfl, ⟨nd, rfl⟩⟩; (try first | exact ⟨rfl, _, World.drewN_drewN _ _ _⟩ | exact ⟨rfl, _, Eq.trans (World.drewN_drewN _ _ _) (congrArg (World.drewN _) (Nat.add_assoc _ _ _))⟩)) | (go_at_call 12; (with_reducible refine (r08_Plan.calls k _ _ l0 t215 _ ?side1 ?side2 A45.out).mono ?_); (case side1 => repeat (first | exact (Kd.C_below HR0.out (by with_reducible repeat first | exact HB.out | apply zA | apply zN | apply zD)) | (with_reducible refine Kd.C_alloc ?_ _) | (with_reducible refine Kd.C_drewN ?_ _) | (with_reducible refine Kd.C_drew ?_))); (case side2 => exact HC0.out); rintro e w50 ⟨v216, rfl, ho0, hb⟩; have n0_ := zk (Kd.R_below (by (with_reducible repeat (first | apply Kd.R_alloc | apply Kd.R_drewN | apply Kd.R_drew)); exact HO207.out) hb); have n1_ := zk (Kd.R_below (by (with_reducible repeat (first | apply Kd.R_alloc | apply Kd.R_drewN | apply Kd.R_drew)); exact HO210.out) hb); have n2_ := zk (Kd.R_lower ho0 (zq (by with_reducible repeat first | exact HB.out | apply zA | apply zN | apply zD))); have n3_ := zk (zs (by with_reducible repeat first | exact HB.out | apply zA | apply zN | apply zD) hb); clear HO207; clear HO210; clear HB; have HO207 := n0_; have HO210 := n1_; have HO217 := n2_; have HB := n3_; clear n0_ n1_ n2_ n3_; (try clear hb); (try clear hb2); (try clear hk); (try clear hi); (try clear ho0)) | (go_at_call 13; (with_reducible refine (r08_Stay.calls k _ _ l0 t218 _ ?side1 ?side2 A46.out).mono ?_); (case side1 => repeat (first | exact (Kd.C_below HR0.out HB.out) | (with_reducible refine Kd.C_alloc ?_ _) | (with_reducible refine Kd.C_drewN ?_ _) | (with_reducible refine Kd.C_drew ?_))); (case side2 => exact HC0.out); rintro e w51 ⟨v219, rfl, ho0, hb⟩; have n0_ := zk (Kd.R_below (by (with_reducible repeat (first | apply Kd.R_alloc | apply Kd.R_drewN | apply Kd.R_drew)); exact HO207.out) hb); have n1_ := zk (Kd.R_elder' (by (with_reducible repeat (first | apply Kd.R_alloc | apply Kd.R_drewN | apply Kd.R_drew)); exact HO210.out) (Kd.R_base ho0) hb); have n2_ := zk (Kd.R_below (by (with_reducible repeat (first | apply Kd.R_alloc | apply Kd.R_drewN | apply Kd.R_drew)); exact HO217.out) hb); have n3_ := zk (Kd.R_lower (Kd.R_new' ho0 (Kd.R_lt (by (with_reducible repeat (first | apply Kd.R_alloc | apply Kd.R_drewN | apply Kd.R_drew)); exact HO210.out))) (zq (by with_reducible repeat first | exact HB.out | apply zA | apply zN | apply zD))); have n4_ := zk (zs (by with_reducible repeat first | exact HB.out | apply zA | apply zN | apply zD) hb); clear HO207; clear HO210; clear HO217; clear HB; have HO207 := n0_; have HO210 := n1_; have HO217 := n2_; have HO220 := n3_; have HB := n4_; clear n0_ n1_ n2_ n3_ n4_; (try clear hb); (try clear hb2); (try clear hk); (try clear hi); (try clear ho0)))
   repeat (go_quiet (first | (go_at_call 7; (with_reducible refine (moves_Plan.calls k _ _ l0 t204 t205 _ ?side1 ?side2 A5.out).mono ?_); (case side1 => repeat (first | exact HR0.out | (with_reducible refine Kd.C_alloc ?_ _) | (with_reducible refine Kd.C_drewN ?_ _) | (with_reducible refine Kd.C_drew ?_))); (case side2 => exact HC0.out); rintro e w48 ⟨v206, rfl, ho0, hb⟩; have n0_ := zk (Kd.R_lower ho0 (zq (by with_reducible repeat first | exact HB.out | apply zA | apply zN | apply zD))); have n1_ := zk (zs (by with_reducible repeat first | exact HB.out | apply zA | apply zN | apply zD) hb); clear HB; have HO207 := n0_; have HB := n1_; clear n0_ n1_; (try clear hb); (try clear hb2); (try clear hk); (try clear hi); (try clear ho0)) | (go_at_call 8; (with_reducible refine (moves_Stay.calls k _ _ l0 t208 _ ?side1 ?side2 A6.out).mono ?_); (case side1 => repeat (first | exact (Kd.C_below HR0.out HB.out) | (with_reducible refine Kd.C_alloc ?_ _) | (with_reducible refine Kd.C_drewN ?_ _) | (with_reducible refine Kd.C_drew ?_))); (case side2 => exact HC0.out); rintro e w49 ⟨v209, rfl, ho0, hb⟩; have n0_ := zk (Kd.R_below (by (with_reducible repeat (first | apply Kd.R_alloc | apply Kd.R_drewN | apply Kd.R_drew)); exact HO207.out) hb); have n1_ := zk (Kd.R_lower ho0 (zq (by with_reducible repeat first | exact HB.out | apply zA | apply zN | apply zD))); have n2_ := zk (zs (by with_reducible repeat first | exact HB.out | apply zA | apply zN | apply zD) hb); clear HO207; clear HB; have HO207 := n0_; have HO210 := n1_; have HB := n2_; clear n0_ n1_ n2_; (try clear hb); (try clear hb2); (try clear hk); (try clear hi); (try clear ho0)) | (go_at_call 9; (with_reducible refine (r08_Twice.calls k _ _ l0 false _ ?side1 ?side2 A7.out).mono ?_); (case side1 => repeat (first | exact (Kd.C_below HR0.out HB.out) | (with_reducible refine Kd.C_alloc ?_ _) | (with_reducible refine Kd.C_drewN ?_ _) | (with_reducible refine Kd.C_drew ?_))); (case side2 => exact HC0.out); rintro e w' ⟨rfl, ⟨nd, rfl⟩⟩; (try first | exact ⟨rfl, _, World.drewN_drewN _ _ _⟩ | exact ⟨rfl, _, Eq.trans (World.drewN_drewN _ _ _) (congrArg (World.drewN _) (Nat.add_assoc _ _ _))⟩)) | (go_at_call 12; (with_reducible refine (r08_Plan.calls k _ _ l0 t215 _ ?side1 ?side2 A45.out).mono ?_); (case side1 => repeat (first | exact (Kd.C_below HR0.out (by with_reducible repeat first | exact HB.out | apply zA | apply zN | apply zD)) | (with_reducible refine Kd.C_alloc ?_ _) | (with_reducible refine Kd.C_drewN ?_ _) | (with_reducible refine Kd.C_drew ?_))); (case side2 => exact HC0.out); rintro e w50 ⟨v216, rfl, ho0, hb⟩; have n0_ := zk (Kd.R_below (by (with_reducible repeat (first | apply Kd.R_alloc | apply Kd.R_drewN | apply Kd.R_drew)); exact HO207.out) hb); have n1_ := zk (Kd.R_below (by (with_reducible repeat (first | apply Kd.R_alloc | apply Kd.R_drewN | apply Kd.R_drew)); exact HO210.out) hb); have n2_ := zk (Kd.R_lower ho0 (zq (by with_reducible repeat first | exact HB.out | apply zA | apply zN | apply zD))); have n3_ := zk (zs (by with_reducible repeat first | exact HB.out | apply zA | apply zN | apply zD) hb); clear HO207; clear HO210; clear HB; have HO207 := n0_; have HO210 := n1_; have HO217 := n2_; have HB := n3_; clear n0_ n1_ n2_ n3_; (try clear hb); (try clear hb2); (try clear hk); (try clear hi); (try clear ho0)) | (go_at_call 13; (with_reducible refine (r08_Stay.calls k _ _ l0 t218 _ ?side1 ?side2 A46.out).mono ?_); (case side1 => repeat (first | exact (Kd.C_below HR0.out HB.out) | (with_reducible refine Kd.C_alloc ?_ _) | (with_reducible refine Kd.C_drewN ?_ _) | (with_reducible refine Kd.C_drew ?_))); (case side2 => exact HC0.out); rintro e w51 ⟨v219, rfl, ho0, hb⟩; have n0_ := zk (Kd.R_below (by (with_reducible repeat (first | apply Kd.R_alloc | apply Kd.R_drewN | apply Kd.R_drew)); exact HO207.out) hb); have n1_ := zk (Kd.R_elder' (by (with_reducible repeat (first | apply Kd.R_alloc | apply Kd.R_drewN | apply Kd.R_drew)); exact HO210.out) (Kd.R_base ho0) hb); have n2_ := zk (Kd.R_below (by (with_reducible repeat (first | apply Kd.R_alloc | apply Kd.R_drewN | apply Kd.R_drew)); exact HO217.out) hb); have n3_ := zk (Kd.R_lower (Kd.R_new' ho0 (Kd.R_lt (by (with_reducible repeat (first | apply Kd.R_alloc | apply Kd.R_drewN | apply Kd.R_drew)); exact HO210.out))) (zq (by with_reducible repeat first | exact HB.out | apply zA | apply zN | apply zD))); have n4_ := zk (zs (by with_reducible repeat first | exact HB.out | apply zA | apply zN | apply zD) hb); clear HO207; clear HO210; clear HO217; clear HB; have HO207 := n0_; have HO210 := n1_; have HO217 := n2_; have HO220 := n3_; have HB := n4_; clear n0_ n1_ n2_ n3_ n4_; (try clear hb); (try clear hb2); (try clear hk); (try clear hi); (try clear ho0))); go_upto_region 9 with (first | (go_at_call 7; (with_reducible refine (moves_Plan.calls k _ _ l0 t204 t205 _ ?side1 ?side2 A5.out).mono ?_); (case side1 => repeat (first | exact HR0.out | (with_reducible refine Kd.C_alloc ?_ _) | (with_reducible refine Kd.C_drewN ?_ _) | (with_reducible refine Kd.C_drew ?_))); (case side2 => exact HC0.out); rintro e w48 ⟨v206, rfl, ho0, hb⟩; have n0_ := zk (Kd.R_lower ho0 (zq (by with_reducible repeat first | exact HB.out | apply zA | apply zN | apply zD))); have n1_ := zk (zs (by with_reducible repeat first | exact HB.out | apply zA | apply zN | apply zD) hb); clear HB; have HO207 := n0_; have HB := n1_; clear n0_ n1_; (try clear hb); (try clear hb2); (try clear hk); (try clear hi); (try clear ho0)) | (go_at_call 8; (with_reducible refine (moves_Stay.calls k _ _ l0 t208 _ ?side1 ?side2 A6.out).mono ?_); (case side1 => repeat (first | exact (Kd.C_below HR0.out HB.out) | (with_reducible refine Kd.C_alloc ?_ _) | (with_reducible refine Kd.C_drewN ?_ _) | (with_reducible refine Kd.C_drew ?_))); (case side2 => exact HC0.out); rintro e w49 ⟨v209, rfl, ho0, hb⟩; have n0_ := zk (Kd.R_below (by (with_reducible repeat (first | apply Kd.R_alloc | apply Kd.R_drewN | apply Kd.R_drew)); exact HO207.out) hb); have n1_ := zk (Kd.R_lower ho0 (zq (by with_reducible repeat first | exact HB.out | apply zA | apply zN | apply zD))); have n2_ := zk (zs (by with_reducible repeat first | exact HB.out | apply zA | apply zN | apply zD) hb); clear HO207; clear HB; have HO207 := n0_; have HO210 := n1_; have HB := n2_; clear n0_ n1_ n2_; (try clear hb); (try clear hb2); (try clear hk); (try clear hi); (try clear ho0)) | (go_at_call 9; (with_reducible refine (r08_Twice.calls k _ _ l0 false _ ?side1 ?side2 A7.out).mono ?_); (case side1 => repeat (first | exact (Kd.C_below HR0.out HB.out) | (with_reducible refine Kd.C_alloc ?_ _) | (with_reducible refine Kd.C_drewN ?_ _) | (with_reducible refine Kd.C_drew ?_))); (case side2 => exact HC0.out); rintro e w' ⟨rfl, ⟨nd, rfl⟩⟩; (try first | exact ⟨rfl, _, World.drewN_drewN _ _ _⟩ | exact ⟨rfl, _, Eq.trans (World.drewN_drewN _ _ _) (congrArg (World.drewN _) (Nat.add_assoc _ _ _))⟩)) | (go_at_call 12; (with_reducible refine (r08_Plan.calls k _ _ l0 t215 _ ?side1 ?side2 A45.out).mono ?_); (case side1 => repeat (first | exact (Kd.C_below HR0.out (by with_reducible repeat first | exact HB.out | apply zA | apply zN | apply zD)) | (with_reducible refine Kd.C_alloc ?_ _) | (with_reducible refine Kd.C_drewN ?_ _) | (with_reducible refine Kd.C_drew ?_))); (case side2 => exact HC0.out); rintro e w50 ⟨v216, rfl, ho0, hb⟩; have n0_ := zk (Kd.R_below (by (with_reducible repeat (first | apply Kd.R_alloc | apply Kd.R_drewN | apply Kd.R_drew)); exact HO207.out) hb); have n1_ := zk (Kd.R_below (by (with_reducible repeat (first | apply Kd.R_alloc | apply Kd.R_drewN | apply Kd.R_drew)); exact HO210.out) hb); have n2_ := zk (Kd.R_lower ho0 (zq (by with_reducible repeat first | exact HB.out | apply zA | apply zN | apply zD))); have n3_ := zk (zs (by with_reducible repeat first | exact HB.out | apply zA | apply zN | apply zD) hb); clear HO207; clear HO210; clear HB; have HO207 := n0_; have HO210 := n1_; have HO217 := n2_; have HB := n3_; clear n0_ n1_ n2_ n3_; (try clear hb); (try clear hb2); (try clear hk); (try clear hi); (try clear ho0)) | (go_at_call 13; (with_reducible refine (r08_Stay.calls k _ _ l0 t218 _ ?side1 ?side2 A46.out).mono ?_); (case side1 => repeat (first | exact (Kd.C_below HR0.out HB.out) | (with_reducible refine Kd.C_alloc ?_ _) | (with_reducible refine Kd.C_drewN ?_ _) | (with_reducible refine Kd.C_drew ?_))); (case side2 => exact HC0.out); rintro e w51 ⟨v219, rfl, ho0, hb⟩; have n0_ := zk (Kd.R_below (by (with_reducible repeat (first | apply Kd.R_alloc | apply Kd.R_drewN | apply Kd.R_drew)); exact HO207.out) hb); have n1_ := zk (Kd.R_elder' (by (with_reducible repeat (first | apply Kd.R_alloc | apply Kd.R_drewN | apply Kd.R_drew)); exact HO210.out) (Kd.R_base ho0) hb); have n2_ := zk (Kd.R_below (by (with_reducible repeat (first | apply Kd.R_alloc | apply Kd.R_drewN | apply Kd.R_drew)); exact HO217.out) hb); have n3_ := zk (Kd.R_lower (Kd.R_new' ho0 (Kd.R_lt (by (with_reducible repeat (first | apply Kd.R_alloc | apply Kd.R_drewN | apply Kd.R_drew)); exact HO210.out))) (zq (by with_reducible repeat first | exact HB.out | apply zA | apply zN | apply zD))); have n4_ := zk (zs (by with_reducible repeat first | exact HB.out | apply zA | apply zN | apply zD) hb); clear HO207; clear HO210; clear HO217; clear HB; have HO207 := n0_; have HO210 := n1_; have HO217 := n2_; have HO220 := n3_; have HB := n4_; clear n0_ n1_ n2_ n3_ n4_; (try clear hb); (try clear hb2); (try clear hk); (try clear hi); (try clear ho0))))
   (try simp only [Act.put, List.setIfInBounds_toArray, List.set_cons_zero, List.set_cons_succ])
   go_cut [79] (fun v79 wc => ∃ (kq : Nat) (x79_46 : Bool), v79 = .bool x79_46 ∧ Aside0 (lw_MovesPlan.j0 kq t204 t208 t215 t218 x79_46 = some r) ∧ Aside0 (kq ≤ k) ∧ Aside0 (Kd.R k36 36 wc w.heap.size (fun _ => True) v206 t204) ∧ Aside0 (Kd.R Kd.bool 4 wc w.heap.size (fun k_ => some k_ ≠ (v219 : Value).ownBlock) v209 t208) ∧ Aside0 (Kd.R k37 37 wc w.heap.size (fun _ => True) v216 t215) ∧ Aside0 (Kd.R Kd.bool 4 wc w.heap.size (fun k_ => some k_ ≠ (v209 : Value).ownBlock) v219 t218) ∧ Aside0 (Below w.heap.size w wc))
   case first =>
    have H := HC47.out; clear HC47; replace H := Option.bind_eq_some_iff.mp H; obtain ⟨t221, A520, H⟩ := H; replace H : (if t221 = 0 then (if t205 = 0 then (if (t204.length : Int) = (t215.length : Int) then (if (t208.length : Int) = (t218.length : Int) then ((moves_Least.f k l0).bind fun t222 => ((r08_Least.f k l0).bind fun t223 => (lw_MovesPlan.j0 k t204 t208 t215 t218 (t222 != t223)))) else (lw_MovesPlan.j0 k t204 t208 t215 t218 true)) else (lw_MovesPlan.j0 k t204 t208 t215 t218 true)) else (lw_MovesPlan.j0 k t204 t208 t215 t218 true)) else (lw_MovesPlan.j0 k t204 t208 t215 t218 true)) = some r := H; have A52 := zk A520; clear A520
    by_cases c53 : t221 = 0
    ·
     rw [if_pos c53] at H; have c53b0 := beq_iff_eq.mpr c53; have c53b1 := bne_eq_false_iff_eq.mpr c53; clear c53
     (first | rw [c53b0] | (simp only [i64_w, i32_w]; rw [c53b0]) | skip)
     by_cases c54 : t205 = 0
     ·
      rw [if_pos c54] at H; have c54b0 := beq_iff_eq.mpr c54; have c54b1 := bne_eq_false_iff_eq.mpr c54; clear c54
      by_cases c55 : (t204.length : Int) = (t215.length : Int)
      ·
       rw [if_pos c55] at H; have c55b0 := beq_iff_eq.mpr c55; have c55b1 := bne_eq_false_iff_eq.mpr c55
       have c55b2 : (t204.length == t215.length) = true := by first | simpa using c55 | (simp at c55 ⊢; omega)
       clear c55
       by_cases c56 : (t208.length : Int) = (t218.length : Int)
       ·
        rw [if_pos c56] at H; have c56b0 := beq_iff_eq.mpr c56; have c56b1 := bne_eq_false_iff_eq.mpr c56
        have c56b2 : (t208.length == t218.length) = true := by first | simpa using c56 | (simp at c56 ⊢; omega)
        clear c56; replace H := Option.bind_eq_some_iff.mp H; obtain ⟨t222, A570, H⟩ := H; replace H : ((r08_Least.f k l0).bind fun t223 => (lw_MovesPlan.j0 k t204 t208 t215 t218 (t222 != t223))) = some r := H; have A57 := zk A570; clear A570; replace H := Option.bind_eq_some_iff.mp H; obtain ⟨t223, A580, H⟩ := H; replace H : (lw_MovesPlan.j0 k t204 t208 t215 t218 (t222 != t223)) = some r := H; have A58 := zk A580; clear A580; have H' := zk H; clear H
        go_wp2_with (first | (go_at_call 10; (with_reducible refine (moves_Check.calls _ _ l0 t221 _ ?side1 ?side2 A52.out).mono ?_); (case side1 => repeat (first | exact (Kd.C_below HR0.out HB.out) | (with_reducible refine Kd.C_alloc ?_ _) | (with_reducible refine Kd.C_drewN ?_ _) | (with_reducible refine Kd.C_drew ?_))); (case side2 => exact HC0.out); rintro e w59 ⟨rfl, hb⟩; have n0_ := zk (Kd.R_below (by (with_reducible repeat (first | apply Kd.R_alloc | apply Kd.R_drewN | apply Kd.R_drew)); exact HO207.out) hb); have n1_ := zk (Kd.R_below (by (with_reducible repeat (first | apply Kd.R_alloc | apply Kd.R_drewN | apply Kd.R_drew)); exact HO210.out) hb); have n2_ := zk (Kd.R_below (by (with_reducible repeat (first | apply Kd.R_alloc | apply Kd.R_drewN | apply Kd.R_drew)); exact HO217.out) hb); have n3_ := zk (Kd.R_below (by (with_reducible repeat (first | apply Kd.R_alloc | apply Kd.R_drewN | apply Kd.R_drew)); exact HO220.out) hb); have n4_ := zk (zs (by with_reducible repeat first | exact HB.out | apply zA | apply zN | apply zD) hb); clear HO207; clear HO210; clear HO217; clear HO220; clear HB; have HO207 := n0_; have HO210 := n1_; have HO217 := n2_; have HO220 := n3_; have HB := n4_; clear n0_ n1_ n2_ n3_ n4_; (try clear hb); (try clear hb2); (try clear hk); (try clear hi); obtain ⟨Ao60, co60, eo60⟩ := Kd.R_slice HO207.out; subst eo60; obtain ⟨Ao61, co61, eo61⟩ := Kd.R_slice HO217.out; subst eo61; obtain ⟨Ao62, co62, eo62⟩ := Kd.R_slice HO210.out; subst eo62; obtain ⟨Ao63, co63, eo63⟩ := Kd.R_slice HO220.out; subst eo63) | (go_at_call 11; (with_reducible refine (moves_Least.calls k _ _ l0 t222 _ ?side1 ?side2 A57.out).mono ?_); (case side1 => repeat (first | exact (Kd.C_below HR0.out HB.out) | (with_reducible refine Kd.C_alloc ?_ _) | (with_reducible refine Kd.C_drewN ?_ _) | (with_reducible refine Kd.C_drew ?_))); (case side2 => exact HC0.out); rintro e w64 ⟨rfl, hb⟩; have n0_ := zk (Kd.R_below (by (with_reducible repeat (first | apply Kd.R_alloc | apply Kd.R_drewN | apply Kd.R_drew)); exact HO207.out) hb); have n1_ := zk (Kd.R_below (by (with_reducible repeat (first | apply Kd.R_alloc | apply Kd.R_drewN | apply Kd.R_drew)); exact HO210.out) hb); have n2_ := zk (Kd.R_below (by (with_reducible repeat (first | apply Kd.R_alloc | apply Kd.R_drewN | apply Kd.R_drew)); exact HO217.out) hb); have n3_ := zk (Kd.R_below (by (with_reducible repeat (first | apply Kd.R_alloc | apply Kd.R_drewN | apply Kd.R_drew)); exact HO220.out) hb); have n4_ := zk (zs (by with_reducible repeat first | exact HB.out | apply zA | apply zN | apply zD) hb); clear HO207; clear HO210; clear HO217; clear HO220; clear HB; have HO207 := n0_; have HO210 := n1_; have HO217 := n2_; have HO220 := n3_; have HB := n4_; clear n0_ n1_ n2_ n3_ n4_; (try clear hb); (try clear hb2); (try clear hk); (try clear hi)) | (go_at_call 14; (with_reducible refine (r08_Least.calls k _ _ l0 t223 _ ?side1 ?side2 A58.out).mono ?_); (case side1 => repeat (first | exact (Kd.C_below HR0.out HB.out) | (with_reducible refine Kd.C_alloc ?_ _) | (with_reducible refine Kd.C_drewN ?_ _) | (with_reducible refine Kd.C_drew ?_))); (case side2 => exact HC0.out); rintro e w65 ⟨rfl, hb⟩; have n0_ := zk (Kd.R_below (by (with_reducible repeat (first | apply Kd.R_alloc | apply Kd.R_drewN | apply Kd.R_drew)); exact HO207.out) hb); have n1_ := zk (Kd.R_below (by (with_reducible repeat (first | apply Kd.R_alloc | apply Kd.R_drewN | apply Kd.R_drew)); exact HO210.out) hb); have n2_ := zk (Kd.R_below (by (with_reducible repeat (first | apply Kd.R_alloc | apply Kd.R_drewN | apply Kd.R_drew)); exact HO217.out) hb); have n3_ := zk (Kd.R_below (by (with_reducible repeat (first | apply Kd.R_alloc | apply Kd.R_drewN | apply Kd.R_drew)); exact HO220.out) hb); have n4_ := zk (zs (by with_reducible repeat first | exact HB.out | apply zA | apply zN | apply zD) hb); clear HO207; clear HO210; clear HO217; clear HO220; clear HB; have HO207 := n0_; have HO210 := n1_; have HO217 := n2_; have HO220 := n3_; have HB := n4_; clear n0_ n1_ n2_ n3_ n4_; (try clear hb); (try clear hb2); (try clear hk); (try clear hi)))
        repeat (go_quiet (first | (go_at_call 10; (with_reducible refine (moves_Check.calls _ _ l0 t221 _ ?side1 ?side2 A52.out).mono ?_); (case side1 => repeat (first | exact (Kd.C_below HR0.out HB.out) | (with_reducible refine Kd.C_alloc ?_ _) | (with_reducible refine Kd.C_drewN ?_ _) | (with_reducible refine Kd.C_drew ?_))); (case side2 => exact HC0.out); rintro e w59 ⟨rfl, hb⟩; have n0_ := zk (Kd.R_below (by (with_reducible repeat (first | apply Kd.R_alloc | apply Kd.R_drewN | apply Kd.R_drew)); exact HO207.out) hb); have n1_ := zk (Kd.R_below (by (with_reducible repeat (first | apply Kd.R_alloc | apply Kd.R_drewN | apply Kd.R_drew)); exact HO210.out) hb); have n2_ := zk (Kd.R_below (by (with_reducible repeat (first | apply Kd.R_alloc | apply Kd.R_drewN | apply Kd.R_drew)); exact HO217.out) hb); have n3_ := zk (Kd.R_below (by (with_reducible repeat (first | apply Kd.R_alloc | apply Kd.R_drewN | apply Kd.R_drew)); exact HO220.out) hb); have n4_ := zk (zs (by with_reducible repeat first | exact HB.out | apply zA | apply zN | apply zD) hb); clear HO207; clear HO210; clear HO217; clear HO220; clear HB; have HO207 := n0_; have HO210 := n1_; have HO217 := n2_; have HO220 := n3_; have HB := n4_; clear n0_ n1_ n2_ n3_ n4_; (try clear hb); (try clear hb2); (try clear hk); (try clear hi); obtain ⟨Ao60, co60, eo60⟩ := Kd.R_slice HO207.out; subst eo60; obtain ⟨Ao61, co61, eo61⟩ := Kd.R_slice HO217.out; subst eo61; obtain ⟨Ao62, co62, eo62⟩ := Kd.R_slice HO210.out; subst eo62; obtain ⟨Ao63, co63, eo63⟩ := Kd.R_slice HO220.out; subst eo63) | (go_at_call 11; (with_reducible refine (moves_Least.calls k _ _ l0 t222 _ ?side1 ?side2 A57.out).mono ?_); (case side1 => repeat (first | exact (Kd.C_below HR0.out HB.out) | (with_reducible refine Kd.C_alloc ?_ _) | (with_reducible refine Kd.C_drewN ?_ _) | (with_reducible refine Kd.C_drew ?_))); (case side2 => exact HC0.out); rintro e w64 ⟨rfl, hb⟩; have n0_ := zk (Kd.R_below (by (with_reducible repeat (first | apply Kd.R_alloc | apply Kd.R_drewN | apply Kd.R_drew)); exact HO207.out) hb); have n1_ := zk (Kd.R_below (by (with_reducible repeat (first | apply Kd.R_alloc | apply Kd.R_drewN | apply Kd.R_drew)); exact HO210.out) hb); have n2_ := zk (Kd.R_below (by (with_reducible repeat (first | apply Kd.R_alloc | apply Kd.R_drewN | apply Kd.R_drew)); exact HO217.out) hb); have n3_ := zk (Kd.R_below (by (with_reducible repeat (first | apply Kd.R_alloc | apply Kd.R_drewN | apply Kd.R_drew)); exact HO220.out) hb); have n4_ := zk (zs (by with_reducible repeat first | exact HB.out | apply zA | apply zN | apply zD) hb); clear HO207; clear HO210; clear HO217; clear HO220; clear HB; have HO207 := n0_; have HO210 := n1_; have HO217 := n2_; have HO220 := n3_; have HB := n4_; clear n0_ n1_ n2_ n3_ n4_; (try clear hb); (try clear hb2); (try clear hk); (try clear hi)) | (go_at_call 14; (with_reducible refine (r08_Least.calls k _ _ l0 t223 _ ?side1 ?side2 A58.out).mono ?_); (case side1 => repeat (first | exact (Kd.C_below HR0.out HB.out) | (with_reducible refine Kd.C_alloc ?_ _) | (with_reducible refine Kd.C_drewN ?_ _) | (with_reducible refine Kd.C_drew ?_))); (case side2 => exact HC0.out); rintro e w65 ⟨rfl, hb⟩; have n0_ := zk (Kd.R_below (by (with_reducible repeat (first | apply Kd.R_alloc | apply Kd.R_drewN | apply Kd.R_drew)); exact HO207.out) hb); have n1_ := zk (Kd.R_below (by (with_reducible repeat (first | apply Kd.R_alloc | apply Kd.R_drewN | apply Kd.R_drew)); exact HO210.out) hb); have n2_ := zk (Kd.R_below (by (with_reducible repeat (first | apply Kd.R_alloc | apply Kd.R_drewN | apply Kd.R_drew)); exact HO217.out) hb); have n3_ := zk (Kd.R_below (by (with_reducible repeat (first | apply Kd.R_alloc | apply Kd.R_drewN | apply Kd.R_drew)); exact HO220.out) hb); have n4_ := zk (zs (by with_reducible repeat first | exact HB.out | apply zA | apply zN | apply zD) hb); clear HO207; clear HO210; clear HO217; clear HO220; clear HB; have HO207 := n0_; have HO210 := n1_; have HO217 := n2_; have HO220 := n3_; have HB := n4_; clear n0_ n1_ n2_ n3_ n4_; (try clear hb); (try clear hb2); (try clear hk); (try clear hi))); try go_wp2_with (first | (go_at_call 10; (with_reducible refine (moves_Check.calls _ _ l0 t221 _ ?side1 ?side2 A52.out).mono ?_); (case side1 => repeat (first | exact (Kd.C_below HR0.out HB.out) | (with_reducible refine Kd.C_alloc ?_ _) | (with_reducible refine Kd.C_drewN ?_ _) | (with_reducible refine Kd.C_drew ?_))); (case side2 => exact HC0.out); rintro e w59 ⟨rfl, hb⟩; have n0_ := zk (Kd.R_below (by (with_reducible repeat (first | apply Kd.R_alloc | apply Kd.R_drewN | apply Kd.R_drew)); exact HO207.out) hb); have n1_ := zk (Kd.R_below (by (with_reducible repeat (first | apply Kd.R_alloc | apply Kd.R_drewN | apply Kd.R_drew)); exact HO210.out) hb); have n2_ := zk (Kd.R_below (by (with_reducible repeat (first | apply Kd.R_alloc | apply Kd.R_drewN | apply Kd.R_drew)); exact HO217.out) hb); have n3_ := zk (Kd.R_below (by (with_reducible repeat (first | apply Kd.R_alloc | apply Kd.R_drewN | apply Kd.R_drew)); exact HO220.out) hb); have n4_ := zk (zs (by with_reducible repeat first | exact HB.out | apply zA | apply zN | apply zD) hb); clear HO207; clear HO210; clear HO217; clear HO220; clear HB; have HO207 := n0_; have HO210 := n1_; have HO217 := n2_; have HO220 := n3_; have HB := n4_; clear n0_ n1_ n2_ n3_ n4_; (try clear hb); (try clear hb2); (try clear hk); (try clear hi); obtain ⟨Ao60, co60, eo60⟩ := Kd.R_slice HO207.out; subst eo60; obtain ⟨Ao61, co61, eo61⟩ := Kd.R_slice HO217.out; subst eo61; obtain ⟨Ao62, co62, eo62⟩ := Kd.R_slice HO210.out; subst eo62; obtain ⟨Ao63, co63, eo63⟩ := Kd.R_slice HO220.out; subst eo63) | (go_at_call 11; (with_reducible refine (moves_Least.calls k _ _ l0 t222 _ ?side1 ?side2 A57.out).mono ?_); (case side1 => repeat (first | exact (Kd.C_below HR0.out HB.out) | (with_reducible refine Kd.C_alloc ?_ _) | (with_reducible refine Kd.C_drewN ?_ _) | (with_reducible refine Kd.C_drew ?_))); (case side2 => exact HC0.out); rintro e w64 ⟨rfl, hb⟩; have n0_ := zk (Kd.R_below (by (with_reducible repeat (first | apply Kd.R_alloc | apply Kd.R_drewN | apply Kd.R_drew)); exact HO207.out) hb); have n1_ := zk (Kd.R_below (by (with_reducible repeat (first | apply Kd.R_alloc | apply Kd.R_drewN | apply Kd.R_drew)); exact HO210.out) hb); have n2_ := zk (Kd.R_below (by (with_reducible repeat (first | apply Kd.R_alloc | apply Kd.R_drewN | apply Kd.R_drew)); exact HO217.out) hb); have n3_ := zk (Kd.R_below (by (with_reducible repeat (first | apply Kd.R_alloc | apply Kd.R_drewN | apply Kd.R_drew)); exact HO220.out) hb); have n4_ := zk (zs (by with_reducible repeat first | exact HB.out | apply zA | apply zN | apply zD) hb); clear HO207; clear HO210; clear HO217; clear HO220; clear HB; have HO207 := n0_; have HO210 := n1_; have HO217 := n2_; have HO220 := n3_; have HB := n4_; clear n0_ n1_ n2_ n3_ n4_; (try clear hb); (try clear hb2); (try clear hk); (try clear hi)) | (go_at_call 14; (with_reducible refine (r08_Least.calls k _ _ l0 t223 _ ?side1 ?side2 A58.out).mono ?_); (case side1 => repeat (first | exact (Kd.C_below HR0.out HB.out) | (with_reducible refine Kd.C_alloc ?_ _) | (with_reducible refine Kd.C_drewN ?_ _) | (with_reducible refine Kd.C_drew ?_))); (case side2 => exact HC0.out); rintro e w65 ⟨rfl, hb⟩; have n0_ := zk (Kd.R_below (by (with_reducible repeat (first | apply Kd.R_alloc | apply Kd.R_drewN | apply Kd.R_drew)); exact HO207.out) hb); have n1_ := zk (Kd.R_below (by (with_reducible repeat (first | apply Kd.R_alloc | apply Kd.R_drewN | apply Kd.R_drew)); exact HO210.out) hb); have n2_ := zk (Kd.R_below (by (with_reducible repeat (first | apply Kd.R_alloc | apply Kd.R_drewN | apply Kd.R_drew)); exact HO217.out) hb); have n3_ := zk (Kd.R_below (by (with_reducible repeat (first | apply Kd.R_alloc | apply Kd.R_drewN | apply Kd.R_drew)); exact HO220.out) hb); have n4_ := zk (zs (by with_reducible repeat first | exact HB.out | apply zA | apply zN | apply zD) hb); clear HO207; clear HO210; clear HO217; clear HO220; clear HB; have HO207 := n0_; have HO210 := n1_; have HO217 := n2_; have HO220 := n3_; have HB := n4_; clear n0_ n1_ n2_ n3_ n4_; (try clear hb); (try clear hb2); (try clear hk); (try clear hi))))
        go_meet
        case rel => exact ⟨_, ((t222 != t223)), (by first | rfl | (simp; done) | (simp [*]; done)), H', ⟨by first | omega | exact Nat.le_refl _⟩, ⟨by (with_reducible repeat (first | apply Kd.R_alloc | apply Kd.R_drewN | apply Kd.R_drew)); exact HO207.out⟩, ⟨by (with_reducible repeat (first | apply Kd.R_alloc | apply Kd.R_drewN | apply Kd.R_drew)); exact Kd.R_mono HO210.out (fun _ hk => hk.2)⟩, ⟨by (with_reducible repeat (first | apply Kd.R_alloc | apply Kd.R_drewN | apply Kd.R_drew)); exact HO217.out⟩, ⟨by (with_reducible repeat (first | apply Kd.R_alloc | apply Kd.R_drewN | apply Kd.R_drew)); exact Kd.R_mono HO220.out (fun _ hk => hk.2)⟩, ⟨by with_reducible repeat first | exact HB.out | apply zA | apply zN | apply zD⟩⟩
       ·
        rw [if_neg c56] at H; have c56b0 := beq_eq_false_iff_ne.mpr c56; have c56b1 := bne_iff_ne.mpr c56
        have c56b2 : (t208.length == t218.length) = false := by first | simpa using c56 | (simp at c56 ⊢; omega)
        have H' := zk H; clear H
        go_wp2_with (first | (go_at_call 10; (with_reducible refine (moves_Check.calls _ _ l0 t221 _ ?side1 ?side2 A52.out).mono ?_); (case side1 => repeat (first | exact (Kd.C_below HR0.out HB.out) | (with_reducible refine Kd.C_alloc ?_ _) | (with_reducible refine Kd.C_drewN ?_ _) | (with_reducible refine Kd.C_drew ?_))); (case side2 => exact HC0.out); rintro e w66 ⟨rfl, hb⟩; have n0_ := zk (Kd.R_below (by (with_reducible repeat (first | apply Kd.R_alloc | apply Kd.R_drewN | apply Kd.R_drew)); exact HO207.out) hb); have n1_ := zk (Kd.R_below (by (with_reducible repeat (first | apply Kd.R_alloc | apply Kd.R_drewN | apply Kd.R_drew)); exact HO210.out) hb); have n2_ := zk (Kd.R_below (by (with_reducible repeat (first | apply Kd.R_alloc | apply Kd.R_drewN | apply Kd.R_drew)); exact HO217.out) hb); have n3_ := zk (Kd.R_below (by (with_reducible repeat (first | apply Kd.R_alloc | apply Kd.R_drewN | apply Kd.R_drew)); exact HO220.out) hb); have n4_ := zk (zs (by with_reducible repeat first | exact HB.out | apply zA | apply zN | apply zD) hb); clear HO207; clear HO210; clear HO217; clear HO220; clear HB; have HO207 := n0_; have HO210 := n1_; have HO217 := n2_; have HO220 := n3_; have HB := n4_; clear n0_ n1_ n2_ n3_ n4_; (try clear hb); (try clear hb2); (try clear hk); (try clear hi); obtain ⟨Ao67, co67, eo67⟩ := Kd.R_slice HO207.out; subst eo67; obtain ⟨Ao68, co68, eo68⟩ := Kd.R_slice HO217.out; subst eo68; obtain ⟨Ao69, co69, eo69⟩ := Kd.R_slice HO210.out; subst eo69; obtain ⟨Ao70, co70, eo70⟩ := Kd.R_slice HO220.out; subst eo70))
        repeat (go_quiet (first | (go_at_call 10; (with_reducible refine (moves_Check.calls _ _ l0 t221 _ ?side1 ?side2 A52.out).mono ?_); (case side1 => repeat (first | exact (Kd.C_below HR0.out HB.out) | (with_reducible refine Kd.C_alloc ?_ _) | (with_reducible refine Kd.C_drewN ?_ _) | (with_reducible refine Kd.C_drew ?_))); (case side2 => exact HC0.out); rintro e w66 ⟨rfl, hb⟩; have n0_ := zk (Kd.R_below (by (with_reducible repeat (first | apply Kd.R_alloc | apply Kd.R_drewN | apply Kd.R_drew)); exact HO207.out) hb); have n1_ := zk (Kd.R_below (by (with_reducible repeat (first | apply Kd.R_alloc | apply Kd.R_drewN | apply Kd.R_drew)); exact HO210.out) hb); have n2_ := zk (Kd.R_below (by (with_reducible repeat (first | apply Kd.R_alloc | apply Kd.R_drewN | apply Kd.R_drew)); exact HO217.out) hb); have n3_ := zk (Kd.R_below (by (with_reducible repeat (first | apply Kd.R_alloc | apply Kd.R_drewN | apply Kd.R_drew)); exact HO220.out) hb); have n4_ := zk (zs (by with_reducible repeat first | exact HB.out | apply zA | apply zN | apply zD) hb); clear HO207; clear HO210; clear HO217; clear HO220; clear HB; have HO207 := n0_; have HO210 := n1_; have HO217 := n2_; have HO220 := n3_; have HB := n4_; clear n0_ n1_ n2_ n3_ n4_; (try clear hb); (try clear hb2); (try clear hk); (try clear hi); obtain ⟨Ao67, co67, eo67⟩ := Kd.R_slice HO207.out; subst eo67; obtain ⟨Ao68, co68, eo68⟩ := Kd.R_slice HO217.out; subst eo68; obtain ⟨Ao69, co69, eo69⟩ := Kd.R_slice HO210.out; subst eo69; obtain ⟨Ao70, co70, eo70⟩ := Kd.R_slice HO220.out; subst eo70)); try go_wp2_with (first | (go_at_call 10; (with_reducible refine (moves_Check.calls _ _ l0 t221 _ ?side1 ?side2 A52.out).mono ?_); (case side1 => repeat (first | exact (Kd.C_below HR0.out HB.out) | (with_reducible refine Kd.C_alloc ?_ _) | (with_reducible refine Kd.C_drewN ?_ _) | (with_reducible refine Kd.C_drew ?_))); (case side2 => exact HC0.out); rintro e w66 ⟨rfl, hb⟩; have n0_ := zk (Kd.R_below (by (with_reducible repeat (first | apply Kd.R_alloc | apply Kd.R_drewN | apply Kd.R_drew)); exact HO207.out) hb); have n1_ := zk (Kd.R_below (by (with_reducible repeat (first | apply Kd.R_alloc | apply Kd.R_drewN | apply Kd.R_drew)); exact HO210.out) hb); have n2_ := zk (Kd.R_below (by (with_reducible repeat (first | apply Kd.R_alloc | apply Kd.R_drewN | apply Kd.R_drew)); exact HO217.out) hb); have n3_ := zk (Kd.R_below (by (with_reducible repeat (first | apply Kd.R_alloc | apply Kd.R_drewN | apply Kd.R_drew)); exact HO220.out) hb); have n4_ := zk (zs (by with_reducible repeat first | exact HB.out | apply zA | apply zN | apply zD) hb); clear HO207; clear HO210; clear HO217; clear HO220; clear HB; have HO207 := n0_; have HO210 := n1_; have HO217 := n2_; have HO220 := n3_; have HB := n4_; clear n0_ n1_ n2_ n3_ n4_; (try clear hb); (try clear hb2); (try clear hk); (try clear hi); obtain ⟨Ao67, co67, eo67⟩ := Kd.R_slice HO207.out; subst eo67; obtain ⟨Ao68, co68, eo68⟩ := Kd.R_slice HO217.out; subst eo68; obtain ⟨Ao69, co69, eo69⟩ := Kd.R_slice HO210.out; subst eo69; obtain ⟨Ao70, co70, eo70⟩ := Kd.R_slice HO220.out; subst eo70)))
        go_meet
        case rel => exact ⟨_, (true), (by first | rfl | (simp; done) | (simp [*]; done)), H', ⟨by first | omega | exact Nat.le_refl _⟩, ⟨by (with_reducible repeat (first | apply Kd.R_alloc | apply Kd.R_drewN | apply Kd.R_drew)); exact HO207.out⟩, ⟨by (with_reducible repeat (first | apply Kd.R_alloc | apply Kd.R_drewN | apply Kd.R_drew)); exact Kd.R_mono HO210.out (fun _ hk => hk.2)⟩, ⟨by (with_reducible repeat (first | apply Kd.R_alloc | apply Kd.R_drewN | apply Kd.R_drew)); exact HO217.out⟩, ⟨by (with_reducible repeat (first | apply Kd.R_alloc | apply Kd.R_drewN | apply Kd.R_drew)); exact Kd.R_mono HO220.out (fun _ hk => hk.2)⟩, ⟨by with_reducible repeat first | exact HB.out | apply zA | apply zN | apply zD⟩⟩
      ·
       rw [if_neg c55] at H; have c55b0 := beq_eq_false_iff_ne.mpr c55; have c55b1 := bne_iff_ne.mpr c55
       have c55b2 : (t204.length == t215.length) = false := by first | simpa using c55 | (simp at c55 ⊢; omega)
       have H' := zk H; clear H
       go_wp2_with (first | (go_at_call 10; (with_reducible refine (moves_Check.calls _ _ l0 t221 _ ?side1 ?side2 A52.out).mono ?_); (case side1 => repeat (first | exact (Kd.C_below HR0.out HB.out) | (with_reducible refine Kd.C_alloc ?_ _) | (with_reducible refine Kd.C_drewN ?_ _) | (with_reducible refine Kd.C_drew ?_))); (case side2 => exact HC0.out); rintro e w71 ⟨rfl, hb⟩; have n0_ := zk (Kd.R_below (by (with_reducible repeat (first | apply Kd.R_alloc | apply Kd.R_drewN | apply Kd.R_drew)); exact HO207.out) hb); have n1_ := zk (Kd.R_below (by (with_reducible repeat (first | apply Kd.R_alloc | apply Kd.R_drewN | apply Kd.R_drew)); exact HO210.out) hb); have n2_ := zk (Kd.R_below (by (with_reducible repeat (first | apply Kd.R_alloc | apply Kd.R_drewN | apply Kd.R_drew)); exact HO217.out) hb); have n3_ := zk (Kd.R_below (by (with_reducible repeat (first | apply Kd.R_alloc | apply Kd.R_drewN | apply Kd.R_drew)); exact HO220.out) hb); have n4_ := zk (zs (by with_reducible repeat first | exact HB.out | apply zA | apply zN | apply zD) hb); clear HO207; clear HO210; clear HO217; clear HO220; clear HB; have HO207 := n0_; have HO210 := n1_; have HO217 := n2_; have HO220 := n3_; have HB := n4_; clear n0_ n1_ n2_ n3_ n4_; (try clear hb); (try clear hb2); (try clear hk); (try clear hi); obtain ⟨Ao72, co72, eo72⟩ := Kd.R_slice HO207.out; subst eo72; obtain ⟨Ao73, co73, eo73⟩ := Kd.R_slice HO217.out; subst eo73))
       repeat (go_quiet (first | (go_at_call 10; (with_reducible refine (moves_Check.calls _ _ l0 t221 _ ?side1 ?side2 A52.out).mono ?_); (case side1 => repeat (first | exact (Kd.C_below HR0.out HB.out) | (with_reducible refine Kd.C_alloc ?_ _) | (with_reducible refine Kd.C_drewN ?_ _) | (with_reducible refine Kd.C_drew ?_))); (case side2 => exact HC0.out); rintro e w71 ⟨rfl, hb⟩; have n0_ := zk (Kd.R_below (by (with_reducible repeat (first | apply Kd.R_alloc | apply Kd.R_drewN | apply Kd.R_drew)); exact HO207.out) hb); have n1_ := zk (Kd.R_below (by (with_reducible repeat (first | apply Kd.R_alloc | apply Kd.R_drewN | apply Kd.R_drew)); exact HO210.out) hb); have n2_ := zk (Kd.R_below (by (with_reducible repeat (first | apply Kd.R_alloc | apply Kd.R_drewN | apply Kd.R_drew)); exact HO217.out) hb); have n3_ := zk (Kd.R_below (by (with_reducible repeat (first | apply Kd.R_alloc | apply Kd.R_drewN | apply Kd.R_drew)); exact HO220.out) hb); have n4_ := zk (zs (by with_reducible repeat first | exact HB.out | apply zA | apply zN | apply zD) hb); clear HO207; clear HO210; clear HO217; clear HO220; clear HB; have HO207 := n0_; have HO210 := n1_; have HO217 := n2_; have HO220 := n3_; have HB := n4_; clear n0_ n1_ n2_ n3_ n4_; (try clear hb); (try clear hb2); (try clear hk); (try clear hi); obtain ⟨Ao72, co72, eo72⟩ := Kd.R_slice HO207.out; subst eo72; obtain ⟨Ao73, co73, eo73⟩ := Kd.R_slice HO217.out; subst eo73)); try go_wp2_with (first | (go_at_call 10; (with_reducible refine (moves_Check.calls _ _ l0 t221 _ ?side1 ?side2 A52.out).mono ?_); (case side1 => repeat (first | exact (Kd.C_below HR0.out HB.out) | (with_reducible refine Kd.C_alloc ?_ _) | (with_reducible refine Kd.C_drewN ?_ _) | (with_reducible refine Kd.C_drew ?_))); (case side2 => exact HC0.out); rintro e w71 ⟨rfl, hb⟩; have n0_ := zk (Kd.R_below (by (with_reducible repeat (first | apply Kd.R_alloc | apply Kd.R_drewN | apply Kd.R_drew)); exact HO207.out) hb); have n1_ := zk (Kd.R_below (by (with_reducible repeat (first | apply Kd.R_alloc | apply Kd.R_drewN | apply Kd.R_drew)); exact HO210.out) hb); have n2_ := zk (Kd.R_below (by (with_reducible repeat (first | apply Kd.R_alloc | apply Kd.R_drewN | apply Kd.R_drew)); exact HO217.out) hb); have n3_ := zk (Kd.R_below (by (with_reducible repeat (first | apply Kd.R_alloc | apply Kd.R_drewN | apply Kd.R_drew)); exact HO220.out) hb); have n4_ := zk (zs (by with_reducible repeat first | exact HB.out | apply zA | apply zN | apply zD) hb); clear HO207; clear HO210; clear HO217; clear HO220; clear HB; have HO207 := n0_; have HO210 := n1_; have HO217 := n2_; have HO220 := n3_; have HB := n4_; clear n0_ n1_ n2_ n3_ n4_; (try clear hb); (try clear hb2); (try clear hk); (try clear hi); obtain ⟨Ao72, co72, eo72⟩ := Kd.R_slice HO207.out; subst eo72; obtain ⟨Ao73, co73, eo73⟩ := Kd.R_slice HO217.out; subst eo73)))
       go_meet
       case rel => exact ⟨_, (true), (by first | rfl | (simp; done) | (simp [*]; done)), H', ⟨by first | omega | exact Nat.le_refl _⟩, ⟨by (with_reducible repeat (first | apply Kd.R_alloc | apply Kd.R_drewN | apply Kd.R_drew)); exact HO207.out⟩, ⟨by (with_reducible repeat (first | apply Kd.R_alloc | apply Kd.R_drewN | apply Kd.R_drew)); exact Kd.R_mono HO210.out (fun _ hk => hk.2)⟩, ⟨by (with_reducible repeat (first | apply Kd.R_alloc | apply Kd.R_drewN | apply Kd.R_drew)); exact HO217.out⟩, ⟨by (with_reducible repeat (first | apply Kd.R_alloc | apply Kd.R_drewN | apply Kd.R_drew)); exact Kd.R_mono HO220.out (fun _ hk => hk.2)⟩, ⟨by with_reducible repeat first | exact HB.out | apply zA | apply zN | apply zD⟩⟩
     ·
      rw [if_neg c54] at H; have c54b0 := beq_eq_false_iff_ne.mpr c54; have c54b1 := bne_iff_ne.mpr c54; have H' := zk H; clear H
      go_wp2_with (first | (go_at_call 10; (with_reducible refine (moves_Check.calls _ _ l0 t221 _ ?side1 ?side2 A52.out).mono ?_); (case side1 => repeat (first | exact (Kd.C_below HR0.out HB.out) | (with_reducible refine Kd.C_alloc ?_ _) | (with_reducible refine Kd.C_drewN ?_ _) | (with_reducible refine Kd.C_drew ?_))); (case side2 => exact HC0.out); rintro e w74 ⟨rfl, hb⟩; have n0_ := zk (Kd.R_below (by (with_reducible repeat (first | apply Kd.R_alloc | apply Kd.R_drewN | apply Kd.R_drew)); exact HO207.out) hb); have n1_ := zk (Kd.R_below (by (with_reducible repeat (first | apply Kd.R_alloc | apply Kd.R_drewN | apply Kd.R_drew)); exact HO210.out) hb); have n2_ := zk (Kd.R_below (by (with_reducible repeat (first | apply Kd.R_alloc | apply Kd.R_drewN | apply Kd.R_drew)); exact HO217.out) hb); have n3_ := zk (Kd.R_below (by (with_reducible repeat (first | apply Kd.R_alloc | apply Kd.R_drewN | apply Kd.R_drew)); exact HO220.out) hb); have n4_ := zk (zs (by with_reducible repeat first | exact HB.out | apply zA | apply zN | apply zD) hb); clear HO207; clear HO210; clear HO217; clear HO220; clear HB; have HO207 := n0_; have HO210 := n1_; have HO217 := n2_; have HO220 := n3_; have HB := n4_; clear n0_ n1_ n2_ n3_ n4_; (try clear hb); (try clear hb2); (try clear hk); (try clear hi)))
      repeat (go_quiet (first | (go_at_call 10; (with_reducible refine (moves_Check.calls _ _ l0 t221 _ ?side1 ?side2 A52.out).mono ?_); (case side1 => repeat (first | exact (Kd.C_below HR0.out HB.out) | (with_reducible refine Kd.C_alloc ?_ _) | (with_reducible refine Kd.C_drewN ?_ _) | (with_reducible refine Kd.C_drew ?_))); (case side2 => exact HC0.out); rintro e w74 ⟨rfl, hb⟩; have n0_ := zk (Kd.R_below (by (with_reducible repeat (first | apply Kd.R_alloc | apply Kd.R_drewN | apply Kd.R_drew)); exact HO207.out) hb); have n1_ := zk (Kd.R_below (by (with_reducible repeat (first | apply Kd.R_alloc | apply Kd.R_drewN | apply Kd.R_drew)); exact HO210.out) hb); have n2_ := zk (Kd.R_below (by (with_reducible repeat (first | apply Kd.R_alloc | apply Kd.R_drewN | apply Kd.R_drew)); exact HO217.out) hb); have n3_ := zk (Kd.R_below (by (with_reducible repeat (first | apply Kd.R_alloc | apply Kd.R_drewN | apply Kd.R_drew)); exact HO220.out) hb); have n4_ := zk (zs (by with_reducible repeat first | exact HB.out | apply zA | apply zN | apply zD) hb); clear HO207; clear HO210; clear HO217; clear HO220; clear HB; have HO207 := n0_; have HO210 := n1_; have HO217 := n2_; have HO220 := n3_; have HB := n4_; clear n0_ n1_ n2_ n3_ n4_; (try clear hb); (try clear hb2); (try clear hk); (try clear hi))); try go_wp2_with (first | (go_at_call 10; (with_reducible refine (moves_Check.calls _ _ l0 t221 _ ?side1 ?side2 A52.out).mono ?_); (case side1 => repeat (first | exact (Kd.C_below HR0.out HB.out) | (with_reducible refine Kd.C_alloc ?_ _) | (with_reducible refine Kd.C_drewN ?_ _) | (with_reducible refine Kd.C_drew ?_))); (case side2 => exact HC0.out); rintro e w74 ⟨rfl, hb⟩; have n0_ := zk (Kd.R_below (by (with_reducible repeat (first | apply Kd.R_alloc | apply Kd.R_drewN | apply Kd.R_drew)); exact HO207.out) hb); have n1_ := zk (Kd.R_below (by (with_reducible repeat (first | apply Kd.R_alloc | apply Kd.R_drewN | apply Kd.R_drew)); exact HO210.out) hb); have n2_ := zk (Kd.R_below (by (with_reducible repeat (first | apply Kd.R_alloc | apply Kd.R_drewN | apply Kd.R_drew)); exact HO217.out) hb); have n3_ := zk (Kd.R_below (by (with_reducible repeat (first | apply Kd.R_alloc | apply Kd.R_drewN | apply Kd.R_drew)); exact HO220.out) hb); have n4_ := zk (zs (by with_reducible repeat first | exact HB.out | apply zA | apply zN | apply zD) hb); clear HO207; clear HO210; clear HO217; clear HO220; clear HB; have HO207 := n0_; have HO210 := n1_; have HO217 := n2_; have HO220 := n3_; have HB := n4_; clear n0_ n1_ n2_ n3_ n4_; (try clear hb); (try clear hb2); (try clear hk); (try clear hi))))
      go_meet
      case rel => exact ⟨_, (true), (by first | rfl | (simp; done) | (simp [*]; done)), H', ⟨by first | omega | exact Nat.le_refl _⟩, ⟨by (with_reducible repeat (first | apply Kd.R_alloc | apply Kd.R_drewN | apply Kd.R_drew)); exact HO207.out⟩, ⟨by (with_reducible repeat (first | apply Kd.R_alloc | apply Kd.R_drewN | apply Kd.R_drew)); exact Kd.R_mono HO210.out (fun _ hk => hk.2)⟩, ⟨by (with_reducible repeat (first | apply Kd.R_alloc | apply Kd.R_drewN | apply Kd.R_drew)); exact HO217.out⟩, ⟨by (with_reducible repeat (first | apply Kd.R_alloc | apply Kd.R_drewN | apply Kd.R_drew)); exact Kd.R_mono HO220.out (fun _ hk => hk.2)⟩, ⟨by with_reducible repeat first | exact HB.out | apply zA | apply zN | apply zD⟩⟩
    ·
     rw [if_neg c53] at H; have c53b0 := beq_eq_false_iff_ne.mpr c53; have c53b1 := bne_iff_ne.mpr c53
     (first | rw [c53b0] | (simp only [i64_w, i32_w]; rw [c53b0]) | skip)
     have H' := zk H; clear H
     go_wp2_with (first | (go_at_call 10; (with_reducible refine (moves_Check.calls _ _ l0 t221 _ ?side1 ?side2 A52.out).mono ?_); (case side1 => repeat (first | exact (Kd.C_below HR0.out HB.out) | (with_reducible refine Kd.C_alloc ?_ _) | (with_reducible refine Kd.C_drewN ?_ _) | (with_reducible refine Kd.C_drew ?_))); (case side2 => exact HC0.out); rintro e w75 ⟨rfl, hb⟩; have n0_ := zk (Kd.R_below (by (with_reducible repeat (first | apply Kd.R_alloc | apply Kd.R_drewN | apply Kd.R_drew)); exact HO207.out) hb); have n1_ := zk (Kd.R_below (by (with_reducible repeat (first | apply Kd.R_alloc | apply Kd.R_drewN | apply Kd.R_drew)); exact HO210.out) hb); have n2_ := zk (Kd.R_below (by (with_reducible repeat (first | apply Kd.R_alloc | apply Kd.R_drewN | apply Kd.R_drew)); exact HO217.out) hb); have n3_ := zk (Kd.R_below (by (with_reducible repeat (first | apply Kd.R_alloc | apply Kd.R_drewN | apply Kd.R_drew)); exact HO220.out) hb); have n4_ := zk (zs (by with_reducible repeat first | exact HB.out | apply zA | apply zN | apply zD) hb); clear HO207; clear HO210; clear HO217; clear HO220; clear HB; have HO207 := n0_; have HO210 := n1_; have HO217 := n2_; have HO220 := n3_; have HB := n4_; clear n0_ n1_ n2_ n3_ n4_; (try clear hb); (try clear hb2); (try clear hk); (try clear hi)))
     repeat (go_quiet (first | (go_at_call 10; (with_reducible refine (moves_Check.calls _ _ l0 t221 _ ?side1 ?side2 A52.out).mono ?_); (case side1 => repeat (first | exact (Kd.C_below HR0.out HB.out) | (with_reducible refine Kd.C_alloc ?_ _) | (with_reducible refine Kd.C_drewN ?_ _) | (with_reducible refine Kd.C_drew ?_))); (case side2 => exact HC0.out); rintro e w75 ⟨rfl, hb⟩; have n0_ := zk (Kd.R_below (by (with_reducible repeat (first | apply Kd.R_alloc | apply Kd.R_drewN | apply Kd.R_drew)); exact HO207.out) hb); have n1_ := zk (Kd.R_below (by (with_reducible repeat (first | apply Kd.R_alloc | apply Kd.R_drewN | apply Kd.R_drew)); exact HO210.out) hb); have n2_ := zk (Kd.R_below (by (with_reducible repeat (first | apply Kd.R_alloc | apply Kd.R_drewN | apply Kd.R_drew)); exact HO217.out) hb); have n3_ := zk (Kd.R_below (by (with_reducible repeat (first | apply Kd.R_alloc | apply Kd.R_drewN | apply Kd.R_drew)); exact HO220.out) hb); have n4_ := zk (zs (by with_reducible repeat first | exact HB.out | apply zA | apply zN | apply zD) hb); clear HO207; clear HO210; clear HO217; clear HO220; clear HB; have HO207 := n0_; have HO210 := n1_; have HO217 := n2_; have HO220 := n3_; have HB := n4_; clear n0_ n1_ n2_ n3_ n4_; (try clear hb); (try clear hb2); (try clear hk); (try clear hi))); try go_wp2_with (first | (go_at_call 10; (with_reducible refine (moves_Check.calls _ _ l0 t221 _ ?side1 ?side2 A52.out).mono ?_); (case side1 => repeat (first | exact (Kd.C_below HR0.out HB.out) | (with_reducible refine Kd.C_alloc ?_ _) | (with_reducible refine Kd.C_drewN ?_ _) | (with_reducible refine Kd.C_drew ?_))); (case side2 => exact HC0.out); rintro e w75 ⟨rfl, hb⟩; have n0_ := zk (Kd.R_below (by (with_reducible repeat (first | apply Kd.R_alloc | apply Kd.R_drewN | apply Kd.R_drew)); exact HO207.out) hb); have n1_ := zk (Kd.R_below (by (with_reducible repeat (first | apply Kd.R_alloc | apply Kd.R_drewN | apply Kd.R_drew)); exact HO210.out) hb); have n2_ := zk (Kd.R_below (by (with_reducible repeat (first | apply Kd.R_alloc | apply Kd.R_drewN | apply Kd.R_drew)); exact HO217.out) hb); have n3_ := zk (Kd.R_below (by (with_reducible repeat (first | apply Kd.R_alloc | apply Kd.R_drewN | apply Kd.R_drew)); exact HO220.out) hb); have n4_ := zk (zs (by with_reducible repeat first | exact HB.out | apply zA | apply zN | apply zD) hb); clear HO207; clear HO210; clear HO217; clear HO220; clear HB; have HO207 := n0_; have HO210 := n1_; have HO217 := n2_; have HO220 := n3_; have HB := n4_; clear n0_ n1_ n2_ n3_ n4_; (try clear hb); (try clear hb2); (try clear hk); (try clear hi))))
     go_meet
     case rel => exact ⟨_, (true), (by first | rfl | (simp; done) | (simp [*]; done)), H', ⟨by first | omega | exact Nat.le_refl _⟩, ⟨by (with_reducible repeat (first | apply Kd.R_alloc | apply Kd.R_drewN | apply Kd.R_drew)); exact HO207.out⟩, ⟨by (with_reducible repeat (first | apply Kd.R_alloc | apply Kd.R_drewN | apply Kd.R_drew)); exact Kd.R_mono HO210.out (fun _ hk => hk.2)⟩, ⟨by (with_reducible repeat (first | apply Kd.R_alloc | apply Kd.R_drewN | apply Kd.R_drew)); exact HO217.out⟩, ⟨by (with_reducible repeat (first | apply Kd.R_alloc | apply Kd.R_drewN | apply Kd.R_drew)); exact Kd.R_mono HO220.out (fun _ hk => hk.2)⟩, ⟨by with_reducible repeat first | exact HB.out | apply zA | apply zN | apply zD⟩⟩
   case rest =>
    clear HC47; (try clear c1); (try clear c2); (try clear c2b0); (try clear c2b1); (try clear p2); (try clear c3); (try clear c5); (try clear c8); (try clear c10); (try clear c10b0); (try clear c10b1); (try clear c11); (try clear c11b0); (try clear c11b1); (try clear c12); (try clear c12b0); (try clear c12b1); (try clear c12b2); (try clear c13); (try clear c13b0); (try clear c13b1); (try clear c13b2); (try clear c15); (try clear c15b0); (try clear c15b1); (try clear c53); (try clear c53b0); (try clear c53b1); (try clear c54); (try clear c54b0); (try clear c54b1); (try clear c55); (try clear c55b0); (try clear c55b1); (try clear c55b2); (try clear c56); (try clear c56b0); (try clear c56b1); (try clear c56b2); obtain ⟨kq, x79_46, rfl, HA, HJ46, HO_3, HO_5, HO_6, HO_7, HB⟩ := hcut
    cases kq with
    | zero => exact absurd HA.out (by simp [lw_MovesPlan.j0])
    | succ kj46 =>
     have H := HA.out; clear HA; simp only [lw_MovesPlan.j0] at H
     by_cases c76 : x79_46 = true
     ·
      subst c76
      have H1 : (some false) = some r := by rw [if_pos rfl] at H; exact H
      clear H; have H := H1; clear H1; exact absurd ((Option.some.inj H).trans HR_.out) (by decide)
     ·
      replace c76 := Bool.eq_false_iff.mpr c76; subst c76
      have H1 : (lw_MovesPlan.l0 kj46 t204 t208 t215 t218 (t204.length : Int) 0) = some r := by rw [if_neg (show ¬ (false = true) by decide)] at H; exact H
      clear H; have H := H1; clear H1; have H' := zk H; clear H; obtain ⟨Ao77, co77, eo77⟩ := Kd.R_slice HO_3.out; subst eo77; go_wp2
      repeat (go_quiet (fail); try go_wp2)
      go_loopg [82] kj46 (fun kq v82 w' => ∃ (x82_2 : Int), v82 = .int .i64 x82_2 ∧ Aside0 (lw_MovesPlan.l0 kq t204 t208 t215 t218 (t204.length : Int) x82_2 = some r) ∧ Aside0 (kq ≤ kj46) ∧ Aside0 (Kd.R k36 36 w' w.heap.size (fun _ => True) (.slice Ao77 t204.length co77) t204) ∧ Aside0 (Kd.R Kd.bool 4 w' w.heap.size (fun k_ => some k_ ≠ (v219 : Value).ownBlock) v209 t208) ∧ Aside0 (Kd.R k37 37 w' w.heap.size (fun _ => True) v216 t215) ∧ Aside0 (Kd.R Kd.bool 4 w' w.heap.size (fun k_ => some k_ ≠ (v209 : Value).ownBlock) v219 t218) ∧ Aside0 (Below w.heap.size w w'))
      case atStart => exact ⟨(0), (by first | rfl | (simp; done) | (simp [*]; done)), H', ⟨Nat.le_refl _⟩, ⟨by (with_reducible repeat (first | apply Kd.R_alloc | apply Kd.R_drewN | apply Kd.R_drew)); exact HO_3.out⟩, ⟨by (with_reducible repeat (first | apply Kd.R_alloc | apply Kd.R_drewN | apply Kd.R_drew)); exact HO_5.out⟩, ⟨by (with_reducible repeat (first | apply Kd.R_alloc | apply Kd.R_drewN | apply Kd.R_drew)); exact HO_6.out⟩, ⟨by (with_reducible repeat (first | apply Kd.R_alloc | apply Kd.R_drewN | apply Kd.R_drew)); exact HO_7.out⟩, ⟨by with_reducible repeat first | exact HB.out | apply zA | apply zN | apply zD⟩⟩
      case round =>
       clear H'; (try clear c1); (try clear c2); (try clear c2b0); (try clear c2b1); (try clear p2); (try clear c3); (try clear c5); (try clear c7); (try clear c8); (try clear c10); (try clear c10b0); (try clear c10b1); (try clear c11); (try clear c11b0); (try clear c11b1); (try clear c12); (try clear c12b0); (try clear c12b1); (try clear c12b2); (try clear c13); (try clear c13b0); (try clear c13b1); (try clear c13b2); (try clear c15); (try clear c15b0); (try clear c15b1); (try clear c53); (try clear c53b0); (try clear c53b1); (try clear c54); (try clear c54b0); (try clear c54b1); (try clear c55); (try clear c55b0); (try clear c55b1); (try clear c55b2); (try clear c56); (try clear c56b0); (try clear c56b1); (try clear c56b2); (try clear c76); (try clear p2); obtain ⟨x82_2, rfl, HA, HK2, HO_3, HO_5, HO_6, HO_7, HB⟩ := hrel
       cases gk with
       | zero => exact absurd HA.out (by simp [lw_MovesPlan.l0])
       | succ k2 =>
        have H := HA.out; clear HA; simp only [lw_MovesPlan.l0] at H
        by_cases c78 : x82_2 < (t204.length : Int)
        ·
         rw [if_pos c78] at H; have c78b0 := decide_eq_true c78; clear c78
         by_cases c79 : 0 ≤ x82_2
         ·
          rw [if_pos c79] at H; have c79b0 := decide_eq_true c79; clear c79
          by_cases c80 : x82_2 < (t204.length : Int)
          ·
           rw [if_pos c80] at H; have c80b0 := decide_eq_true c80; clear c80
           by_cases c81 : x82_2 < (t215.length : Int)
           ·
            rw [if_pos c81] at H; have c81b0 := decide_eq_true c81; clear c81
            by_cases c82 : ((rd_T36 t204 x82_2).f0) = ((rd_T37 t215 x82_2).f0)
            ·
             rw [if_pos c82] at H; have c82b0 := beq_iff_eq.mpr c82; have c82b1 := bne_eq_false_iff_eq.mpr c82; clear c82
             by_cases c83 : ((rd_T36 t204 x82_2).f1) = ((rd_T37 t215 x82_2).f1)
             ·
              rw [if_pos c83] at H; have c83b0 := beq_iff_eq.mpr c83; have c83b1 := bne_eq_false_iff_eq.mpr c83; clear c83; have H' := zk H; clear H; have p224 : 0 ≤ (x82_2 : Int) := zo (by assumption); have q224 : x82_2 < (t204.length : Int) := zo (by assumption); obtain ⟨ad224, e224, hx224_0, hx224_1⟩ := at_T36 (Kd.R_reads' HO_3.out).2.2 x82_2 p224 q224; cases e224; replace p224 := eq_true p224; replace q224 := eq_true q224; obtain ⟨Ao84, co84, eo84⟩ := Kd.R_slice HO_6.out; subst eo84; have p225 : 0 ≤ (x82_2 : Int) := zo (by assumption); have q225 : x82_2 < (t215.length : Int) := zo (by assumption); obtain ⟨ad225, e225, hx225_0, hx225_1⟩ := at_T37 (Kd.R_reads' HO_6.out).2.2 x82_2 p225 q225; cases e225; replace p225 := eq_true p225; replace q225 := eq_true q225; have p226 : 0 ≤ (x82_2 : Int) := zo (by assumption); have q226 : x82_2 < (t204.length : Int) := zo (by assumption); obtain ⟨ad226, e226, hx226_0, hx226_1⟩ := at_T36 (Kd.R_reads' HO_3.out).2.2 x82_2 p226 q226; obtain rfl : ad224 = ad226 := (by injection e226); replace p226 := eq_true p226; replace q226 := eq_true q226; have p227 : 0 ≤ (x82_2 : Int) := zo (by assumption); have q227 : x82_2 < (t215.length : Int) := zo (by assumption); obtain ⟨ad227, e227, hx227_0, hx227_1⟩ := at_T37 (Kd.R_reads' HO_6.out).2.2 x82_2 p227 q227; obtain rfl : ad225 = ad227 := (by injection e227); replace p227 := eq_true p227; replace q227 := eq_true q227; go_wp2
              repeat (go_quiet (fail); try go_wp2)
              go_roundg k2
              case measure => have := HJ46.out; have := HK2.out; omega
              case rel => exact ⟨(wrap64 (x82_2 + 1)), (by first | rfl | (simp; done) | (simp [*]; done)), H', ⟨by have := HJ46.out; have := HK2.out; omega⟩, ⟨by (with_reducible repeat (first | apply Kd.R_alloc | apply Kd.R_drewN | apply Kd.R_drew)); exact HO_3.out⟩, ⟨by (with_reducible repeat (first | apply Kd.R_alloc | apply Kd.R_drewN | apply Kd.R_drew)); exact HO_5.out⟩, ⟨by (with_reducible repeat (first | apply Kd.R_alloc | apply Kd.R_drewN | apply Kd.R_drew)); exact HO_6.out⟩, ⟨by (with_reducible repeat (first | apply Kd.R_alloc | apply Kd.R_drewN | apply Kd.R_drew)); exact HO_7.out⟩, ⟨by with_reducible repeat first | exact HB.out | apply zA | apply zN | apply zD⟩⟩
             ·
              rw [if_neg c83] at H; have c83b0 := beq_eq_false_iff_ne.mpr c83; have c83b1 := bne_iff_ne.mpr c83; exact absurd ((Option.some.inj H).trans HR_.out) (by decide)
            ·
             rw [if_neg c82] at H; have c82b0 := beq_eq_false_iff_ne.mpr c82; have c82b1 := bne_iff_ne.mpr c82; exact absurd ((Option.some.inj H).trans HR_.out) (by decide)
           ·
            rw [if_neg c81] at H; exact absurd H (by simp)
          ·
           rw [if_neg c80] at H; exact absurd H (by simp)
         ·
          rw [if_neg c79] at H; exact absurd H (by simp)
        ·
         rw [if_neg c78] at H; have c78b0 := decide_eq_false c78; clear c78; have H' := zk H; clear H; obtain ⟨Ao87, co87, eo87⟩ := Kd.R_slice HO_5.out; subst eo87; go_wp2
         repeat (go_quiet (fail); try go_wp2)
         go_loopg [112] k2 (fun kq v112 w' => ∃ (x112_3 : Int), v112 = .int .i64 x112_3 ∧ Aside0 (lw_MovesPlan.l1 kq t208 t218 (t208.length : Int) x112_3 = some r) ∧ Aside0 (kq ≤ k2) ∧ Aside0 (Kd.R Kd.bool 4 w' w.heap.size (fun k_ => some k_ ≠ (v219 : Value).ownBlock) (.slice Ao87 t208.length co87) t208) ∧ Aside0 (Kd.R Kd.bool 4 w' w.heap.size (fun k_ => some k_ ≠ ((.slice Ao87 t208.length co87) : Value).ownBlock) v219 t218) ∧ Aside0 (Below w.heap.size w w'))
         case atStart => exact ⟨(0), (by first | rfl | (simp; done) | (simp [*]; done)), H', ⟨Nat.le_refl _⟩, ⟨by (with_reducible repeat (first | apply Kd.R_alloc | apply Kd.R_drewN | apply Kd.R_drew)); exact HO_5.out⟩, ⟨by (with_reducible repeat (first | apply Kd.R_alloc | apply Kd.R_drewN | apply Kd.R_drew)); exact HO_7.out⟩, ⟨by with_reducible repeat first | exact HB.out | apply zA | apply zN | apply zD⟩⟩
         case round =>
          clear H'; (try clear c1); (try clear c2); (try clear c2b0); (try clear c2b1); (try clear p2); (try clear q2); (try clear hx2); (try clear c3); (try clear c5); (try clear p6); (try clear c7); (try clear c8); (try clear c10); (try clear c10b0); (try clear c10b1); (try clear c11); (try clear c11b0); (try clear c11b1); (try clear c12); (try clear c12b0); (try clear c12b1); (try clear c12b2); (try clear c13); (try clear c13b0); (try clear c13b1); (try clear c13b2); (try clear c15); (try clear c15b0); (try clear c15b1); (try clear p22); (try clear q22); (try clear hx22); (try clear c53); (try clear c53b0); (try clear c53b1); (try clear c54); (try clear c54b0); (try clear c54b1); (try clear c55); (try clear c55b0); (try clear c55b1); (try clear c55b2); (try clear c56); (try clear c56b0); (try clear c56b1); (try clear c56b2); (try clear p64); (try clear c76); (try clear c78); (try clear c78b0); (try clear c79); (try clear c79b0); (try clear c80); (try clear c80b0); (try clear c81); (try clear c81b0); (try clear c82); (try clear c82b0); (try clear c82b1); (try clear c83); (try clear c83b0); (try clear c83b1); (try clear hx224_0); (try clear hx224_1); (try clear hx225_0); (try clear hx225_1); (try clear hx226_0); (try clear hx226_1); (try clear hx227_0); (try clear hx227_1); (try clear p2); (try clear p224); (try clear p225); (try clear p226); (try clear p227); (try clear q224); (try clear q225); (try clear q226); (try clear q227); obtain ⟨x112_3, rfl, HA, HK3, HO_5, HO_7, HB⟩ := hrel
          cases gk with
          | zero => exact absurd HA.out (by simp [lw_MovesPlan.l1])
          | succ k3 =>
           have H := HA.out; clear HA; simp only [lw_MovesPlan.l1] at H
           by_cases c88 : x112_3 < (t208.length : Int)
           ·
            rw [if_pos c88] at H; have c88b0 := decide_eq_true c88; clear c88
            by_cases c89 : 0 ≤ x112_3
            ·
             rw [if_pos c89] at H; have c89b0 := decide_eq_true c89; clear c89
             by_cases c90 : x112_3 < (t208.length : Int)
             ·
              rw [if_pos c90] at H; have c90b0 := decide_eq_true c90; clear c90
              by_cases c91 : x112_3 < (t218.length : Int)
              ·
               rw [if_pos c91] at H; have c91b0 := decide_eq_true c91; clear c91
               by_cases c92 : ((rdOf false t208 x112_3) != (rdOf false t218 x112_3)) = true
               ·
                rw [if_pos c92] at H; have c92b0 : ((rdOf false t208 x112_3) != (rdOf false t218 x112_3)) = true := c92
                (try (have c92b1 : decide ((rdOf false t208 x112_3) = (rdOf false t218 x112_3)) = false := by simpa using c92))
                (try (have c92b2 : ((rdOf false t208 x112_3) == (rdOf false t218 x112_3)) = false := by simpa using c92))
                (try (have c92b3 : ¬ ((rdOf false t208 x112_3) = (rdOf false t218 x112_3)) := by simpa using c92))
                clear c92; exact absurd ((Option.some.inj H).trans HR_.out) (by decide)
               ·
                rw [if_neg c92] at H
                have c92b0 : ((rdOf false t208 x112_3) != (rdOf false t218 x112_3)) = false := by simpa using c92
                (try (have c92b1 : decide ((rdOf false t208 x112_3) = (rdOf false t218 x112_3)) = true := by simpa using c92))
                (try (have c92b2 : ((rdOf false t208 x112_3) == (rdOf false t218 x112_3)) = true := by simpa using c92))
                clear c92; have H' := zk H; clear H; have p228 : 0 ≤ (x112_3 : Int) := zo (by assumption); have q228 : x112_3 < (t208.length : Int) := zo (by assumption); obtain ⟨ad228, e228, hx228_0⟩ := Kd.at_bool (Kd.R_reads' HO_5.out).2.2 x112_3 p228 q228; cases e228; replace p228 := eq_true p228; replace q228 := eq_true q228; obtain ⟨Ao94, co94, eo94⟩ := Kd.R_slice HO_7.out; subst eo94; have p229 : 0 ≤ (x112_3 : Int) := zo (by assumption); have q229 : x112_3 < (t218.length : Int) := zo (by assumption); obtain ⟨ad229, e229, hx229_0⟩ := Kd.at_bool (Kd.R_reads' HO_7.out).2.2 x112_3 p229 q229; cases e229; replace p229 := eq_true p229; replace q229 := eq_true q229; go_wp2
                repeat (go_quiet (fail); try go_wp2)
                go_roundg k3
                case measure => have := HJ46.out; have := HK2.out; have := HK3.out; omega
                case rel => exact ⟨(wrap64 (x112_3 + 1)), (by first | rfl | (simp; done) | (simp [*]; done)), H', ⟨by have := HJ46.out; have := HK2.out; have := HK3.out; omega⟩, ⟨by (with_reducible repeat (first | apply Kd.R_alloc | apply Kd.R_drewN | apply Kd.R_drew)); exact HO_5.out⟩, ⟨by (with_reducible repeat (first | apply Kd.R_alloc | apply Kd.R_drewN | apply Kd.R_drew)); exact HO_7.out⟩, ⟨by with_reducible repeat first | exact HB.out | apply zA | apply zN | apply zD⟩⟩
              ·
               rw [if_neg c91] at H; exact absurd H (by simp)
             ·
              rw [if_neg c90] at H; exact absurd H (by simp)
            ·
             rw [if_neg c89] at H; exact absurd H (by simp)
           ·
            rw [if_neg c88] at H; have c88b0 := decide_eq_false c88; clear c88; replace H := Option.bind_eq_some_iff.mp H; obtain ⟨t230, A950, H⟩ := H; replace H : (some t230) = some r := H; have A95 := zk A950; clear A950; obtain rfl := Option.some.inj H
            go_wp2_with (first | (go_at_call 6; (with_reducible refine (lw_same.calls k3  t230 _ A95.out).mono ?_); rintro e w96 ⟨rfl, hb⟩; have n0_ := zk (Kd.R_below (by (with_reducible repeat (first | apply Kd.R_alloc | apply Kd.R_drewN | apply Kd.R_drew)); exact HO_5.out) hb); have n1_ := zk (Kd.R_below (by (with_reducible repeat (first | apply Kd.R_alloc | apply Kd.R_drewN | apply Kd.R_drew)); exact HO_7.out) hb); have n2_ := zk (zs (by with_reducible repeat first | exact HB.out | apply zA | apply zN | apply zD) hb); clear HO_5; clear HO_7; clear HB; have HO_5 := n0_; have HO_7 := n1_; have HB := n2_; clear n0_ n1_ n2_; (try clear hb); (try clear hb2); (try clear hk); (try clear hi)))
            repeat (go_quiet (first | (go_at_call 6; (with_reducible refine (lw_same.calls k3  t230 _ A95.out).mono ?_); rintro e w96 ⟨rfl, hb⟩; have n0_ := zk (Kd.R_below (by (with_reducible repeat (first | apply Kd.R_alloc | apply Kd.R_drewN | apply Kd.R_drew)); exact HO_5.out) hb); have n1_ := zk (Kd.R_below (by (with_reducible repeat (first | apply Kd.R_alloc | apply Kd.R_drewN | apply Kd.R_drew)); exact HO_7.out) hb); have n2_ := zk (zs (by with_reducible repeat first | exact HB.out | apply zA | apply zN | apply zD) hb); clear HO_5; clear HO_7; clear HB; have HO_5 := n0_; have HO_7 := n1_; have HB := n2_; clear n0_ n1_ n2_; (try clear hb); (try clear hb2); (try clear hk); (try clear hi))); try go_wp2_with (first | (go_at_call 6; (with_reducible refine (lw_same.calls k3  t230 _ A95.out).mono ?_); rintro e w96 ⟨rfl, hb⟩; have n0_ := zk (Kd.R_below (by (with_reducible repeat (first | apply Kd.R_alloc | apply Kd.R_drewN | apply Kd.R_drew)); exact HO_5.out) hb); have n1_ := zk (Kd.R_below (by (with_reducible repeat (first | apply Kd.R_alloc | apply Kd.R_drewN | apply Kd.R_drew)); exact HO_7.out) hb); have n2_ := zk (zs (by with_reducible repeat first | exact HB.out | apply zA | apply zN | apply zD) hb); clear HO_5; clear HO_7; clear HB; have HO_5 := n0_; have HO_7 := n1_; have HB := n2_; clear n0_ n1_ n2_; (try clear hb); (try clear hb2); (try clear hk); (try clear hi))))
            go_ret; exact ⟨by first | rfl | (simp [wN, wS] <;> rfl) | (simp [*, wN, wS] <;> rfl), by with_reducible repeat first | exact HB.out | apply zA | apply zN | apply zD⟩
/-- THE ONE PURE STATEMENT of lw_MovesPlan: yours. -/
def lw_MovesPlan.Pure : Prop := ∀ (l0 : List Int), l0.length ≤ maxLen → l0.length * 8 ≤ 140737488351232 → (∀ x ∈ l0, (Lit.int .i64 x).wf = true) → ∃ k, lw_MovesPlan.f k l0 = some true
end Go.Proofs.Ytconhodokldcbaa.G
namespace Go.Proofs.Ytconhodokldcbaa.G
open Go.RowKit Go.Proofs.YtconhodokldcbaaW.PrintWords
/-- A pile: places rise, members don't. -/
def Down (l : List Int) (p : List Int) : Prop := p.Pairwise fun x y => x < y ∧ rd l y ≤ rd l x
theorem Down.last {l p : List Int} (h : Down l p) (hp : 0 < p.length) (x : Int) (hx : x ∈ p) : x ≤ rd p (p.length - 1) ∧ rd l (rd p (p.length - 1)) ≤ rd l x := by
  obtain ⟨j, hj, rfl⟩ := List.getElem_of_mem hx
  have e : rd p (p.length - 1) = p[p.length - 1] := by
    unfold rd; rw [List.getD_eq_getElem?_getD, List.getElem?_eq_getElem (by omega)]; simp only [Option.getD_some]
    congr 1
    omega
  rw [e]
  by_cases hjl : j = p.length - 1
  (subst hjl; exact ⟨Int.le_refl _, Int.le_refl _⟩); (have := List.pairwise_iff_getElem.1 h j (p.length - 1) hj (by omega) (by omega); exact ⟨by omega, this.2⟩)
theorem topAt_eq {ps : List (List Int)} {k : Nat} (hk : k < ps.length) : topAt ps k = rd (ps.getD k []) ((ps.getD k []).length - 1) := by
  unfold topAt topOf rd_L1; rw [if_neg (by omega), if_neg (by omega)]; rfl
structure Pat (l : List Int) (i : Nat) (ps : List (List Int)) (ah : List Int) : Prop where
  inv : PInv l i ps ah
  down : ∀ k, Down l (ps.getD k [])
  pos : ∀ k x, x ∈ ps.getD k [] → 0 ≤ rd l x
  tops : ∀ j k : Nat, j < k → k < ps.length → rd l (topAt ps j) < rd l (topAt ps k)
  all : ∀ x : Int, 0 ≤ x → x < i → 0 ≤ rd l x → ∃ k, x ∈ ps.getD k []
  cross : ∀ j k x y, x ∈ ps.getD j [] → y ∈ ps.getD k [] → x < y → rd l x < rd l y → j < k
  back0 : ∀ x, x ∈ ps.getD 0 [] → rd ah x = -1
  back : ∀ k x, x ∈ ps.getD (k + 1) [] → rd ah x ∈ ps.getD k [] ∧ rd ah x < x ∧ rd l (rd ah x) < rd l x ∧ ∀ y, y ∈ ps.getD k [] → y < x → y ≤ rd ah x
  one : ∀ j k x, x ∈ ps.getD j [] → x ∈ ps.getD k [] → j = k
theorem mem_lt {ps : List (List Int)} {k : Nat} {x : Int} (h : x ∈ ps.getD k []) : k < ps.length := by
  rcases Nat.lt_or_ge k ps.length with hk | hk
  (exact hk); (rw [List.getD_eq_getElem?_getD, List.getElem?_eq_none hk] at h; simp at h)
theorem Pat.nonempty {l : List Int} {i : Nat} {ps : List (List Int)} {ah : List Int} (h : Pat l i ps ah) {k : Nat} (hk : k < ps.length) : 0 < (ps.getD k []).length := by
  have hm : ps.getD k [] ∈ ps := by rw [List.getD_eq_getElem?_getD, List.getElem?_eq_getElem hk]; exact List.getElem_mem _
  exact (h.inv.pile _ hm).1
theorem Pat.range {l : List Int} {i : Nat} {ps : List (List Int)} {ah : List Int} (h : Pat l i ps ah) {k : Nat} {x : Int} (hx : x ∈ ps.getD k []) : 0 ≤ x ∧ x < i := by
  have hk := mem_lt hx
  have hm : ps.getD k [] ∈ ps := by rw [List.getD_eq_getElem?_getD, List.getElem?_eq_getElem hk]; exact List.getElem_mem _
  exact (h.inv.pile _ hm).2.2 x hx
theorem Pat.top {l : List Int} {i : Nat} {ps : List (List Int)} {ah : List Int} (h : Pat l i ps ah) {k : Nat} {x : Int} (hx : x ∈ ps.getD k []) : x ≤ topAt ps k ∧ rd l (topAt ps k) ≤ rd l x := by
  rw [topAt_eq (mem_lt hx)]; exact (h.down k).last (h.nonempty (mem_lt hx)) x hx
/-- The halving finds the first pile whose top is not less. -/
theorem findL_first (l : List Int) (ps : List (List Int)) (n : Int) (ht : ∀ j k : Nat, j < k → k < ps.length → rd l (topAt ps j) < rd l (topAt ps k)) :
    ∀ (f : Nat) (lo hi : Nat), lo ≤ hi → hi ≤ ps.length → hi - lo ≤ f → (∀ j, j < lo → rd l (topAt ps j) < n) → (∀ j, hi ≤ j → j < ps.length → n ≤ rd l (topAt ps j)) →
      ∃ k : Nat, findL f l ps n lo hi = k ∧ k ≤ ps.length ∧ (∀ j, j < k → rd l (topAt ps j) < n) ∧ (∀ j, k ≤ j → j < ps.length → n ≤ rd l (topAt ps j)) := by
  intro f
  induction f with
  | zero =>
    intro lo hi h1 h2 h3 h4 h5
    obtain rfl : lo = hi := by omega
    exact ⟨lo, rfl, h2, h4, h5⟩
  | succ f ih =>
    intro lo hi h1 h2 h3 h4 h5; rw [findL]
    by_cases hlt : (lo : Int) < hi
    · rw [if_pos hlt]
      have em : ((lo : Int) + hi) / 2 = (((lo + hi) / 2 : Nat) : Int) := by omega
      rw [em]
      have et : topOf ps (((lo + hi) / 2 : Nat) : Int) = topAt ps (((lo + hi) / 2 : Nat) : Int) := by
        unfold topAt; rw [if_neg (by omega), if_neg (by omega)]
      rw [et]
      split
      · rename_i hge
        refine ih lo ((lo + hi) / 2) (by omega) (by omega) (by omega) h4 (fun j hj hjl => ?_)
        rcases Nat.lt_or_ge ((lo + hi) / 2) j with h | h
        · have := ht _ _ h hjl; omega
        · obtain rfl : j = (lo + hi) / 2 := by omega
          exact hge
      · rename_i hge
        have e1 : (((lo + hi) / 2 : Nat) : Int) + 1 = (((lo + hi) / 2 + 1 : Nat) : Int) := by omega
        rw [e1]
        refine ih ((lo + hi) / 2 + 1) hi (by omega) h2 (by omega) (fun j hj => ?_) h5
        rcases Nat.lt_or_ge j ((lo + hi) / 2) with h | h
        · have := ht _ _ h (show (lo + hi) / 2 < ps.length by omega); omega
        · obtain rfl : j = (lo + hi) / 2 := by omega
          omega
    · rw [if_neg hlt]
      obtain rfl : lo = hi := by omega
      exact ⟨lo, rfl, h2, h4, h5⟩
theorem Pat.step {l : List Int} {i : Nat} {st : List (List Int) × List Int} (h : Pat l i st.1 st.2) (hi : i < l.length) : Pat l (i + 1) (playStep l st i).1 (playStep l st i).2 := by
  have hinv := h.inv.step hi
  by_cases hneg : rd l i < 0
  · have e : playStep l st i = st := by unfold playStep; rw [if_pos hneg]
    rw [e] at hinv ⊢
    refine { h with inv := hinv, all := fun x h0 h1 h2 => ?_ }
    by_cases hx : x = i
    · subst hx; omega
    · exact h.all x h0 (by omega) h2
  · obtain ⟨k, hk, hkl, hbelow, habove⟩ := findL_first l st.1 (rd l i) h.tops st.1.length 0 st.1.length (by omega) (by omega) (by omega) (fun j hj => by omega) (fun j hj hj2 => by omega)
    have e : playStep l st i = ((if (k : Int) = st.1.length then st.1 ++ [[]] else st.1).set k ((if (k : Int) = st.1.length then st.1 ++ [[]] else st.1).getD k [] ++ [(i : Int)]), st.2.set i (topAt st.1 (k - 1))) := by
      unfold playStep; rw [if_neg hneg]; simp only [show ((0 : Nat) : Int) = 0 from rfl] at hk; rw [hk]; rfl
    rw [e] at hinv ⊢
    have hg := getD_stepped st.1 k hkl (i : Int)
    generalize hps : (if (k : Int) = st.1.length then st.1 ++ [[]] else st.1).set k ((if (k : Int) = st.1.length then st.1 ++ [[]] else st.1).getD k [] ++ [(i : Int)]) = ps2 at hg hinv ⊢
    have hlen : ps2.length = if k = st.1.length then st.1.length + 1 else st.1.length := by
      rw [← hps, List.length_set]
      by_cases hc : k = st.1.length
      (rw [if_pos (by omega), if_pos hc]; simp); (rw [if_neg (by omega), if_neg hc])
    clear hps
    have hmem : ∀ j x, x ∈ ps2.getD j [] ↔ x ∈ st.1.getD j [] ∨ (j = k ∧ x = i) := by
      intro j x; rw [hg]; split
      · rename_i hj; subst hj; simp
      · rename_i hj; simp [hj]
    have hold : ∀ j x, x ∈ st.1.getD j [] → 0 ≤ x ∧ x < i := fun j x hx => h.range hx
    have hah : ∀ j x, x ∈ st.1.getD j [] → rd (st.2.set i (topAt st.1 (k - 1))) x = rd st.2 x := fun j x hx => by
      have := hold j x hx; rw [rd_set this.1, if_neg (by omega)]
    have hai : rd (st.2.set i (topAt st.1 ((k : Int) - 1))) i = topAt st.1 (k - 1) := by
      rw [rd_set (by omega), if_pos rfl, if_pos (by rw [h.inv.ahl]; exact hi)]
    have htop : ∀ j : Nat, j < ps2.length → topAt ps2 j = if j = k then (i : Int) else topAt st.1 j := by
      intro j hj; rw [topAt_eq hj, hg]
      by_cases hjk : j = k
      (subst hjk; rw [if_pos rfl, if_pos rfl]; unfold rd; rw [List.getD_eq_getElem?_getD, List.getElem?_append_right (by simp)]; simp); (rw [if_neg hjk, if_neg hjk, ← topAt_eq]; split at hlen <;> omega)
    show Pat l (i + 1) ps2 (st.2.set i (topAt st.1 (k - 1)))
    refine { inv := hinv, down := fun j => ?_, pos := fun j x hx => ?_, tops := fun a b hab hb => ?_, all := fun x h0 h1 h2 => ?_, cross := fun a b x y hx hy hxy hv => ?_, back0 := fun x hx => ?_, back := fun a x hx => ?_, one := fun a b x hx hy => ?_ }
    · rw [hg]
      split
      · rename_i hj
        subst hj
        refine List.pairwise_append.2 ⟨h.down j, by simp, fun x hx y hy => ?_⟩
        obtain rfl : y = i := by simpa using hy
        have h1 := h.range hx
        have h2 := h.top hx
        have h3 := habove j (Nat.le_refl _) (mem_lt hx)
        exact ⟨h1.2, by omega⟩
      · exact h.down j
    · rcases (hmem j x).1 hx with hx | ⟨_, rfl⟩
      · exact h.pos j x hx
      · omega
    · rw [htop a (by omega), htop b hb]
      have hbl : b ≠ k → b < st.1.length := fun hbk => by split at hlen <;> omega
      by_cases hbk : b = k
      · rw [if_pos hbk, if_neg (by omega)]
        exact hbelow a (by omega)
      · rw [if_neg hbk]
        by_cases hak : a = k
        · rw [if_pos hak]
          have h1 := habove k (Nat.le_refl _) (by have := hbl hbk; omega)
          have h2 := h.tops k b (by omega) (hbl hbk)
          omega
        · rw [if_neg hak]
          exact h.tops a b hab (hbl hbk)
    · by_cases hx : x = i
      · exact ⟨k, (hmem k x).2 (.inr ⟨rfl, hx⟩)⟩
      · obtain ⟨j, hj⟩ := h.all x h0 (by omega) h2
        exact ⟨j, (hmem j x).2 (.inl hj)⟩
    · rcases (hmem b y).1 hy with hy | ⟨rfl, rfl⟩
      · rcases (hmem a x).1 hx with hx | ⟨_, rfl⟩
        · exact h.cross a b x y hx hy hxy hv
        · have := hold b y hy; omega
      · rcases (hmem a x).1 hx with hx | ⟨_, rfl⟩
        · rcases Nat.lt_or_ge a b with hab | hab
          · exact hab
          · have h1 := habove a hab (mem_lt hx)
            have h2 := h.top hx
            omega
        · omega
    · rcases (hmem 0 x).1 hx with hx | ⟨hk0, rfl⟩
      · rw [hah 0 x hx]; exact h.back0 x hx
      · rw [hai, ← hk0]; rfl
    · rcases (hmem (a + 1) x).1 hx with hx | ⟨hk0, rfl⟩
      · rw [hah _ x hx]
        obtain ⟨b1, b2, b3, b4⟩ := h.back a x hx
        refine ⟨(hmem a _).2 (.inl b1), b2, b3, fun y hy hyx => ?_⟩
        rcases (hmem a y).1 hy with hy | ⟨_, rfl⟩
        · exact b4 y hy hyx
        · have := hold _ x hx; omega
      · rw [hai, ← hk0]
        have e1 : ((a + 1 : Nat) : Int) - 1 = (a : Int) := by omega
        rw [e1]
        have hal : a < st.1.length := by omega
        have hin : topAt st.1 a ∈ st.1.getD a [] := by rw [topAt_eq hal]; exact rd_last_mem _ (h.nonempty hal)
        refine ⟨(hmem a _).2 (.inl hin), (hold a _ hin).2, hbelow a (by omega), fun y hy hyx => ?_⟩
        rcases (hmem a y).1 hy with hy | ⟨h1, _⟩
        · exact (h.top hy).1
        · omega
    · rcases (hmem a x).1 hx with hx | ⟨h1, rfl⟩
      · rcases (hmem b x).1 hy with hy | ⟨_, rfl⟩
        · exact h.one a b x hx hy
        · have := hold a _ hx; omega
      · rcases (hmem b _).1 hy with hy | ⟨h2, _⟩
        · have := hold b _ hy; omega
        · omega
theorem playN_pat (l : List Int) : ∀ i, i ≤ l.length → Pat l i (playN l i).1 (playN l i).2
  | 0, _ => { inv := playN_inv l 0 (by omega), down := fun k => by simp [playN, Down], pos := fun k x hx => by simp [playN] at hx, tops := fun j k _ hk => by simp [playN] at hk,
              all := fun x h0 h1 => by omega, cross := fun j k x y hx => by simp [playN] at hx, back0 := fun x hx => by simp [playN] at hx, back := fun k x hx => by simp [playN] at hx, one := fun j k x hx => by simp [playN] at hx }
  | i + 1, h => (playN_pat l i (by omega)).step (by omega)
theorem endsIn_len (k : Int) : ∀ (p out : List Int), (endsIn k out p).length = out.length
  | [], out => rfl
  | x :: p, out => by rw [endsIn, endsIn_len k p, List.length_set]
theorem endsIn_rd (k : Int) : ∀ (p out : List Int) (x : Int), 0 ≤ x → (∀ y ∈ p, 0 ≤ y ∧ y < out.length) → rd (endsIn k out p) x = if x ∈ p then k + 1 else rd out x
  | [], out, x, h0, h => by simp [endsIn]
  | y :: p, out, x, h0, h => by
    obtain ⟨a, b⟩ := h y (by simp)
    rw [endsIn, endsIn_rd k p _ x h0 (fun z hz => by rw [List.length_set]; exact h z (by simp [hz])), rd_set h0]
    by_cases hx : x ∈ p
    · rw [if_pos hx, if_pos (by simp [hx])]
    · rw [if_neg hx]
      by_cases hxy : x = y
      · subst hxy
        rw [if_pos (by omega), if_pos (by omega), if_pos (by simp)]
      · rw [if_neg (by omega), if_neg (by simp [hx, hxy])]
theorem endsFrom_len : ∀ (ps : List (List Int)) (k : Nat) (out : List Int), (endsFrom k out ps).length = out.length
  | [], _, _ => rfl
  | p :: ps, k, out => by rw [endsFrom, endsFrom_len ps, endsIn_len]
theorem endsFrom_not : ∀ (ps : List (List Int)) (k : Nat) (out : List Int) (x : Int), 0 ≤ x → (∀ p ∈ ps, ∀ y ∈ p, 0 ≤ y ∧ y < out.length) → (∀ j, x ∉ ps.getD j []) → rd (endsFrom k out ps) x = rd out x
  | [], k, out, x, h0, h, hn => rfl
  | p :: ps, k, out, x, h0, h, hn => by
    rw [endsFrom, endsFrom_not ps (k + 1) _ x h0 (fun q hq y hy => by rw [endsIn_len]; exact h q (by simp [hq]) y hy) (fun j => by have := hn (j + 1); simpa using this),
      endsIn_rd _ _ _ _ h0 (fun y hy => h p (by simp) y hy), if_neg (by have := hn 0; simpa using this)]
theorem endsFrom_mem : ∀ (ps : List (List Int)) (k : Nat) (out : List Int) (x : Int) (j : Nat), 0 ≤ x → (∀ p ∈ ps, ∀ y ∈ p, 0 ≤ y ∧ y < out.length) → (∀ i j x, x ∈ ps.getD i [] → x ∈ ps.getD j [] → i = j) → x ∈ ps.getD j [] →
    rd (endsFrom k out ps) x = (k : Int) + j + 1
  | [], k, out, x, j, h0, h, h1, hx => by simp at hx
  | p :: ps, k, out, x, j, h0, h, h1, hx => by
    rw [endsFrom]
    cases j with
    | zero =>
      have hx0 : x ∈ p := by simpa using hx
      rw [endsFrom_not ps (k + 1) _ x h0 (fun q hq y hy => by rw [endsIn_len]; exact h q (by simp [hq]) y hy) (fun i hi => by have := h1 0 (i + 1) x (by simpa using hx0) (by simpa using hi); omega),
        endsIn_rd _ _ _ _ h0 (fun y hy => h p (by simp) y hy), if_pos hx0]
      simp
    | succ j =>
      rw [endsFrom_mem ps (k + 1) _ x j h0 (fun q hq y hy => by rw [endsIn_len]; exact h q (by simp [hq]) y hy) (fun a b y ha hb => by have := h1 (a + 1) (b + 1) y (by simpa using ha) (by simpa using hb); omega) (by simpa using hx)]
      omega
theorem pat (l : List Int) : Pat l l.length (pilesOf l) (playN l l.length).2 := playN_pat l l.length (Nat.le_refl _)
theorem ends_len (l : List Int) : (endsOf l).length = l.length := by unfold endsOf; rw [endsFrom_len]; simp
theorem piles_in (l : List Int) : ∀ p ∈ pilesOf l, ∀ y ∈ p, 0 ≤ y ∧ y < ((List.replicate l.length (0 : Int)).length : Int) := fun p hp y hy => by
  have := ((pat l).inv.pile p hp).2.2 y hy
  rw [List.length_replicate]
  exact this
theorem ends_mem {l : List Int} {k : Nat} {x : Int} (hx : x ∈ (pilesOf l).getD k []) : rd (endsOf l) x = (k : Int) + 1 := by
  unfold endsOf; rw [endsFrom_mem _ 0 _ x k ((pat l).range hx).1 (piles_in l) (pat l).one hx]; simp
theorem ends_neg {l : List Int} {x : Int} (h0 : 0 ≤ x) (hx : rd l x < 0) : rd (endsOf l) x = 0 := by
  unfold endsOf; rw [endsFrom_not _ 0 _ x h0 (piles_in l) (fun j hj => by have := (pat l).pos j x hj; omega)]; unfold rd; rw [List.getD_eq_getElem?_getD, List.getElem?_replicate]; split <;> rfl
/-- The chain goes from pile to pile. -/
theorem chain_mem {l : List Int} {i : Nat} {ps : List (List Int)} {ah : List Int} (h : Pat l i ps ah) : ∀ (n : Nat) (x : Int), (∀ m, n = m + 1 → x ∈ ps.getD m []) →
    ∀ j : Nat, j < n → rd (chainOf ah n x) j ∈ ps.getD j [] ∧ (j + 1 = n → rd (chainOf ah n x) j = x) ∧ (j + 1 < n → rd (chainOf ah n x) j = rd ah (rd (chainOf ah n x) ((j : Int) + 1)))
  | 0, _, _, _, hj => by omega
  | n + 1, x, hx, j, hj => by
    have hx0 := hx n rfl
    have ih := chain_mem h n (rd ah x) (fun m hm => by subst hm; exact (h.back m x hx0).1)
    have hl := chainOf_length ah n (rd ah x)
    obtain ⟨y, hy⟩ : ∃ y, rd ah x = y := ⟨_, rfl⟩
    rw [chainOf, hy]
    rw [hy] at ih hl
    have low : ∀ i : Nat, i < n → rd (chainOf ah n y ++ [x]) i = rd (chainOf ah n y) i := fun i hi => by
      unfold rd
      rw [List.getD_eq_getElem?_getD, List.getD_eq_getElem?_getD, List.getElem?_append_left (by omega)]
    have top : rd (chainOf ah n y ++ [x]) (n : Int) = x := by
      unfold rd
      rw [List.getD_eq_getElem?_getD, List.getElem?_append_right (by omega)]
      simp [hl]
    by_cases hjn : j = n
    · subst hjn
      rw [top]
      exact ⟨hx0, fun _ => rfl, fun h => by omega⟩
    · rw [low j (by omega)]
      obtain ⟨a, b, c⟩ := ih j (by omega)
      refine ⟨a, fun h => by omega, fun _ => ?_⟩
      by_cases hj1 : j + 1 = n
      · rw [show (j : Int) + 1 = (n : Int) by omega, top]
        rw [hy]; exact b hj1
      · rw [show (j : Int) + 1 = ((j + 1 : Nat) : Int) by omega, low (j + 1) (by omega)]
        have := c (by omega)
        rwa [show (j : Int) + 1 = ((j + 1 : Nat) : Int) by omega] at this
theorem longest_len (l : List Int) : (longestOf l).length = (pilesOf l).length := chainOf_length _ _ _
theorem longest_at (l : List Int) (j : Nat) (hj : j < (pilesOf l).length) : rd (longestOf l) j ∈ (pilesOf l).getD j [] ∧ (j + 1 = (pilesOf l).length → rd (longestOf l) j = topAt (pilesOf l) j) ∧
    (j + 1 < (pilesOf l).length → rd (longestOf l) j = rd (playN l l.length).2 (rd (longestOf l) ((j : Int) + 1))) := by
  obtain ⟨a, b, c⟩ := chain_mem (pat l) (pilesOf l).length (topAt (pilesOf l) ((pilesOf l).length - 1)) (fun m hm => by
    rw [hm, show ((m + 1 : Nat) : Int) - 1 = (m : Int) by omega, topAt_eq (by omega)]
    exact rd_last_mem _ ((pat l).nonempty (by omega))) j hj
  exact ⟨a, fun h => (b h).trans (by rw [show ((pilesOf l).length : Int) - 1 = (j : Int) by omega]), c⟩
end Go.Proofs.Ytconhodokldcbaa.G
namespace Go.Proofs.Ytconhodokldcbaa.Pure
open Go.RowKit Go.Proofs.Ytconhodokldcbaa.G Go.Proofs.YtconhodokldcbaaW.PrintWords Go.Proofs.YtconhodokldcbaaW.PrintLast
set_option linter.unusedVariables false
def Ev {α : Type} (f : Nat → Option α) (r : α) : Prop := ∃ k0, ∀ k, k0 ≤ k → f k = some r
theorem Ev.all {α : Type} {f : Nat → Option α} {r : α} (h : ∀ k, f k = some r) : Ev f r := ⟨0, fun k _ => h k⟩
theorem Ev.pure {α : Type} (r : α) : Ev (fun _ => some r) r := .all fun _ => rfl
theorem Ev.of {α : Type} {f : Nat → Option α} {r : α} (m : ∀ k, LeO (f k) (f (k + 1))) {k : Nat} (h : f k = some r) : Ev f r :=
  ⟨k, fun j hj => by
    obtain ⟨d, rfl⟩ : ∃ d, j = k + d := ⟨j - k, by omega⟩
    clear hj
    induction d with
    | zero => exact h
    | succ d ih => exact m _ _ ih⟩
theorem Ev.step {α : Type} {f g : Nat → Option α} {r : α} (hg : Ev g r) (h : ∀ k, f (k + 1) = g k) : Ev f r := by
  obtain ⟨k0, hk⟩ := hg; exact ⟨k0 + 1, fun k hk' => by obtain ⟨m, rfl⟩ : ∃ m, k = m + 1 := ⟨k - 1, by omega⟩; rw [h]; exact hk m (by omega)⟩
theorem Ev.eq {α : Type} {f g : Nat → Option α} {r : α} (hg : Ev g r) (h : ∀ k, f k = g k) : Ev f r := by
  obtain ⟨k0, hk⟩ := hg; exact ⟨k0, fun k hk' => by rw [h]; exact hk k hk'⟩
theorem Ev.bind {α β : Type} {f : Nat → Option α} {g : Nat → α → Option β} {a : α} {r : β} (hf : Ev f a) (hg : Ev (fun k => g k a) r) : Ev (fun k => (f k).bind (g k)) r := by
  obtain ⟨k0, h0⟩ := hf; obtain ⟨k1, h1⟩ := hg; exact ⟨max k0 k1, fun k hk => by show (f k).bind (g k) = some r; rw [h0 k (by omega)]; exact h1 k (by omega)⟩
theorem Ev.ex {α : Type} {f : Nat → Option α} {r : α} (h : Ev f r) : ∃ k, f k = some r := by
  obtain ⟨k0, hk⟩ := h; exact ⟨k0, hk k0 (Nat.le_refl _)⟩
theorem w1 {i : Int} (h0 : -1000000000000000000 ≤ i) (h : i ≤ 1000000000000000000) : wrap64 (i + 1) = i + 1 := by unfold wrap64; omega
theorem wm {i : Int} (h0 : -1000000000000000000 ≤ i) (h : i ≤ 1000000000000000000) : wrap64 (i - 1) = i - 1 := by unfold wrap64; omega
theorem same_ev : Ev (fun k => lw_same.f k) true := Ev.of (fun k => lw_same.mono k) (k := 40) (by decide +kernel)
def StepOk (l at_ : List Int) (j : Int) : Prop :=
  0 ≤ rd at_ j ∧ rd at_ j < l.length ∧ 0 ≤ rd l (rd at_ j) ∧ (0 < j → rd at_ (j - 1) < rd at_ j ∧ rd l (rd at_ (j - 1)) < rd l (rd at_ j))
/-- An increasing choice. -/
def Choice (l at_ : List Int) : Prop := ∀ j : Int, 0 ≤ j → j < at_.length → StepOk l at_ j
theorem longest_choice (l : List Int) : Choice l (longestOf l) := by
  intro j h0 hj; obtain ⟨n, rfl⟩ := Int.eq_ofNat_of_zero_le h0; rw [longest_len] at hj; obtain ⟨a1, a2, a3⟩ := longest_at l n (by omega); have hr := (pat l).range a1; refine ⟨hr.1, by omega, (pat l).pos _ _ a1, fun hp => ?_⟩; obtain ⟨n, rfl⟩ : ∃ m, n = m + 1 := ⟨n - 1, by omega⟩; obtain ⟨b1, b2, b3⟩ := longest_at l n (by omega); have e := b3 (by omega); rw [show (n : Int) + 1 = ((n + 1 : Nat) : Int) by omega] at e; obtain ⟨c1, c2, c3, c4⟩ := (pat l).back n _ a1; rw [show ((n + 1 : Nat) : Int) - 1 = (n : Int) by omega, e]; exact ⟨c2, c3⟩
end Go.Proofs.Ytconhodokldcbaa.Pure
namespace Go.Proofs.Ytconhodokldcbaa.Lis
open Go.RowKit Go.Proofs.Ytconhodokldcbaa.G Go.Proofs.YtconhodokldcbaaW.PrintWords Go.Proofs.YtconhodokldcbaaW.PrintLast
set_option linter.unusedVariables false
theorem w1 {i : Int} (h0 : 0 ≤ i) (h : i ≤ 1000000) : wrap64 (i + 1) = i + 1 := by unfold wrap64; omega
theorem w0 {i : Int} (h0 : 0 < i) (h : i ≤ 1000000) : wrap64 (i - 1) = i - 1 := by unfold wrap64; omega
theorem take_succ' (xs : List Int) (i : Nat) (h : i < xs.length) : xs.take (i + 1) = xs.take i ++ [rd xs i] := by
  rw [List.take_succ_eq_append_getElem h]; unfold rd; rw [List.getD_eq_getElem?_getD, Int.toNat_natCast, List.getElem?_eq_getElem h]; rfl
theorem rd_take (xs : List Int) (i : Nat) (j : Int) (h0 : 0 ≤ j) (h : j < i) : rd (xs.take i) j = rd xs j := by
  unfold rd; rw [List.getD_eq_getElem?_getD, List.getD_eq_getElem?_getD, List.getElem?_take, if_pos (by omega)]
/-- The inner round of the reference's Ends: what comes behind it, if the number that it has gathered is right. -/
theorem refEnds_l1 (l : List Int) (hn : l.length ≤ 1000000) (i : Nat) (hi : i < l.length) (d : Nat) : ∀ (k : Nat) (j n : Int), 0 ≤ j → (i : Int) - j = d → d < k →
    (rd l i < 0 → n = 0) → (0 ≤ rd l i → 1 ≤ n ∧ n ≤ rd (endsOf l) i ∧ ∀ y : Int, 0 ≤ y → y < j → 0 ≤ rd l y → rd l y < rd l i → rd (endsOf l) y + 1 ≤ n) →
    ∃ m, d + m + 1 = k ∧ r06_Ends.l1 k l ((endsOf l).take i) i n l.length i i j = r06_Ends.l0 m l ((endsOf l).take (i + 1)) l.length (i + 1) := by
  have hel := ends_len l
  induction d with
  | zero =>
    intro k j n h0 hd hk hneg hpos; obtain ⟨k, rfl⟩ : ∃ m, k = m + 1 := ⟨k - 1, by omega⟩; refine ⟨k, by omega, ?_⟩
    have hnn : n = rd (endsOf l) i := by
      by_cases hl : rd l i < 0
      · rw [hneg hl, ends_neg (by omega) hl]
      · obtain ⟨h1, h2, h3⟩ := hpos (by omega)
        obtain ⟨p, hp⟩ := (pat l).all i (by omega) (by omega) (by omega)
        have he := ends_mem hp
        cases p with
        | zero => omega
        | succ p =>
          obtain ⟨b1, b2, b3, _⟩ := (pat l).back p i hp; have hr := (pat l).range b1; have := h3 _ hr.1 (by omega) ((pat l).pos _ _ b1) b3; rw [ends_mem b1] at this; omega
    rw [r06_Ends.l1, if_neg (by omega), if_pos (by rw [List.length_take]; omega), w1 (by omega) (by omega), hnn, take_succ' _ _ (by omega)]
  | succ d ih =>
    intro k j n h0 hd hk hneg hpos; obtain ⟨k, rfl⟩ : ∃ m, k = m + 1 := ⟨k - 1, by omega⟩
    have go : ∀ n2, (rd l i < 0 → n2 = 0) → (0 ≤ rd l i → 1 ≤ n2 ∧ n2 ≤ rd (endsOf l) i ∧ ∀ y : Int, 0 ≤ y → y < j + 1 → 0 ≤ rd l y → rd l y < rd l i → rd (endsOf l) y + 1 ≤ n2) →
        ∃ m, d + 1 + m + 1 = k + 1 ∧ r06_Ends.l1 k l ((endsOf l).take i) i n2 l.length i i (j + 1) = r06_Ends.l0 m l ((endsOf l).take (i + 1)) l.length (i + 1) := fun n2 a b => by
      obtain ⟨m, h1, h2⟩ := ih k (j + 1) n2 (by omega) (by omega) (by omega) a b
      exact ⟨m, by omega, h2⟩
    have keep : (¬ (0 ≤ rd l j ∧ rd l j < rd l i) ∨ rd (endsOf l) j + 1 ≤ n) → ∃ m, d + 1 + m + 1 = k + 1 ∧ r06_Ends.l1 k l ((endsOf l).take i) i n l.length i i (j + 1) = r06_Ends.l0 m l ((endsOf l).take (i + 1)) l.length (i + 1) := fun hk2 =>
      go n hneg (fun hp => by
        obtain ⟨h1, h2, h3⟩ := hpos hp; refine ⟨h1, h2, fun y y0 y1 y2 y3 => ?_⟩
        by_cases hyj : y = j
        · subst hyj
          rcases hk2 with h | h
          · exact absurd ⟨y2, y3⟩ h
          · exact h
        · exact h3 y y0 (by omega) y2 y3)
    rw [r06_Ends.l1, if_pos (by omega), if_pos (by omega), if_pos (by omega), w1 h0 (by omega)]
    by_cases c1 : rd l i ≥ 0
    · rw [if_pos c1, if_pos h0, if_pos (by omega)]
      by_cases c2 : rd l j ≥ 0
      · rw [if_pos c2]
        by_cases c3 : rd l j < rd l i
        · have hE : rd ((endsOf l).take i) j = rd (endsOf l) j := rd_take _ _ _ h0 (by omega)
          obtain ⟨p, hp⟩ := (pat l).all j h0 (by omega) c2
          obtain ⟨q, hq⟩ := (pat l).all i (by omega) (by omega) c1
          have h1 := ends_mem hp
          have h2 := ends_mem hq
          have hpq := (pat l).cross p q j i hp hq (by omega) c3
          have hql := mem_lt hq
          have hps := (pat l).inv.psl
          rw [if_pos c3, if_pos (by rw [List.length_take]; omega), hE, w1 (by omega) (by omega)]
          by_cases c4 : rd (endsOf l) j + 1 > n
          · rw [if_pos c4]
            refine go _ (fun h => by omega) (fun _ => ⟨by omega, by omega, fun y y0 y1 y2 y3 => ?_⟩)
            by_cases hyj : y = j
            · subst hyj; omega
            · have := (hpos c1).2.2 y y0 (by omega) y2 y3; omega
          · rw [if_neg c4]
            exact keep (.inr (by omega))
        · rw [if_neg c3]
          exact keep (.inl (by omega))
      · rw [if_neg c2]
        exact keep (.inl (by omega))
    · rw [if_neg c1]
      exact go n hneg (fun h => by omega)
theorem refEnds_l0 (l : List Int) (hn : l.length ≤ 1000000) (d : Nat) : ∀ (k : Nat) (i : Nat), (l.length : Int) - i = d → d * (l.length + 3) < k → i ≤ l.length →
    r06_Ends.l0 k l ((endsOf l).take i) l.length i = some (endsOf l) := by
  have hel := ends_len l
  induction d with
  | zero =>
    intro k i hd hk hi; obtain ⟨k, rfl⟩ : ∃ m, k = m + 1 := ⟨k - 1, by omega⟩; rw [r06_Ends.l0, if_neg (by omega), List.take_of_length_le (by omega)]
  | succ d ih =>
    intro k i hd hk hi
    have hmul : (d + 1) * (l.length + 3) = d * (l.length + 3) + l.length + 3 := by rw [Nat.succ_mul]; omega
    obtain ⟨k, rfl⟩ : ∃ m, k = m + 2 := ⟨k - 2, by omega⟩
    have go : ∀ n, (rd l i < 0 → n = 0) → (0 ≤ rd l i → n = 1) → r06_Ends.j1 (k + 1) l ((endsOf l).take i) i n l.length i = some (endsOf l) := fun n h1 h2 => by
      rw [r06_Ends.j1]
      obtain ⟨m, hm, he⟩ := refEnds_l1 l hn i (by omega) i k 0 n (by omega) (by omega) (by omega) h1 (fun hp => ⟨by rw [h2 hp]; omega, by
        obtain ⟨p, hp⟩ := (pat l).all i (by omega) (by omega) hp
        rw [h2 (by assumption), ends_mem hp]; omega, fun y y0 y1 => by omega⟩)
      rw [he, show (i : Int) + 1 = ((i + 1 : Nat) : Int) by omega]; exact ih m (i + 1) (by omega) (by omega) (by omega)
    rw [r06_Ends.l0, if_pos (by omega), if_pos (by omega), if_pos (by omega)]
    by_cases c : rd l i ≥ 0
    (rw [if_pos c]; exact go 1 (fun h => by omega) (fun _ => rfl)); (rw [if_neg c]; exact go 0 (fun _ => rfl) (fun h => absurd h c))
def K1 (l : List Int) : Nat := l.length * (l.length + 3) + 1
theorem refEnds (l : List Int) (hn : l.length ≤ 1000000) (k : Nat) (hk : K1 l ≤ k) : r06_Ends.f k l = some (endsOf l) :=
  refEnds_l0 l hn l.length k 0 (by omega) (by unfold K1 at hk; omega) (by omega)
theorem refLength_l0 (l : List Int) (hn : l.length ≤ 1000000) (d : Nat) : ∀ (k : Nat) (i n : Int), 0 ≤ i → (l.length : Int) - i = d → d < k → 0 ≤ n → n ≤ (pilesOf l).length →
    (∀ p : Nat, (pilesOf l).length = p + 1 → n = p + 1 ∨ ∃ x, x ∈ (pilesOf l).getD p [] ∧ i ≤ x) → r06_Length.l0 k n (endsOf l) l.length i = some ((pilesOf l).length : Int) := by
  have hel := ends_len l
  induction d with
  | zero =>
    intro k i n h0 hd hk hn0 hn1 hp; obtain ⟨k, rfl⟩ : ∃ m, k = m + 1 := ⟨k - 1, by omega⟩; rw [r06_Length.l0, if_neg (by omega)]
    congr 1
    rcases Nat.eq_zero_or_pos (pilesOf l).length with h | h
    · omega
    · rcases hp ((pilesOf l).length - 1) (by omega) with h1 | ⟨x, hx, h1⟩
      · omega
      · have := (pat l).range hx; omega
  | succ d ih =>
    intro k i n h0 hd hk hn0 hn1 hp; obtain ⟨k, rfl⟩ : ∃ m, k = m + 1 := ⟨k - 1, by omega⟩; rw [r06_Length.l0, if_pos (by omega), if_pos h0, if_pos (by omega), w1 h0 (by omega)]
    have hle : rd (endsOf l) i ≤ (pilesOf l).length ∧ ∀ q : Nat, i ∈ (pilesOf l).getD q [] → rd (endsOf l) i = q + 1 := by
      by_cases hneg : rd l i < 0
      (rw [ends_neg h0 hneg]; exact ⟨by omega, fun q hq => by have := (pat l).pos q i hq; omega⟩); (obtain ⟨q, hq⟩ := (pat l).all i h0 (by omega) (by omega); have := mem_lt hq; exact ⟨by rw [ends_mem hq]; omega, fun q2 hq2 => ends_mem hq2⟩)
    have hmx : mx n (rd (endsOf l) i) = if n < rd (endsOf l) i then rd (endsOf l) i else n := rfl
    refine ih k (i + 1) _ (by omega) (by omega) (by omega) ?_ ?_ ?_; (rw [hmx]; split <;> omega); (rw [hmx]; split <;> omega)
    · intro p hpl
      rcases hp p hpl with h1 | ⟨x, hx, h1⟩
      · left; rw [hmx]; split <;> omega
      · by_cases hxi : x = i
        · subst hxi
          left
          have := hle.2 p hx
          rw [hmx]; split <;> omega
        · exact .inr ⟨x, hx, by omega⟩
theorem refLength (l : List Int) (hn : l.length ≤ 1000000) (k : Nat) (hk : K1 l ≤ k) (hk2 : l.length < k) : r06_Length.f k l = some ((pilesOf l).length : Int) := by
  unfold r06_Length.f; rw [refEnds l hn k hk]; simp only [Option.bind_some]; rw [ends_len]; refine refLength_l0 l hn l.length k 0 0 (by omega) (by omega) hk2 (by omega) (by omega) (fun p hp => .inr ?_); have := (pat l).nonempty (show p < (pilesOf l).length by omega); refine ⟨rd ((pilesOf l).getD p []) (((pilesOf l).getD p []).length - 1), rd_last_mem _ this, ?_⟩; have := (pat l).range (rd_last_mem _ this); omega
/-- The reference's scan for the last place of pile q below the limit z. -/
theorem refLongest_l1 (l out : List Int) (hn : l.length ≤ 1000000) (q : Nat) (z : Int) (hz : z ≤ l.length) (c : Int) (hc : c ∈ (pilesOf l).getD q []) (hcz : c < z) (hlast : ∀ y, y ∈ (pilesOf l).getD q [] → y < z → y ≤ c)
    (hout : out.length ≤ 1000000) (d : Nat) : ∀ (k : Nat) (j a : Int), 0 ≤ j → z - j = d → d < k → (a < 0 ∧ (∀ y, y ∈ (pilesOf l).getD q [] → j ≤ y) ∨ a ∈ (pilesOf l).getD q [] ∧ a < j ∧ ∀ y, y ∈ (pilesOf l).getD q [] → y < j → y ≤ a) →
    ∃ m, d + m + 1 = k ∧ r06_Longest.l1 k l (endsOf l) out ((q : Int) + 1) a z j = r06_Longest.l0 m l (endsOf l) (c :: out) c q := by
  have hel := ends_len l; have hcr := (pat l).range hc; have hql := mem_lt hc; have hps := (pat l).inv.psl
  induction d with
  | zero =>
    intro k j a h0 hd hk ha; obtain ⟨k, rfl⟩ : ∃ m, k = m + 1 := ⟨k - 1, by omega⟩
    have hac : a = c := by
      rcases ha with ⟨_, h2⟩ | ⟨h1, h2, h3⟩
      (have := h2 c hc; omega); (have := h3 c hc (by omega); have := hlast a h1 (by omega); omega)
    subst hac; refine ⟨k, by omega, ?_⟩; rw [r06_Longest.l1, if_neg (by omega), if_neg (by omega)]; simp only [Option.bind_some]; rw [if_pos (by simp only [List.length_cons, List.length_nil]; omega), w0 (by omega) (by omega), show (q : Int) + 1 - 1 = (q : Int) by omega]; rfl
  | succ d ih =>
    intro k j a h0 hd hk ha; obtain ⟨k, rfl⟩ : ∃ m, k = m + 1 := ⟨k - 1, by omega⟩
    have go : ∀ a2, (a2 < 0 ∧ (∀ y, y ∈ (pilesOf l).getD q [] → j + 1 ≤ y) ∨ a2 ∈ (pilesOf l).getD q [] ∧ a2 < j + 1 ∧ ∀ y, y ∈ (pilesOf l).getD q [] → y < j + 1 → y ≤ a2) →
        ∃ m, d + 1 + m + 1 = k + 1 ∧ r06_Longest.l1 k l (endsOf l) out ((q : Int) + 1) a2 z (j + 1) = r06_Longest.l0 m l (endsOf l) (c :: out) c q := fun a2 h => by
      obtain ⟨m, h1, h2⟩ := ih k (j + 1) a2 (by omega) (by omega) (by omega) h
      exact ⟨m, by omega, h2⟩
    rw [r06_Longest.l1, if_pos (by omega), if_pos h0, if_pos (by omega), w1 h0 (by omega)]
    by_cases c1 : rd (endsOf l) j = (q : Int) + 1
    · rw [if_pos c1]
      have hj : j ∈ (pilesOf l).getD q [] := by
        by_cases hneg : rd l j < 0
        · rw [ends_neg h0 hneg] at c1; omega
        · obtain ⟨p, hp⟩ := (pat l).all j h0 (by omega) (by omega)
          have := ends_mem hp
          have hpq : p = q := by omega
          rwa [hpq] at hp
      by_cases c2 : a < 0
      · rw [if_pos c2]
        exact go j (.inr ⟨hj, by omega, fun y _ hy => by omega⟩)
      · rw [if_neg c2]
        obtain ⟨h1, h2, h3⟩ : a ∈ (pilesOf l).getD q [] ∧ a < j ∧ ∀ y, y ∈ (pilesOf l).getD q [] → y < j → y ≤ a := by
          rcases ha with h | h
          (omega); (exact h)
        have har := (pat l).range h1
        have hdown : rd l j ≤ rd l a := by
          have hD := (pat l).down q; obtain ⟨s, hs, e1⟩ := List.getElem_of_mem h1; obtain ⟨t, ht, e2⟩ := List.getElem_of_mem hj
          have hst : s < t := by
            rcases Nat.lt_trichotomy s t with h | h | h
            (exact h); (subst h; omega); (have := (List.pairwise_iff_getElem.1 hD t s ht hs h).1; omega)
          have := (List.pairwise_iff_getElem.1 hD s t hs ht hst).2; rwa [e1, e2] at this
        rw [if_pos (by omega), if_pos (by omega), if_pos (by omega), if_pos hdown]
        exact go j (.inr ⟨hj, by omega, fun y _ hy => by omega⟩)
    · rw [if_neg c1]
      have hj : j ∉ (pilesOf l).getD q [] := fun h => c1 (ends_mem h)
      refine go a ?_
      rcases ha with ⟨h1, h2⟩ | ⟨h1, h2, h3⟩
      · exact .inl ⟨h1, fun y hy => by
          have := h2 y hy
          have : y ≠ j := fun e => hj (e ▸ hy)
          omega⟩
      · exact .inr ⟨h1, by omega, fun y hy hyj => by
          have : y ≠ j := fun e => hj (e ▸ hy)
          exact h3 y hy (by omega)⟩
theorem refLongest_l0 (l : List Int) (hn : l.length ≤ 1000000) : ∀ (q k : Nat) (z : Int), q ≤ (pilesOf l).length → q * (l.length + 3) < k → (q = (pilesOf l).length → z = l.length) → (q < (pilesOf l).length → z = rd (longestOf l) q) →
    r06_Longest.l0 k l (endsOf l) ((longestOf l).drop q) z q = some (longestOf l) := by
  have hll := longest_len l; have hps := (pat l).inv.psl; intro q
  induction q with
  | zero =>
    intro k z hq hk _ _; obtain ⟨k, rfl⟩ : ∃ m, k = m + 1 := ⟨k - 1, by omega⟩; rw [r06_Longest.l0, if_neg (by omega), List.drop_zero]
  | succ q ih =>
    intro k z hq hk hz1 hz2
    have hmul : (q + 1) * (l.length + 3) = q * (l.length + 3) + l.length + 3 := by rw [Nat.succ_mul]; omega
    obtain ⟨k, rfl⟩ : ∃ m, k = m + 1 := ⟨k - 1, by omega⟩; obtain ⟨a1, a2, a3⟩ := longest_at l q (by omega); have hr := (pat l).range a1
    -- the limit, and that this is the last one below it
    have hlim : rd (longestOf l) q < z ∧ z ≤ l.length ∧ ∀ y, y ∈ (pilesOf l).getD q [] → y < z → y ≤ rd (longestOf l) q := by
      by_cases he : q + 1 = (pilesOf l).length
      (rw [hz1 he]; exact ⟨hr.2, by omega, fun y hy _ => by rw [a2 he]; exact ((pat l).top hy).1⟩); (obtain ⟨b1, _, _⟩ := longest_at l (q + 1) (by omega); obtain ⟨c1, c2, c3, c4⟩ := (pat l).back q _ b1; have e := a3 (by omega); rw [show (q : Int) + 1 = ((q + 1 : Nat) : Int) by omega] at e; have hz := hz2 (by omega); rw [hz, e]; have := (pat l).range b1; exact ⟨c2, by omega, c4⟩)
    rw [r06_Longest.l0, if_pos (by omega), show ((q + 1 : Nat) : Int) = (q : Int) + 1 by omega]; obtain ⟨d, hd⟩ := Int.eq_ofNat_of_zero_le (show 0 ≤ z by omega)
    obtain ⟨m, hm, he⟩ := refLongest_l1 l ((longestOf l).drop (q + 1)) hn q z hlim.2.1 (rd (longestOf l) q) a1 hlim.1 hlim.2.2 (by rw [List.length_drop]; omega) d k 0 (-1) (by omega) (by omega) (by omega)
      (.inl ⟨by omega, fun y hy => ((pat l).range hy).1⟩)
    rw [he]
    have hd2 : rd (longestOf l) q :: (longestOf l).drop (q + 1) = (longestOf l).drop q := by
      rw [List.drop_eq_getElem_cons (show q < (longestOf l).length by omega)]; unfold rd; rw [List.getD_eq_getElem?_getD, Int.toNat_natCast, List.getElem?_eq_getElem (by omega)]; rfl
    rw [hd2]; exact ih m _ (by omega) (by omega) (fun h => by omega) (fun _ => rfl)
theorem refLongest (l : List Int) (hn : l.length ≤ 1000000) (k : Nat) (hk : K1 l ≤ k) (hk2 : l.length < k) : r06_Longest.f k l = some (longestOf l) := by
  unfold r06_Longest.f; rw [refEnds l hn k hk, refLength l hn k hk hk2]; simp only [Option.bind_some]
  have h := refLongest_l0 l hn (pilesOf l).length k l.length (Nat.le_refl _) (by
    have := (pat l).inv.psl; have := Nat.mul_le_mul_right (l.length + 3) this
    unfold K1 at hk; omega) (fun _ => rfl) (fun h => by omega)
  rw [List.drop_of_length_le (by rw [longest_len]; exact Nat.le_refl _)] at h; exact h
end Go.Proofs.Ytconhodokldcbaa.Lis
namespace Go.Proofs.Ytconhodokldcbaa.Pure
open Go.RowKit Go.Proofs.Ytconhodokldcbaa.G Go.Proofs.YtconhodokldcbaaW.PrintWords Go.Proofs.YtconhodokldcbaaW.PrintLast
set_option linter.unusedVariables false
/-- Does a place stay? -/
def ST (l : List Int) (i : Nat) : Bool := (longestOf l).any (fun x => x == (i : Int))
def stB (l : List Int) : List Bool := (List.range l.length).map (ST l)
theorem stB_len (l : List Int) : (stB l).length = l.length := by unfold stB; rw [List.length_map, List.length_range]
theorem rdOf_map (n : Nat) (f : Nat → Bool) (i : Nat) (h : i < n) : rdOf false ((List.range n).map f) (i : Int) = f i := by
  unfold rdOf; rw [List.getD_eq_getElem?_getD, Int.toNat_natCast, List.getElem?_map, List.getElem?_range h]; rfl
theorem rd_stB (l : List Int) (i : Nat) (h : i < l.length) : rdOf false (stB l) (i : Int) = ST l i := rdOf_map _ _ _ h
theorem rd_get (L : List Int) (q : Nat) (h : q < L.length) : rd L (q : Int) = L[q] := by
  unfold rd; rw [List.getD_eq_getElem?_getD, Int.toNat_natCast, List.getElem?_eq_getElem h]; rfl
theorem takI (L : List Int) (q : Nat) (h : q < L.length) : L.take (q + 1) = L.take q ++ [rd L (q : Int)] := by
  rw [List.take_succ_eq_append_getElem h, rd_get L q h]
theorem longest_in (l : List Int) : ∀ x ∈ longestOf l, 0 ≤ x ∧ x < l.length := by
  intro x hx; obtain ⟨j, hj, rfl⟩ := List.getElem_of_mem hx; obtain ⟨a, b, _, _⟩ := longest_choice l (j : Int) (by omega) (by omega); rw [rd_get _ j hj] at a b; exact ⟨a, b⟩
theorem longest_len_le (l : List Int) : (longestOf l).length ≤ l.length := by
  have h := longest_len l; have := (pat l).inv.psl; omega
theorem set_map (n : Nat) (f : Nat → Bool) (x : Nat) : ((List.range n).map f).set x true = (List.range n).map (fun i => f i || i == x) := by
  refine List.ext_getElem (by simp) (fun i h1 h2 => ?_); rw [List.getElem_set]; simp only [List.getElem_map, List.getElem_range]
  by_cases c : x = i
  · subst c; simp
  · rw [if_neg c]
    have : (i == x) = false := by simp; omega
    rw [this, Bool.or_false]
theorem stay_l0 (n : Nat) (L : List Int) (hL : L.length ≤ 1000000) (hin : ∀ x ∈ L, 0 ≤ x ∧ x < n) : ∀ (d q : Nat), q + d = L.length →
    Ev (fun k => moves_Stay.l0 k ((List.range n).map (fun (i : Nat) => (L.take q).any (fun x => x == (i : Int)))) L L.length q) ((List.range n).map (fun (i : Nat) => L.any (fun x => x == (i : Int))))
  | 0, q, h => by
    rw [List.take_of_length_le (by omega)]
    exact (Ev.pure _).step (fun k => by rw [moves_Stay.l0, if_neg (by omega)])
  | d + 1, q, h => by
    have ih := stay_l0 n L hL hin d (q + 1) (by omega)
    have hq := hin (rd L (q : Int)) (by rw [rd_get L q (by omega)]; exact List.getElem_mem _)
    refine ih.step (fun k => ?_)
    rw [moves_Stay.l0, if_pos (by omega), if_pos (by omega), if_pos (by omega), if_pos hq.1, if_pos (by rw [List.length_map, List.length_range]; exact hq.2), set_map, w1 (by omega) (by omega)]
    congr 1
    rw [takI L q (by omega)]
    refine List.map_congr_left (fun i _ => ?_)
    rw [List.any_append]
    congr 1
    simp only [List.any_cons, List.any_nil, Bool.or_false]
    rw [Bool.eq_iff_iff]
    simp
    omega
theorem check_ok {l : List Int} (hl : l.length ≤ 1000000) (hw : l.all wfB = true) (ht : twB [] l = false) : moves_Check.f l = some 0 := by
  unfold moves_Check.f; rw [if_pos ⟨hl, hw⟩, ht]; rfl
theorem check_no {l : List Int} (hl : l.length ≤ 1000000) (hw : l.all wfB = true) (ht : twB [] l = true) : moves_Check.f l = some 10 := by
  unfold moves_Check.f; rw [if_pos ⟨hl, hw⟩, ht]; rfl
theorem stay_ev (l : List Int) (hl : l.length ≤ 1000000) (hw : l.all wfB = true) (ht : twB [] l = false) : Ev (fun k => moves_Stay.f k l) (stB l) := by
  have h := stay_l0 l.length (longestOf l) (by have := longest_len_le l; omega) (longest_in l) (longestOf l).length 0 (by omega); refine h.eq (fun k => ?_); unfold moves_Stay.f lis_Longest.f; rw [check_ok hl hw ht, Option.bind_some, if_pos rfl, if_pos (by omega), if_pos (by omega), if_pos hl, Option.bind_some, Int.toNat_natCast, List.take_zero]
  congr 1
  refine List.ext_getElem (by simp) (fun i h1 h2 => by simp)
theorem rstay_l1 (L : List Int) (hL : L.length ≤ 1000000) (acc : List Bool) (hacc : acc.length ≤ 1000000) (n i : Nat) (hn : n ≤ 1000000) (hi : i < n) (r : List Bool)
    (h : Ev (fun k => r08_Stay.l0 k L (acc ++ [L.any (fun x => x == (i : Int))]) n ((i + 1 : Nat) : Int)) r) : ∀ (d q : Nat), q + d = L.length →
    Ev (fun k => r08_Stay.l1 k L acc i ((L.take q).any (fun x => x == (i : Int))) n i L.length q) r
  | 0, q, hq => by
    rw [List.take_of_length_le (by omega)]
    exact h.step (fun k => by rw [r08_Stay.l1, if_neg (by omega), if_pos (by omega), w1 (by omega) (by omega)]; rfl)
  | d + 1, q, hq => by
    have ih := rstay_l1 L hL acc hacc n i hn hi r h d (q + 1) (by omega)
    rw [takI L q (by omega), List.any_append] at ih
    simp only [List.any_cons, List.any_nil, Bool.or_false] at ih
    cases c : (L.take q).any (fun x => x == (i : Int)) with
    | true =>
      rw [c, Bool.true_or] at ih
      exact ih.step (fun k => by rw [r08_Stay.l1, if_pos (by omega), if_pos rfl, w1 (by omega) (by omega)]; rfl)
    | false =>
      rw [c, Bool.false_or] at ih
      exact ih.step (fun k => by rw [r08_Stay.l1, if_pos (by omega), if_neg (by decide), if_pos (by omega), if_pos (by omega), w1 (by omega) (by omega)]; rfl)
theorem rstay_l0 (L : List Int) (hL : L.length ≤ 1000000) (n : Nat) (hn : n ≤ 1000000) : ∀ (d i : Nat), i + d = n →
    Ev (fun k => r08_Stay.l0 k L ((List.range i).map (fun (i : Nat) => L.any (fun x => x == (i : Int)))) n i) ((List.range n).map (fun (i : Nat) => L.any (fun x => x == (i : Int))))
  | 0, i, h => by
    obtain rfl : i = n := by omega
    exact (Ev.pure _).step (fun k => by rw [r08_Stay.l0, if_neg (by omega)])
  | d + 1, i, h => by
    have ih := rstay_l0 L hL n hn d (i + 1) (by omega)
    rw [List.range_succ, List.map_append] at ih
    have h2 := rstay_l1 L hL ((List.range i).map (fun (i : Nat) => L.any (fun x => x == (i : Int)))) (by rw [List.length_map, List.length_range]; omega) n i hn (by omega) _ ih L.length 0 (by omega)
    exact h2.step (fun k => by rw [r08_Stay.l0, if_pos (by omega)]; rfl)
theorem rstay_ev (l : List Int) (hl : l.length ≤ 1000000) : Ev (fun k => r08_Stay.f k l) (stB l) := by
  have hlo : Ev (fun k => r06_Longest.f k l) (longestOf l) := ⟨Lis.K1 l + l.length + 1, fun k hk => Lis.refLongest l hl k (by omega) (by omega)⟩; refine Ev.bind hlo ?_; have := rstay_l0 (longestOf l) (by have := longest_len_le l; omega) l.length hl l.length 0 (by omega); exact this
/-- The plan, of the places below one. -/
def planT (l : List Int) : Nat → List (Int × Int)
  | 0 => []
  | i + 1 => (if ST l i = true then [] else [((i : Int), if i + 1 = l.length then (-1 : Int) else ((i + 1 : Nat) : Int))]) ++ planT l i
def m36 (x : Int × Int) : S36 := ⟨x.1, x.2⟩
def m37 (x : Int × Int) : S37 := ⟨x.1, x.2⟩
def planP (l : List Int) : List S36 := (planT l l.length).map m36
theorem planT_len (l : List Int) : ∀ i, (planT l i).length ≤ i
  | 0 => Nat.le_refl _
  | i + 1 => by
    have := planT_len l i
    unfold planT
    rw [List.length_append]
    split <;> simp <;> omega
theorem plan_l0 (l : List Int) (hl : l.length ≤ 1000000) (r : List S36) : ∀ (i : Nat) (acc : List S36), i ≤ l.length → acc.length + i ≤ 1000000 → acc ++ (planT l i).map m36 = r →
    Ev (fun k => moves_Plan.l0 k acc (if i = l.length then -1 else (i : Int)) (stB l) ((i : Int) - 1)) (r, 0)
  | 0, acc, hi, ha, h => by
    rw [planT, List.map_nil, List.append_nil] at h
    subst h
    exact (Ev.pure _).step (fun k => by rw [moves_Plan.l0, if_neg (by omega)])
  | i + 1, acc, hi, ha, h => by
    have hb : (if i = l.length then (-1 : Int) else (i : Int)) = (i : Int) := if_neg (by omega)
    have hsl := stB_len l
    have e : (((i + 1 : Nat) : Int) - 1) = (i : Int) := by omega
    rw [planT] at h
    by_cases c : ST l i = true
    · rw [if_pos c, List.nil_append] at h
      have ih := plan_l0 l hl r i acc (by omega) (by omega) h
      rw [hb] at ih
      refine ih.step (fun k => ?_)
      rw [e, moves_Plan.l0, if_pos (by omega), if_pos (by omega), if_pos (by omega), rd_stB l i (by omega), if_pos c, wm (by omega) (by omega)]
    · rw [if_neg c, List.map_append] at h
      have ih := plan_l0 l hl r i (acc ++ [m36 ((i : Int), if i + 1 = l.length then (-1 : Int) else ((i + 1 : Nat) : Int))]) (by omega) (by rw [List.length_append, List.length_singleton]; omega) (by rw [List.append_assoc]; exact h)
      rw [hb] at ih
      refine ih.step (fun k => ?_)
      rw [e, moves_Plan.l0, if_pos (by omega), if_pos (by omega), if_pos (by omega), rd_stB l i (by omega), if_neg c, if_pos (by omega), wm (by omega) (by omega)]
      rfl
theorem plan_ev (l : List Int) (hl : l.length ≤ 1000000) (hw : l.all wfB = true) (ht : twB [] l = false) : Ev (fun k => moves_Plan.f k l) (planP l, 0) := by
  have h := plan_l0 l hl (planP l) l.length [] (Nat.le_refl _) (by simp; omega) (by rw [List.nil_append]; rfl); rw [if_pos rfl] at h
  have key : Ev (fun k => (moves_Stay.f k l).bind fun t111 => (moves_Plan.l0 k ([] : List (S36)) (-1) t111 (wrap64 ((l.length : Int) - 1)))) (planP l, 0) := by
    refine Ev.bind (stay_ev l hl hw ht) ?_; rw [wm (by omega) (by omega)]; exact h
  refine key.eq (fun k => ?_); unfold moves_Plan.f; rw [check_ok hl hw ht, Option.bind_some, if_pos rfl]
theorem rplan_l0 (l : List Int) (hl : l.length ≤ 1000000) (r : List S37) : ∀ (i : Nat) (acc : List S37), i ≤ l.length → acc.length + i ≤ 1000000 → acc ++ (planT l i).map m37 = r →
    Ev (fun k => r08_Plan.l0 k l acc (stB l) ((i : Int) - 1)) r
  | 0, acc, hi, ha, h => by
    rw [planT, List.map_nil, List.append_nil] at h
    subst h
    exact (Ev.pure _).step (fun k => by rw [r08_Plan.l0, if_neg (by omega)])
  | i + 1, acc, hi, ha, h => by
    have hsl := stB_len l
    have e : (((i + 1 : Nat) : Int) - 1) = (i : Int) := by omega
    rw [planT] at h
    by_cases c : ST l i = true
    · rw [if_pos c, List.nil_append] at h
      have ih := rplan_l0 l hl r i acc (by omega) (by omega) h
      refine ih.step (fun k => ?_)
      rw [e, r08_Plan.l0, if_pos (by omega), if_pos (by omega), if_pos (by omega), rd_stB l i (by omega), if_pos c, wm (by omega) (by omega)]
    · rw [if_neg c, List.map_append] at h
      have ih := rplan_l0 l hl r i (acc ++ [m37 ((i : Int), if i + 1 = l.length then (-1 : Int) else ((i + 1 : Nat) : Int))]) (by omega) (by rw [List.length_append, List.length_singleton]; omega) (by rw [List.append_assoc]; exact h)
      refine ih.step (fun k => ?_)
      rw [e, r08_Plan.l0, if_pos (by omega), if_pos (by omega), if_pos (by omega), rd_stB l i (by omega), if_neg c, wm (by omega) (by omega), wm (by omega) (by omega), w1 (by omega) (by omega)]
      by_cases c2 : i + 1 = l.length
      · rw [if_pos (by omega), if_pos (by omega), if_pos c2]
        rfl
      · rw [if_neg (by omega), if_pos (by omega), if_neg c2]
        rfl
theorem rplan_ev (l : List Int) (hl : l.length ≤ 1000000) : Ev (fun k => r08_Plan.f k l) ((planT l l.length).map m37) := by
  have h := rplan_l0 l hl _ l.length [] (Nat.le_refl _) (by simp; omega) (List.nil_append _); refine Ev.bind (rstay_ev l hl) ?_; rw [wm (by omega) (by omega)]; exact h
/-- How many numbers below one are so. -/
def cn (p : Nat → Bool) : Nat → Nat
  | 0 => 0
  | i + 1 => cn p i + if p i = true then 1 else 0
theorem cn_le (p : Nat → Bool) : ∀ n, cn p n ≤ n
  | 0 => Nat.le_refl _
  | n + 1 => by
    have := cn_le p n
    rw [cn]
    split <;> omega
/-- A thing that moves though it is not new. -/
def mvd (l : List Int) (i : Nat) : Bool := decide (0 ≤ rd l (i : Int)) && !ST l i
theorem least_l0 (l : List Int) (hl : l.length ≤ 1000000) : ∀ (d i : Nat), i + d = l.length → Ev (fun k => moves_Least.l0 k l (cn (mvd l) i : Nat) (stB l) l.length i) (cn (mvd l) l.length : Nat)
  | 0, i, h => by
    obtain rfl : i = l.length := by omega
    exact (Ev.pure _).step (fun k => by rw [moves_Least.l0, if_neg (by omega)])
  | d + 1, i, h => by
    have ih := least_l0 l hl d (i + 1) (by omega)
    have hsl := stB_len l
    have hle := cn_le (mvd l) i
    refine ih.step (fun k => ?_)
    rw [moves_Least.l0, if_pos (by omega), if_pos (by omega), if_pos (by omega), if_pos (by omega), rd_stB l i (by omega), w1 (by omega) (by omega), w1 (by omega) (by omega), cn]
    unfold mvd
    by_cases c1 : rd l (i : Int) ≥ 0
    · rw [if_pos c1, show decide (0 ≤ rd l (i : Int)) = true from decide_eq_true c1]
      cases c2 : ST l i <;> simp
    · rw [if_neg c1, show decide (0 ≤ rd l (i : Int)) = false from decide_eq_false c1]
      simp
theorem least_ev (l : List Int) (hl : l.length ≤ 1000000) (hw : l.all wfB = true) (ht : twB [] l = false) : Ev (fun k => moves_Least.f k l) (cn (mvd l) l.length : Nat) := by
  refine Ev.bind (stay_ev l hl hw ht) ?_; rw [stB_len]; exact least_l0 l hl l.length 0 (by omega)
theorem rleast_l0 (l : List Int) (hl : l.length ≤ 1000000) : ∀ (d i : Nat), i + d = l.length → Ev (fun k => r08_Least.l0 k l (cn (mvd l) i : Nat) (stB l) l.length i) (cn (mvd l) l.length : Nat)
  | 0, i, h => by
    obtain rfl : i = l.length := by omega
    exact (Ev.pure _).step (fun k => by rw [r08_Least.l0, if_neg (by omega)])
  | d + 1, i, h => by
    have ih := rleast_l0 l hl d (i + 1) (by omega)
    have hsl := stB_len l
    have hle := cn_le (mvd l) i
    refine ih.step (fun k => ?_)
    rw [r08_Least.l0, if_pos (by omega), if_pos (by omega), if_pos (by omega), w1 (by omega) (by omega), w1 (by omega) (by omega), cn]
    unfold mvd
    by_cases c1 : rd l (i : Int) ≥ 0
    · rw [if_pos c1, if_pos (by omega), rd_stB l i (by omega), show decide (0 ≤ rd l (i : Int)) = true from decide_eq_true c1]
      cases c2 : ST l i <;> simp
    · rw [if_neg c1, show decide (0 ≤ rd l (i : Int)) = false from decide_eq_false c1]
      simp
theorem rleast_ev (l : List Int) (hl : l.length ≤ 1000000) : Ev (fun k => r08_Least.f k l) (cn (mvd l) l.length : Nat) := by
  refine Ev.bind (rstay_ev l hl) ?_; exact rleast_l0 l hl l.length 0 (by omega)
theorem twB_iff : ∀ (xs s : List Int), twB s xs = true ↔ (∃ x ∈ xs, 0 ≤ x ∧ x ∈ s) ∨ ∃ i j : Nat, i < j ∧ j < xs.length ∧ 0 ≤ rd xs (j : Int) ∧ rd xs (i : Int) = rd xs (j : Int)
  | [], s => by simp [twB]
  | x :: xs, s => by
    have e0 : rd (x :: xs) ((0 : Nat) : Int) = x := rfl
    have es : ∀ i : Nat, rd (x :: xs) ((i + 1 : Nat) : Int) = rd xs (i : Int) := fun i => by unfold rd; rw [Int.toNat_natCast, Int.toNat_natCast]; rfl
    have hm : ∀ y, y ∈ xs → ∃ j : Nat, j < xs.length ∧ rd xs (j : Int) = y := fun y hy => by
      obtain ⟨j, hj, e⟩ := List.getElem_of_mem hy
      exact ⟨j, hj, by rw [rd_get xs j hj, e]⟩
    have hmm : ∀ j : Nat, j < xs.length → rd xs (j : Int) ∈ xs := fun j hj => by rw [rd_get xs j hj]; exact List.getElem_mem _
    rw [twB]
    split
    · rename_i hn
      rw [twB_iff xs s]
      constructor
      · rintro (⟨y, h1, h2, h3⟩ | ⟨i, j, h1, h2, h3, h4⟩)
        · exact .inl ⟨y, List.mem_cons_of_mem _ h1, h2, h3⟩
        · exact .inr ⟨i + 1, j + 1, by omega, by simp; omega, by rw [es]; exact h3, by rw [es, es]; exact h4⟩
      · rintro (⟨y, h1, h2, h3⟩ | ⟨i, j, h1, h2, h3, h4⟩)
        · rcases List.mem_cons.1 h1 with rfl | h1
          · omega
          · exact .inl ⟨y, h1, h2, h3⟩
        · obtain ⟨j, rfl⟩ : ∃ m, j = m + 1 := ⟨j - 1, by omega⟩
          rw [es] at h3 h4
          cases i with
          | zero => rw [e0] at h4; omega
          | succ i => rw [es] at h4; exact .inr ⟨i, j, by omega, by simp at h2; omega, h3, h4⟩
    · rename_i hn
      split
      · rename_i hc
        simp only [true_iff]
        exact .inl ⟨x, List.mem_cons_self, by omega, by simpa using hc⟩
      · rename_i hc
        rw [twB_iff xs (x :: s)]
        constructor
        · rintro (⟨y, h1, h2, h3⟩ | ⟨i, j, h1, h2, h3, h4⟩)
          · rcases List.mem_cons.1 h3 with rfl | h3
            · obtain ⟨j, hj, e⟩ := hm y h1
              exact .inr ⟨0, j + 1, by omega, by simp; omega, by rw [es, e]; exact h2, by rw [e0, es, e]⟩
            · exact .inl ⟨y, List.mem_cons_of_mem _ h1, h2, h3⟩
          · exact .inr ⟨i + 1, j + 1, by omega, by simp; omega, by rw [es]; exact h3, by rw [es, es]; exact h4⟩
        · rintro (⟨y, h1, h2, h3⟩ | ⟨i, j, h1, h2, h3, h4⟩)
          · rcases List.mem_cons.1 h1 with rfl | h1
            · exact absurd (by simpa using h3) hc
            · exact .inl ⟨y, h1, h2, List.mem_cons_of_mem _ h3⟩
          · obtain ⟨j, rfl⟩ : ∃ m, j = m + 1 := ⟨j - 1, by omega⟩
            have hj : j < xs.length := by simp at h2; omega
            rw [es] at h3 h4
            cases i with
            | zero => rw [e0] at h4; exact .inl ⟨rd xs (j : Int), hmm j hj, h3, by rw [← h4]; exact List.mem_cons_self⟩
            | succ i => rw [es] at h4; exact .inr ⟨i, j, by omega, hj, h3, h4⟩
theorem twice_l1 (l : List Int) (hl : l.length ≤ 1000000) (i : Nat) (hi : i < l.length) (r : Bool) (ht : (∃ j : Nat, j < i ∧ 0 ≤ rd l (i : Int) ∧ rd l (j : Int) = rd l (i : Int)) → r = true)
    (h : ¬ (∃ j : Nat, j < i ∧ 0 ≤ rd l (i : Int) ∧ rd l (j : Int) = rd l (i : Int)) → Ev (fun k => r08_Twice.l0 k l l.length ((i + 1 : Nat) : Int)) r) : ∀ (d q : Nat), q + d = i → (∀ j : Nat, j < q → ¬ (0 ≤ rd l (i : Int) ∧ rd l (j : Int) = rd l (i : Int))) →
    Ev (fun k => r08_Twice.l1 k l i l.length i i q) r
  | 0, q, hq, hn => by
    refine (h ?_).step (fun k => by rw [r08_Twice.l1, if_neg (by omega), w1 (by omega) (by omega)]; rfl)
    rintro ⟨j, h1, h2⟩
    exact hn j (by omega) h2
  | d + 1, q, hq, hn => by
    by_cases c1 : rd l (i : Int) ≥ 0
    · by_cases c2 : rd l (i : Int) = rd l (q : Int)
      · rw [ht ⟨q, by omega, c1, c2.symm⟩]
        exact (Ev.pure _).step (fun k => by rw [r08_Twice.l1, if_pos (by omega), if_pos (by omega), if_pos (by omega), if_pos c1, if_pos (by omega), if_pos (by omega), if_pos c2])
      · refine (twice_l1 l hl i hi r ht h d (q + 1) (by omega) (fun j hj => ?_)).step (fun k => by rw [r08_Twice.l1, if_pos (by omega), if_pos (by omega), if_pos (by omega), if_pos c1, if_pos (by omega), if_pos (by omega), if_neg c2, w1 (by omega) (by omega)]; rfl)
        by_cases e : j = q
        · subst e; exact fun h => c2 h.2.symm
        · exact hn j (by omega)
    · refine (twice_l1 l hl i hi r ht h d (q + 1) (by omega) (fun j hj => fun h => c1 h.1)).step (fun k => by rw [r08_Twice.l1, if_pos (by omega), if_pos (by omega), if_pos (by omega), if_neg c1, w1 (by omega) (by omega)]; rfl)
theorem twice_l0 (l : List Int) (hl : l.length ≤ 1000000) : ∀ (d i : Nat), i + d = l.length → (∀ a b : Nat, a < b → b < i → ¬ (0 ≤ rd l (b : Int) ∧ rd l (a : Int) = rd l (b : Int))) → Ev (fun k => r08_Twice.l0 k l l.length i) (twB [] l)
  | 0, i, hi, hn => by
    have hf : twB [] l = false := by
      rw [← Bool.not_eq_true, twB_iff]
      rintro (⟨_, _, _, h⟩ | ⟨a, b, h1, h2, h3⟩)
      · cases h
      · exact hn a b h1 (by omega) h3
    rw [hf]
    exact (Ev.pure _).step (fun k => by rw [r08_Twice.l0, if_neg (by omega)])
  | d + 1, i, hi, hn => by
    refine Ev.step (twice_l1 l hl i (by omega) _ (fun ⟨j, h1, h2, h3⟩ => (twB_iff l []).2 (.inr ⟨j, i, h1, by omega, h2, h3⟩)) (fun hno => twice_l0 l hl d (i + 1) (by omega) (fun a b h1 h2 h3 => ?_)) i 0 (by omega) (fun j hj => by omega)) (fun k => by rw [r08_Twice.l0, if_pos (by omega)]; rfl)
    by_cases e : b = i
    (subst e; exact hno ⟨a, h1, h3⟩); (exact hn a b h1 (by omega) h3)
theorem twice_ev (l : List Int) (hl : l.length ≤ 1000000) : Ev (fun k => r08_Twice.f k l) (twB [] l) := twice_l0 l hl l.length 0 (by omega) (fun a b h1 h2 => by omega)
theorem all_wf (l : List Int) (h : ∀ x ∈ l, (Lit.int .i64 x).wf = true) : l.all wfB = true := List.all_eq_true.2 h
theorem same2 : Ev (fun k => (lw_same.f k).bind fun t => (some t)) true := Ev.bind same_ev (Ev.pure true)
theorem pl_l1 (s : List Bool) (hs : s.length ≤ 1000000) : ∀ (d i : Nat), i + d = s.length → Ev (fun k => lw_MovesPlan.l1 k s s s.length i) true
  | 0, i, h => same2.step (fun k => by rw [lw_MovesPlan.l1, if_neg (by omega)])
  | d + 1, i, h => (pl_l1 s hs d (i + 1) (by omega)).step (fun k => by rw [lw_MovesPlan.l1, if_pos (by omega), if_pos (by omega), if_pos (by omega), if_pos (by omega), if_neg (by simp), w1 (by omega) (by omega)]; rfl)
theorem rdm36 (T : List (Int × Int)) (i : Nat) (h : i < T.length) : rd_T36 (T.map m36) (i : Int) = m36 T[i] := by
  unfold rd_T36; rw [List.getD_eq_getElem?_getD, Int.toNat_natCast, List.getElem?_map, List.getElem?_eq_getElem h]; rfl
theorem rdm37 (T : List (Int × Int)) (i : Nat) (h : i < T.length) : rd_T37 (T.map m37) (i : Int) = m37 T[i] := by
  unfold rd_T37; rw [List.getD_eq_getElem?_getD, Int.toNat_natCast, List.getElem?_map, List.getElem?_eq_getElem h]; rfl
theorem pl_l0 (T : List (Int × Int)) (hT : T.length ≤ 1000000) (s : List Bool) (hs : s.length ≤ 1000000) : ∀ (d i : Nat), i + d = T.length → Ev (fun k => lw_MovesPlan.l0 k (T.map m36) s (T.map m37) s (T.map m36).length i) true
  | 0, i, h => (pl_l1 s hs s.length 0 (by omega)).step (fun k => by rw [lw_MovesPlan.l0, if_neg (by rw [List.length_map]; omega)]; rfl)
  | d + 1, i, h => (pl_l0 T hT s hs d (i + 1) (by omega)).step (fun k => by
      rw [lw_MovesPlan.l0, if_pos (by rw [List.length_map]; omega), if_pos (by omega), if_pos (by rw [List.length_map]; omega), if_pos (by rw [List.length_map]; omega), rdm36 T i (by omega), rdm37 T i (by omega)]
      refine (if_pos (rfl : T[i].1 = T[i].1)).trans ((if_pos (rfl : T[i].2 = T[i].2)).trans ?_)
      rw [w1 (by omega) (by omega)]
      rfl)
theorem MovesPlan : ∀ (x0 : List Int), (x0.length * 8 ≤ 140737488351232 ∧ ∀ y ∈ x0, (Lit.int .i64 y).wf = true) → ∃ k, lw_MovesPlan.f k x0 = some true := by
  rintro l ⟨h2, h3⟩; refine Ev.ex (r := true) ?_; have hw := all_wf l h3; unfold lw_MovesPlan.f
  by_cases c1 : (l.length : Int) > 100
  (simp only [c1, ↓reduceIte]; exact same2); simp only [c1, ↓reduceIte]
  have hl : l.length ≤ 1000000 := by omega
  cases ht : twB [] l with
  | true =>
    have hp : Ev (fun k => moves_Plan.f k l) (([] : List S36), 10) := .all (fun k => by unfold moves_Plan.f; rw [check_no hl hw ht, Option.bind_some, if_neg (by decide)]); have hs : Ev (fun k => moves_Stay.f k l) [] := .all (fun k => by unfold moves_Stay.f; rw [check_no hl hw ht, Option.bind_some, if_neg (by decide)]); have hle : Ev (fun k => moves_Least.f k l) 0 := Ev.bind hs ((Ev.pure _).step (fun k => by rw [moves_Least.l0, if_neg (by simp)])); refine Ev.bind hp (Ev.bind hs (Ev.bind (twice_ev l hl) ?_)); rw [ht, check_no hl hw ht]; simp only [↓reduceIte, Option.bind_some, List.length_nil, Int.natCast_zero]; refine Ev.bind hle ?_; simp only [↓reduceIte]; exact same2
  | false =>
    refine Ev.bind (plan_ev l hl hw ht) (Ev.bind (stay_ev l hl hw ht) (Ev.bind (twice_ev l hl) ?_)); rw [ht, check_ok hl hw ht]; simp only [Bool.false_eq_true, ↓reduceIte]; refine Ev.bind (rplan_ev l hl) (Ev.bind (rstay_ev l hl) ?_); simp only [Option.bind_some, ↓reduceIte]
    have e : ((planP l).length : Int) = (((planT l l.length).map m37).length : Int) := by unfold planP; rw [List.length_map, List.length_map]
    simp only [e, ↓reduceIte]; refine Ev.bind (least_ev l hl hw ht) (Ev.bind (rleast_ev l hl) ?_); simp only [bne_self_eq_false]; have hb := stB_len l; have hT := planT_len l l.length; exact (pl_l0 (planT l l.length) (by omega) (stB l) (by omega) (planT l l.length).length 0 (by omega)).step (fun k => by rw [lw_MovesPlan.j0, if_neg (by decide)]; rfl)
end Go.Proofs.Ytconhodokldcbaa.Pure
