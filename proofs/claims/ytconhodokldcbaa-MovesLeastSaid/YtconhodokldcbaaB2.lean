/- What the claim LawMovesLeast rests on, part 2 of 4: the kit's words, the printed walks, the walks by hand, the plain laws. -/
import Derived.Test.YtconhodokldcbaaB0
import Derived.Test.YtconhodokldcbaaB1
namespace Go.Proofs.Ytconhodokldcbaa.G
open Go.RowKit Go.Proofs.YtconhodokldcbaaW.PrintWords Go.Proofs.YtconhodokldcbaaW.PrintLast Go.Proofs.YtconhodokldcbaaW.PrintMore
attribute [local go_sem] max2_int min2_int max_two min_two max_three min_three max_four min_four
set_option linter.unusedVariables false
set_option linter.unusedSimpArgs false
mutual
def lw_MovesPlan.j0 : Nat → List (S36) → List Bool → List (S37) → List Bool → Bool → Option (Bool)
 | 0, _, _, _, _, _ => none
 | k + 1, x3, x5, x6, x7, x79 => if x79 = true then (some false) else (lw_MovesPlan.l0 k x3 x5 x6 x7 (x3.length : Int) 0)
def lw_MovesPlan.l0 : Nat → List (S36) → List Bool → List (S37) → List Bool → Int → Int → Option (Bool)
 | 0, _, _, _, _, _, _ => none
 | k + 1, x3, x5, x6, x7, x81, x82 => if x82 < x81 then (if 0 ≤ x82 then (if x82 < (x3.length : Int) then (if x82 < (x6.length : Int) then (if ((rd_T36 x3 x82).f0) = ((rd_T37 x6 x82).f0) then (if ((rd_T36 x3 x82).f1) = ((rd_T37 x6 x82).f1) then (lw_MovesPlan.l0 k x3 x5 x6 x7 x81 (wrap64 (x82 + 1))) else (some false)) else (some false)) else (none)) else (none)) else (none)) else (lw_MovesPlan.l1 k x5 x7 (x5.length : Int) 0)
def lw_MovesPlan.l1 : Nat → List Bool → List Bool → Int → Int → Option (Bool)
 | 0, _, _, _, _ => none
 | k + 1, x5, x7, x111, x112 => if x112 < x111 then (if 0 ≤ x112 then (if x112 < (x5.length : Int) then (if x112 < (x7.length : Int) then (if ((rdOf false x5 x112) != (rdOf false x7 x112)) = true then (some false) else (lw_MovesPlan.l1 k x5 x7 x111 (wrap64 (x112 + 1)))) else (none)) else (none)) else (none)) else ((lw_same.f k).bind fun t230 => (some t230))
end
def lw_MovesPlan.f (k : Nat) (l0 : List Int) : Option (Bool) := if (l0.length : Int) > 100 then ((lw_same.f k).bind fun t203 => (some t203)) else ((moves_Plan.f k l0).bind fun bt204 => ((moves_Stay.f k l0).bind fun t208 => ((r08_Twice.f k l0).bind fun t211 => (if t211 = true then ((moves_Check.f l0).bind fun t212 => (if t212 = 10 then (if bt204.2 = 10 then (if (bt204.1.length : Int) = 0 then (if (t208.length : Int) = 0 then ((moves_Least.f k l0).bind fun t213 => (if t213 = 0 then ((lw_same.f k).bind fun t214 => (some t214)) else (some false))) else (some false)) else (some false)) else (some false)) else (some false))) else ((r08_Plan.f k l0).bind fun t215 => ((r08_Stay.f k l0).bind fun t218 => ((moves_Check.f l0).bind fun t221 => (if t221 = 0 then (if bt204.2 = 0 then (if (bt204.1.length : Int) = (t215.length : Int) then (if (t208.length : Int) = (t218.length : Int) then ((moves_Least.f k l0).bind fun t222 => ((r08_Least.f k l0).bind fun t223 => (lw_MovesPlan.j0 k bt204.1 t208 t215 t218 (t222 != t223)))) else (lw_MovesPlan.j0 k bt204.1 t208 t215 t218 true)) else (lw_MovesPlan.j0 k bt204.1 t208 t215 t218 true)) else (lw_MovesPlan.j0 k bt204.1 t208 t215 t218 true)) else (lw_MovesPlan.j0 k bt204.1 t208 t215 t218 true)))))))))
/-- THE ONE PURE STATEMENT of lw_MovesPlan: yours. -/
def lw_MovesPlan.Pure : Prop := ∀ (l0 : List Int), l0.length ≤ maxLen → l0.length * 8 ≤ 140737488351232 → (∀ x ∈ l0, (Lit.int .i64 x).wf = true) → ∃ k, lw_MovesPlan.f k l0 = some true
mutual
def lw_MovesLeast.j0 : Nat → List Int → List (S36) → Bool → Option (Bool)
 | 0, _, _, _ => none
 | k + 1, x0, x1, x26 => if x26 = true then ((lw_same.f k).bind fun t291 => (some t291)) else ((lw_run.f k x0 x1).bind fun bt292 => (if bt292.2 = true then ((lw_up.f k bt292.1 (x0.length : Int)).bind fun t296 => (lw_MovesLeast.j1 k x0 x1 (!t296))) else (lw_MovesLeast.j1 k x0 x1 true)))
def lw_MovesLeast.j1 : Nat → List Int → List (S36) → Bool → Option (Bool)
 | 0, _, _, _ => none
 | k + 1, x0, x1, x42 => if x42 = true then ((lw_same.f k).bind fun t297 => (some t297)) else (lw_MovesLeast.l0 k x0 x1 0 (x0.length : Int) 0)
def lw_MovesLeast.l0 : Nat → List Int → List (S36) → Int → Int → Int → Option (Bool)
 | 0, _, _, _, _, _ => none
 | k + 1, x0, x1, x7, x45, x46 => if x46 < x45 then (lw_MovesLeast.l1 k x0 x1 x7 x46 false x45 x46 (x1.length : Int) 0) else ((moves_Plan.f k x0).bind fun bt300 => (lw_MovesLeast.l2 k x0 x7 bt300.1 bt300.2 0 (bt300.1.length : Int) 0))
def lw_MovesLeast.l1 : Nat → List Int → List (S36) → Int → Int → Bool → Int → Int → Int → Int → Option (Bool)
 | 0, _, _, _, _, _, _, _, _, _ => none
 | k + 1, x0, x1, x7, x8, x9, x45, x46, x50, x51 => if x51 < x50 then (if x9 = true then (lw_MovesLeast.l1 k x0 x1 x7 x8 true x45 x46 x50 (wrap64 (x51 + 1))) else (if 0 ≤ x51 then (if x51 < (x1.length : Int) then (lw_MovesLeast.l1 k x0 x1 x7 x8 (((rd_T36 x1 x51).f0) == x8) x45 x46 x50 (wrap64 (x51 + 1))) else (none)) else (none))) else (if x9 = true then (if 0 ≤ x8 then (if x8 < (x0.length : Int) then (if (rd x0 x8) ≥ 0 then (lw_MovesLeast.l0 k x0 x1 (wrap64 (x7 + 1)) x45 (wrap64 (x46 + 1))) else (lw_MovesLeast.l0 k x0 x1 x7 x45 (wrap64 (x46 + 1)))) else (none)) else (none)) else (lw_MovesLeast.l0 k x0 x1 x7 x45 (wrap64 (x46 + 1))))
def lw_MovesLeast.l2 : Nat → List Int → Int → List (S36) → Int → Int → Int → Int → Option (Bool)
 | 0, _, _, _, _, _, _, _ => none
 | k + 1, x0, x7, x11, x12, x13, x82, x83 => if x83 < x82 then (if 0 ≤ x83 then (if x83 < (x11.length : Int) then (if ((rd_T36 x11 x83).f0) ≥ 0 then (if ((rd_T36 x11 x83).f0) < (x0.length : Int) then (if 0 ≤ ((rd_T36 x11 x83).f0) then (if (rd x0 ((rd_T36 x11 x83).f0)) ≥ 0 then (lw_MovesLeast.l2 k x0 x7 x11 x12 (wrap64 (x13 + 1)) x82 (wrap64 (x83 + 1))) else (lw_MovesLeast.l2 k x0 x7 x11 x12 x13 x82 (wrap64 (x83 + 1)))) else (none)) else (lw_MovesLeast.l2 k x0 x7 x11 x12 x13 x82 (wrap64 (x83 + 1)))) else (lw_MovesLeast.l2 k x0 x7 x11 x12 x13 x82 (wrap64 (x83 + 1)))) else (none)) else (none)) else (if x12 = 0 then ((moves_Least.f k x0).bind fun t308 => (if x7 ≥ t308 then ((moves_Least.f k x0).bind fun t309 => (if x13 = t309 then ((lw_same.f k).bind fun t310 => (some t310)) else (some false))) else (some false))) else (some false))
end
def lw_MovesLeast.f (k : Nat) (l0 : List Int) (l1 : List (S36)) : Option (Bool) := if (l0.length : Int) > 80 then (lw_MovesLeast.j0 k l0 l1 true) else (if (l1.length : Int) > 200 then (lw_MovesLeast.j0 k l0 l1 true) else ((r08_Twice.f k l0).bind fun t290 => (lw_MovesLeast.j0 k l0 l1 t290)))
set_option maxHeartbeats 8000000 in
set_option maxRecDepth 100000 in
theorem lw_MovesLeast.calls (k : Nat) (A0 : Option Addr) (c0 : Nat) (l0 : List Int) (A1 : Option Addr) (c1 : Nat) (l1 : List (S36)) (r : Bool) (w : World) (hr0 : Kd.C (Kd.int .i64) w A0 l0.length l0) (hc0 : l0.length ≤ c0) (hr1 : Kd.C k36 w A1 l1.length l1) (hc1 : l1.length ≤ c1) (h : (if r = true then lw_MovesLeast.f k l0 l1 else none) = some r) :
  Calls Try.prog 5 #[.slice A0 l0.length c0, .slice A1 l1.length c1] w fun e w' => e = .returned (.bool r) ∧ Below w.heap.size w w' := by
 split at h
 case isFalse => cases h
 rename_i hr_
 have HR_ := zk hr_
 clear hr_
 have HR0 := zk hr0
 have HC0 := zk hc0
 clear hr0 hc0
 have HR1 := zk hr1
 have HC1 := zk hc1
 clear hr1 hc1
 have HB := zk (Below.refl w.heap.size w)
 have H : (if (l0.length : Int) > 80 then (lw_MovesLeast.j0 k l0 l1 true) else (if (l1.length : Int) > 200 then (lw_MovesLeast.j0 k l0 l1 true) else ((r08_Twice.f k l0).bind fun t290 => (lw_MovesLeast.j0 k l0 l1 t290)))) = some r := h
 clear h
 have HC3 := zk H
 clear H
 go_enter Try.func5, Try.ntmps5
 go_upto_region 1 with (fail)
 go_cut [26] (fun v26 wc => ∃ (kq : Nat) (x26_2 : Bool), v26 = .bool x26_2 ∧ Aside0 (lw_MovesLeast.j0 kq l0 l1 x26_2 = some r) ∧ Aside0 (kq ≤ k) ∧ Aside0 (Below w.heap.size w wc))
 case first =>
  have H := HC3.out; clear HC3
  by_cases c4 : (l0.length : Int) > 80
  ·
   rw [if_pos c4] at H; have c4b0 : decide (80 < (l0.length : Int)) = true := decide_eq_true c4; have c4b1 : decide (80 < l0.length) = true := decide_eq_true (by omega); clear c4
   (first | rw [c4b0] | (simp only [i64_w, i32_w]; rw [c4b0]) | skip)
   have H' := zk H; clear H; go_wp2
   go_meet
   case rel => exact ⟨_, (true), (by first | rfl | (simp; done) | (simp [*]; done)), H', ⟨by first | omega | exact Nat.le_refl _⟩, ⟨by with_reducible repeat first | exact HB.out | apply zA | apply zN | apply zD⟩⟩
  ·
   rw [if_neg c4] at H; have c4b0 : decide (80 < (l0.length : Int)) = false := decide_eq_false c4; have c4b1 : decide (80 < l0.length) = false := decide_eq_false (by omega); clear c4
   (first | rw [c4b0] | (simp only [i64_w, i32_w]; rw [c4b0]) | skip)
   by_cases c5 : (l1.length : Int) > 200
   ·
    rw [if_pos c5] at H; have c5b0 : decide (200 < (l1.length : Int)) = true := decide_eq_true c5; have c5b1 : decide (200 < l1.length) = true := decide_eq_true (by omega); clear c5; have H' := zk H; clear H; go_wp2
    go_meet
    case rel => exact ⟨_, (true), (by first | rfl | (simp; done) | (simp [*]; done)), H', ⟨by first | omega | exact Nat.le_refl _⟩, ⟨by with_reducible repeat first | exact HB.out | apply zA | apply zN | apply zD⟩⟩
   ·
    rw [if_neg c5] at H; have c5b0 : decide (200 < (l1.length : Int)) = false := decide_eq_false c5; have c5b1 : decide (200 < l1.length) = false := decide_eq_false (by omega); clear c5; replace H := Option.bind_eq_some_iff.mp H; obtain ⟨t290, A60, H⟩ := H; replace H : (lw_MovesLeast.j0 k l0 l1 t290) = some r := H; have A6 := zk A60; clear A60; have H' := zk H; clear H
    go_wp2_with (first | (go_at_call 9; (with_reducible refine (r08_Twice.calls k _ _ l0 t290 _ ?side1 ?side2 A6.out).mono ?_); (case side1 => repeat (first | exact (Kd.C_below HR0.out HB.out) | (with_reducible refine Kd.C_alloc ?_ _) | (with_reducible refine Kd.C_drewN ?_ _) | (with_reducible refine Kd.C_drew ?_))); (case side2 => exact HC0.out); rintro e w' ⟨rfl, ⟨nd, rfl⟩⟩))
    go_meet
    case rel => exact ⟨_, (t290), (by first | rfl | (simp; done) | (simp [*]; done)), H', ⟨by first | omega | exact Nat.le_refl _⟩, ⟨by with_reducible repeat first | exact HB.out | apply zA | apply zN | apply zD⟩⟩
 case rest =>
  clear HC3; (try clear c1); (try clear p2); (try clear c4); (try clear c4b0); (try clear c4b1); (try clear c5); (try clear c5b0); (try clear c5b1); obtain ⟨kq, x26_2, rfl, HA, HJ2, HB⟩ := hcut
  cases kq with
  | zero => exact absurd HA.out (by simp [lw_MovesLeast.j0])
  | succ kj2 =>
   have H := HA.out; clear HA; simp only [lw_MovesLeast.j0] at H
   by_cases c7 : x26_2 = true
   ·
    subst c7
    have H1 : ((lw_same.f kj2).bind fun t291 => (some t291)) = some r := by rw [if_pos rfl] at H; exact H
    clear H; have H := H1; clear H1; replace H := Option.bind_eq_some_iff.mp H; obtain ⟨t291, A80, H⟩ := H; replace H : (some t291) = some r := H; have A8 := zk A80; clear A80; obtain rfl := Option.some.inj H
    go_wp2_with (first | ((with_reducible refine zgk (f := 6) rfl ?_); refine zgl (some 27) rfl rfl Try.func6 (by kernel_rfl) rfl #[] rfl (by (try simp only [List.map_toArray, List.map_cons, List.map_nil]); first | done | rfl | (simp only [List.length_drop, List.length_take]; rfl)) ?_; (with_reducible refine (lw_same.calls kj2  t291 _ A8.out).mono ?_); rintro e w9 ⟨rfl, hb⟩; refine ⟨_, rfl, ?_⟩; have n0_ := zk (zs (by with_reducible repeat first | exact HB.out | apply zA | apply zN | apply zD) hb); clear HB; have HB := n0_; clear n0_; (try clear hb); (try clear hb2); (try clear hk); (try clear hi)))
    go_ret; exact ⟨by first | rfl | (simp [wN, wS] <;> rfl) | (simp [*, wN, wS] <;> rfl), by with_reducible repeat first | exact HB.out | apply zA | apply zN | apply zD⟩
   ·
    replace c7 := Bool.eq_false_iff.mpr c7; subst c7
    have H1 : ((lw_run.f kj2 l0 l1).bind fun bt292 => (if bt292.2 = true then ((lw_up.f kj2 bt292.1 (l0.length : Int)).bind fun t296 => (lw_MovesLeast.j1 kj2 l0 l1 (!t296))) else (lw_MovesLeast.j1 kj2 l0 l1 true))) = some r := by rw [if_neg (show ¬ (false = true) by decide)] at H; exact H
    clear H; have H := H1; clear H1; replace H := Option.bind_eq_some_iff.mp H; obtain ⟨⟨t292, t293⟩, A100, H⟩ := H; replace H : (if t293 = true then ((lw_up.f kj2 t292 (l0.length : Int)).bind fun t296 => (lw_MovesLeast.j1 kj2 l0 l1 (!t296))) else (lw_MovesLeast.j1 kj2 l0 l1 true)) = some r := H; have A10 := zk A100; clear A100; have HC11 := zk H; clear H
    go_upto_region 4 with (first | ((with_reducible refine zgk (f := 16) rfl ?_); refine zgl (some 31) rfl rfl Try.func16 (by kernel_rfl) rfl #[.slice A0 l0.length c0, .slice A1 l1.length c1] rfl (by (try simp only [List.map_toArray, List.map_cons, List.map_nil]); first | done | rfl | (simp only [List.length_drop, List.length_take]; rfl)) ?_; (with_reducible refine (lw_run.calls kj2 _ _ l0 _ _ l1 t292 t293 _ ?side1 ?side2 ?side3 ?side4 A10.out).mono ?_); (case side1 => repeat (first | exact (Kd.C_below HR0.out HB.out) | (with_reducible refine Kd.C_alloc ?_ _) | (with_reducible refine Kd.C_drewN ?_ _) | (with_reducible refine Kd.C_drew ?_))); (case side2 => exact HC0.out); (case side3 => repeat (first | exact (Kd.C_below HR1.out HB.out) | (with_reducible refine Kd.C_alloc ?_ _) | (with_reducible refine Kd.C_drewN ?_ _) | (with_reducible refine Kd.C_drew ?_))); (case side4 => exact HC1.out); rintro e w12 ⟨v294, rfl, ho0, hb⟩; refine ⟨_, rfl, ?_⟩; have n0_ := zk (Kd.R_lower ho0 (zq (by with_reducible repeat first | exact HB.out | apply zA | apply zN | apply zD))); have n1_ := zk (zs (by with_reducible repeat first | exact HB.out | apply zA | apply zN | apply zD) hb); clear HB; have HO295 := n0_; have HB := n1_; clear n0_ n1_; (try clear hb); (try clear hb2); (try clear hk); (try clear hi); (try clear ho0)))
    (try simp only [Act.put, List.setIfInBounds_toArray, List.set_cons_zero, List.set_cons_succ])
    go_cut [42] (fun v42 wc => ∃ (kq : Nat) (x42_10 : Bool), v42 = .bool x42_10 ∧ Aside0 (lw_MovesLeast.j1 kq l0 l1 x42_10 = some r) ∧ Aside0 (kq ≤ kj2) ∧ Aside0 (Below w.heap.size w wc))
    case first =>
     have H := HC11.out; clear HC11
     by_cases c13 : t293 = true
     ·
      subst c13
      have H1 : ((lw_up.f kj2 t292 (l0.length : Int)).bind fun t296 => (lw_MovesLeast.j1 kj2 l0 l1 (!t296))) = some r := by rw [if_pos rfl] at H; exact H
      clear H; have H := H1; clear H1; replace H := Option.bind_eq_some_iff.mp H; obtain ⟨t296, A140, H⟩ := H; replace H : (lw_MovesLeast.j1 kj2 l0 l1 (!t296)) = some r := H; have A14 := zk A140; clear A140; have H' := zk H; clear H; obtain ⟨Ao15, co15, eo15⟩ := Kd.R_slice HO295.out; subst eo15
      go_wp2_with (first | (go_at_call 18; (with_reducible refine (lw_up.calls kj2 _ _ t292 (l0.length : Int) t296 _ ?side1 ?side2 A14.out).mono ?_); (case side1 => repeat (first | exact (Kd.R_reads' HO295.out).2.2 | (with_reducible refine Kd.C_alloc ?_ _) | (with_reducible refine Kd.C_drewN ?_ _) | (with_reducible refine Kd.C_drew ?_))); (case side2 => exact (Kd.R_reads' HO295.out).2.1); rintro e w' ⟨rfl, ⟨nd, rfl⟩⟩))
      go_meet
      case rel => exact ⟨_, (!t296), (by first | rfl | (simp; done) | (simp [*]; done)), H', ⟨by have := HJ2.out; first | omega | exact Nat.le_refl _⟩, ⟨by with_reducible repeat first | exact HB.out | apply zA | apply zN | apply zD⟩⟩
     ·
      replace c13 := Bool.eq_false_iff.mpr c13; subst c13
      have H1 : (lw_MovesLeast.j1 kj2 l0 l1 true) = some r := by rw [if_neg (show ¬ (false = true) by decide)] at H; exact H
      clear H; have H := H1; clear H1; have H' := zk H; clear H; go_wp2
      go_meet
      case rel => exact ⟨_, (true), (by first | rfl | (simp; done) | (simp [*]; done)), H', ⟨by have := HJ2.out; first | omega | exact Nat.le_refl _⟩, ⟨by with_reducible repeat first | exact HB.out | apply zA | apply zN | apply zD⟩⟩
    case rest =>
     clear HC11; (try clear c1); (try clear p2); (try clear c4); (try clear c4b0); (try clear c4b1); (try clear c5); (try clear c5b0); (try clear c5b1); (try clear c6); (try clear c7); (try clear c13); (try clear p2); obtain ⟨kq, x42_10, rfl, HA, HJ10, HB⟩ := hcut
     cases kq with
     | zero => exact absurd HA.out (by simp [lw_MovesLeast.j1])
     | succ kj10 =>
      have H := HA.out; clear HA; simp only [lw_MovesLeast.j1] at H
      by_cases c16 : x42_10 = true
      ·
       subst c16
       have H1 : ((lw_same.f kj10).bind fun t297 => (some t297)) = some r := by rw [if_pos rfl] at H; exact H
       clear H; have H := H1; clear H1; replace H := Option.bind_eq_some_iff.mp H; obtain ⟨t297, A170, H⟩ := H; replace H : (some t297) = some r := H; have A17 := zk A170; clear A170; obtain rfl := Option.some.inj H
       go_wp2_with (first | ((with_reducible refine zgk (f := 6) rfl ?_); refine zgl (some 43) rfl rfl Try.func6 (by kernel_rfl) rfl #[] rfl (by (try simp only [List.map_toArray, List.map_cons, List.map_nil]); first | done | rfl | (simp only [List.length_drop, List.length_take]; rfl)) ?_; (with_reducible refine (lw_same.calls kj10  t297 _ A17.out).mono ?_); rintro e w18 ⟨rfl, hb⟩; refine ⟨_, rfl, ?_⟩; have n0_ := zk (zs (by with_reducible repeat first | exact HB.out | apply zA | apply zN | apply zD) hb); clear HB; have HB := n0_; clear n0_; (try clear hb); (try clear hb2); (try clear hk); (try clear hi)))
       go_ret; exact ⟨by first | rfl | (simp [wN, wS] <;> rfl) | (simp [*, wN, wS] <;> rfl), by with_reducible repeat first | exact HB.out | apply zA | apply zN | apply zD⟩
      ·
       replace c16 := Bool.eq_false_iff.mpr c16; subst c16
       have H1 : (lw_MovesLeast.l0 kj10 l0 l1 0 (l0.length : Int) 0) = some r := by rw [if_neg (show ¬ (false = true) by decide)] at H; exact H
       clear H; have H := H1; clear H1; have H' := zk H; clear H; go_wp2
       go_loopg [7, 46] kj10 (fun kq v7 v46 w' => ∃ (x7_3 : Int) (x46_3 : Int), v7 = .int .i64 x7_3 ∧ v46 = .int .i64 x46_3 ∧ Aside0 (lw_MovesLeast.l0 kq l0 l1 x7_3 (l0.length : Int) x46_3 = some r) ∧ Aside0 (kq ≤ kj10) ∧ Aside0 (Below w.heap.size w w'))
       case atStart => exact ⟨(0), (0), (by first | rfl | (simp; done) | (simp [*]; done)), (by first | rfl | (simp; done) | (simp [*]; done)), H', ⟨Nat.le_refl _⟩, ⟨by with_reducible repeat first | exact HB.out | apply zA | apply zN | apply zD⟩⟩
       case round =>
        clear H'; (try clear c1); (try clear p2); (try clear c4); (try clear c4b0); (try clear c4b1); (try clear c5); (try clear c5b0); (try clear c5b1); (try clear c6); (try clear c7); (try clear c13); (try clear c16); (try clear p2); obtain ⟨x7_3, x46_3, rfl, rfl, HA, HK3, HB⟩ := hrel
        cases gk with
        | zero => exact absurd HA.out (by simp [lw_MovesLeast.l0])
        | succ k3 =>
         have H := HA.out; clear HA; simp only [lw_MovesLeast.l0] at H
         by_cases c19 : x46_3 < (l0.length : Int)
         ·
          rw [if_pos c19] at H; have c19b0 := decide_eq_true c19; clear c19; have H' := zk H; clear H; go_wp2
          go_loopg [9, 51] k3 (fun kq v9 v51 w' => ∃ (x9_4 : Bool) (x51_4 : Int), v9 = .bool x9_4 ∧ v51 = .int .i64 x51_4 ∧ Aside0 (lw_MovesLeast.l1 kq l0 l1 x7_3 x46_3 x9_4 (l0.length : Int) x46_3 (l1.length : Int) x51_4 = some r) ∧ Aside0 (kq ≤ k3) ∧ Aside0 (Below w.heap.size w w'))
          case atStart => exact ⟨(false), (0), (by first | rfl | (simp; done) | (simp [*]; done)), (by first | rfl | (simp; done) | (simp [*]; done)), H', ⟨Nat.le_refl _⟩, ⟨by with_reducible repeat first | exact HB.out | apply zA | apply zN | apply zD⟩⟩
          case round =>
           clear H'; (try clear c1); (try clear p2); (try clear c4); (try clear c4b0); (try clear c4b1); (try clear c5); (try clear c5b0); (try clear c5b1); (try clear c6); (try clear c7); (try clear c13); (try clear c16); (try clear c19); (try clear c19b0); (try clear p2); obtain ⟨x9_4, x51_4, rfl, rfl, HA, HK4, HB⟩ := hrel
           cases gk with
           | zero => exact absurd HA.out (by simp [lw_MovesLeast.l1])
           | succ k4 =>
            have H := HA.out; clear HA; simp only [lw_MovesLeast.l1] at H
            by_cases c20 : x51_4 < (l1.length : Int)
            ·
             rw [if_pos c20] at H; have c20b0 := decide_eq_true c20; clear c20
             by_cases c21 : x9_4 = true
             ·
              subst c21
              have H1 : (lw_MovesLeast.l1 k4 l0 l1 x7_3 x46_3 true (l0.length : Int) x46_3 (l1.length : Int) (wrap64 (x51_4 + 1))) = some r := by rw [if_pos rfl] at H; exact H
              clear H; have H := H1; clear H1; have H' := zk H; clear H; go_wp2
              go_roundg k4
              case measure => have := HJ2.out; have := HJ10.out; have := HK3.out; have := HK4.out; omega
              case rel => exact ⟨(true), (wrap64 (x51_4 + 1)), (by first | rfl | (simp; done) | (simp [*]; done)), (by first | rfl | (simp; done) | (simp [*]; done)), H', ⟨by have := HJ2.out; have := HJ10.out; have := HK3.out; have := HK4.out; omega⟩, ⟨by with_reducible repeat first | exact HB.out | apply zA | apply zN | apply zD⟩⟩
             ·
              replace c21 := Bool.eq_false_iff.mpr c21; subst c21
              have H1 : (if 0 ≤ x51_4 then (if x51_4 < (l1.length : Int) then (lw_MovesLeast.l1 k4 l0 l1 x7_3 x46_3 (((rd_T36 l1 x51_4).f0) == x46_3) (l0.length : Int) x46_3 (l1.length : Int) (wrap64 (x51_4 + 1))) else (none)) else (none)) = some r := by rw [if_neg (show ¬ (false = true) by decide)] at H; exact H
              clear H; have H := H1; clear H1
              by_cases c22 : 0 ≤ x51_4
              ·
               rw [if_pos c22] at H; have c22b0 := decide_eq_true c22; clear c22
               by_cases c23 : x51_4 < (l1.length : Int)
               ·
                rw [if_pos c23] at H; have c23b0 := decide_eq_true c23; clear c23; have H' := zk H; clear H; have p298 : 0 ≤ (x51_4 : Int) := zo (by assumption); have q298 : x51_4 < (l1.length : Int) := zo (by assumption); obtain ⟨ad298, e298, hx298_0, hx298_1⟩ := at_T36 HR1.out x51_4 p298 q298; cases e298; replace hx298_0 := zB HB hx298_0; replace hx298_1 := zB HB hx298_1; replace p298 := eq_true p298; replace q298 := eq_true q298; go_wp2
                go_roundg k4
                case measure => have := HJ2.out; have := HJ10.out; have := HK3.out; have := HK4.out; omega
                case rel => exact ⟨((((rd_T36 l1 x51_4).f0) == x46_3)), (wrap64 (x51_4 + 1)), (by first | rfl | (simp; done) | (simp [*]; done)), (by first | rfl | (simp; done) | (simp [*]; done)), H', ⟨by have := HJ2.out; have := HJ10.out; have := HK3.out; have := HK4.out; omega⟩, ⟨by with_reducible repeat first | exact HB.out | apply zA | apply zN | apply zD⟩⟩
               ·
                rw [if_neg c23] at H; exact absurd H (by simp)
              ·
               rw [if_neg c22] at H; exact absurd H (by simp)
            ·
             rw [if_neg c20] at H; have c20b0 := decide_eq_false c20; clear c20
             by_cases c24 : x9_4 = true
             ·
              subst c24
              have H1 : (if 0 ≤ x46_3 then (if x46_3 < (l0.length : Int) then (if (rd l0 x46_3) ≥ 0 then (lw_MovesLeast.l0 k4 l0 l1 (wrap64 (x7_3 + 1)) (l0.length : Int) (wrap64 (x46_3 + 1))) else (lw_MovesLeast.l0 k4 l0 l1 x7_3 (l0.length : Int) (wrap64 (x46_3 + 1)))) else (none)) else (none)) = some r := by rw [if_pos rfl] at H; exact H
              clear H; have H := H1; clear H1
              by_cases c25 : 0 ≤ x46_3
              ·
               rw [if_pos c25] at H; have c25b0 := decide_eq_true c25; clear c25
               by_cases c26 : x46_3 < (l0.length : Int)
               ·
                rw [if_pos c26] at H; have c26b0 := decide_eq_true c26; clear c26
                by_cases c27 : (rd l0 x46_3) ≥ 0
                ·
                 rw [if_pos c27] at H; have c27b0 : decide (0 ≤ (rd l0 x46_3)) = true := decide_eq_true c27; clear c27; have H' := zk H; clear H; have p299 : 0 ≤ (x46_3 : Int) := zo (by assumption); have q299 : x46_3 < (l0.length : Int) := zo (by assumption); obtain ⟨ad299, e299, hx299_0⟩ := Kd.at_int HR0.out x46_3 p299 q299; cases e299; replace hx299_0 := zB HB hx299_0; replace p299 := eq_true p299; replace q299 := eq_true q299; go_wp2
                 go_roundg k4
                 case measure => have := HJ2.out; have := HJ10.out; have := HK3.out; have := HK4.out; omega
                 case rel => exact ⟨(wrap64 (x7_3 + 1)), (wrap64 (x46_3 + 1)), (by first | rfl | (simp; done) | (simp [*]; done)), (by first | rfl | (simp; done) | (simp [*]; done)), H', ⟨by have := HJ2.out; have := HJ10.out; have := HK3.out; have := HK4.out; omega⟩, ⟨by with_reducible repeat first | exact HB.out | apply zA | apply zN | apply zD⟩⟩
                ·
                 rw [if_neg c27] at H; have c27b0 : decide (0 ≤ (rd l0 x46_3)) = false := decide_eq_false c27; clear c27; have H' := zk H; clear H; have p299 : 0 ≤ (x46_3 : Int) := zo (by assumption); have q299 : x46_3 < (l0.length : Int) := zo (by assumption); obtain ⟨ad299, e299, hx299_0⟩ := Kd.at_int HR0.out x46_3 p299 q299; cases e299; replace hx299_0 := zB HB hx299_0; replace p299 := eq_true p299; replace q299 := eq_true q299; go_wp2
                 go_roundg k4
                 case measure => have := HJ2.out; have := HJ10.out; have := HK3.out; have := HK4.out; omega
                 case rel => exact ⟨(x7_3), (wrap64 (x46_3 + 1)), (by first | rfl | (simp; done) | (simp [*]; done)), (by first | rfl | (simp; done) | (simp [*]; done)), H', ⟨by have := HJ2.out; have := HJ10.out; have := HK3.out; have := HK4.out; omega⟩, ⟨by with_reducible repeat first | exact HB.out | apply zA | apply zN | apply zD⟩⟩
               ·
                rw [if_neg c26] at H; exact absurd H (by simp)
              ·
               rw [if_neg c25] at H; exact absurd H (by simp)
             ·
              replace c24 := Bool.eq_false_iff.mpr c24; subst c24
              have H1 : (lw_MovesLeast.l0 k4 l0 l1 x7_3 (l0.length : Int) (wrap64 (x46_3 + 1))) = some r := by rw [if_neg (show ¬ (false = true) by decide)] at H; exact H
              clear H; have H := H1; clear H1; have H' := zk H; clear H; go_wp2
              go_roundg k4
              case measure => have := HJ2.out; have := HJ10.out; have := HK3.out; have := HK4.out; omega
              case rel => exact ⟨(x7_3), (wrap64 (x46_3 + 1)), (by first | rfl | (simp; done) | (simp [*]; done)), (by first | rfl | (simp; done) | (simp [*]; done)), H', ⟨by have := HJ2.out; have := HJ10.out; have := HK3.out; have := HK4.out; omega⟩, ⟨by with_reducible repeat first | exact HB.out | apply zA | apply zN | apply zD⟩⟩
         ·
          rw [if_neg c19] at H; have c19b0 := decide_eq_false c19; clear c19; replace H := Option.bind_eq_some_iff.mp H; obtain ⟨⟨t300, t301⟩, A280, H⟩ := H; replace H : (lw_MovesLeast.l2 k3 l0 x7_3 t300 t301 0 (t300.length : Int) 0) = some r := H; have A28 := zk A280; clear A280; have H' := zk H; clear H
          go_wp2_with (first | ((with_reducible refine zgk (f := 7) rfl ?_); refine zgl (some 78) rfl rfl Try.func7 (by kernel_rfl) rfl #[.slice A0 l0.length c0] rfl (by (try simp only [List.map_toArray, List.map_cons, List.map_nil]); first | done | rfl | (simp only [List.length_drop, List.length_take]; rfl)) ?_; (with_reducible refine (moves_Plan.calls k3 _ _ l0 t300 t301 _ ?side1 ?side2 A28.out).mono ?_); (case side1 => repeat (first | exact (Kd.C_below HR0.out HB.out) | (with_reducible refine Kd.C_alloc ?_ _) | (with_reducible refine Kd.C_drewN ?_ _) | (with_reducible refine Kd.C_drew ?_))); (case side2 => exact HC0.out); rintro e w29 ⟨v302, rfl, ho0, hb⟩; refine ⟨_, rfl, ?_⟩; have n0_ := zk (Kd.R_lower ho0 (zq (by with_reducible repeat first | exact HB.out | apply zA | apply zN | apply zD))); have n1_ := zk (zs (by with_reducible repeat first | exact HB.out | apply zA | apply zN | apply zD) hb); clear HB; have HO303 := n0_; have HB := n1_; clear n0_ n1_; (try clear hb); (try clear hb2); (try clear hk); (try clear hi); (try clear ho0); obtain ⟨Ao30, co30, eo30⟩ := Kd.R_slice HO303.out; subst eo30))
          go_loopg [13, 83] k3 (fun kq v13 v83 w' => ∃ (x13_4 : Int) (x83_4 : Int), v13 = .int .i64 x13_4 ∧ v83 = .int .i64 x83_4 ∧ Aside0 (lw_MovesLeast.l2 kq l0 x7_3 t300 t301 x13_4 (t300.length : Int) x83_4 = some r) ∧ Aside0 (kq ≤ k3) ∧ Aside0 (Kd.R k36 36 w' w.heap.size (fun _ => True) (.slice Ao30 t300.length co30) t300) ∧ Aside0 (Below w.heap.size w w'))
          case atStart => exact ⟨(0), (0), (by first | rfl | (simp; done) | (simp [*]; done)), (by first | rfl | (simp; done) | (simp [*]; done)), H', ⟨Nat.le_refl _⟩, ⟨by (with_reducible repeat (first | apply Kd.R_alloc | apply Kd.R_drewN | apply Kd.R_drew)); exact HO303.out⟩, ⟨by with_reducible repeat first | exact HB.out | apply zA | apply zN | apply zD⟩⟩
          case round =>
           clear H'; (try clear c1); (try clear c2); (try clear p2); (try clear q2); (try clear hx2); (try clear c4); (try clear c4b0); (try clear c4b1); (try clear c5); (try clear c5b0); (try clear c5b1); (try clear c6); (try clear p6); (try clear c7); (try clear c13); (try clear c16); (try clear c19); (try clear c19b0); (try clear c20); (try clear c20b0); (try clear c21); (try clear c22); (try clear c22b0); (try clear c23); (try clear c23b0); (try clear c24); (try clear c25); (try clear c25b0); (try clear c26); (try clear c26b0); (try clear c27); (try clear c27b0); (try clear p29); (try clear q29); (try clear hx29); (try clear hx298_0); (try clear hx298_1); (try clear hx299_0); (try clear p2); (try clear p298); (try clear p299); (try clear q298); (try clear q299); obtain ⟨x13_4, x83_4, rfl, rfl, HA, HK4, HO_11, HB⟩ := hrel
           cases gk with
           | zero => exact absurd HA.out (by simp [lw_MovesLeast.l2])
           | succ k4 =>
            have H := HA.out; clear HA; simp only [lw_MovesLeast.l2] at H
            by_cases c31 : x83_4 < (t300.length : Int)
            ·
             rw [if_pos c31] at H; have c31b0 := decide_eq_true c31; clear c31
             by_cases c32 : 0 ≤ x83_4
             ·
              rw [if_pos c32] at H; have c32b0 := decide_eq_true c32; clear c32
              by_cases c33 : x83_4 < (t300.length : Int)
              ·
               rw [if_pos c33] at H; have c33b0 := decide_eq_true c33; clear c33
               by_cases c34 : ((rd_T36 t300 x83_4).f0) ≥ 0
               ·
                rw [if_pos c34] at H; have c34b0 : decide (0 ≤ ((rd_T36 t300 x83_4).f0)) = true := decide_eq_true c34; clear c34
                by_cases c35 : ((rd_T36 t300 x83_4).f0) < (l0.length : Int)
                ·
                 rw [if_pos c35] at H; have c35b0 := decide_eq_true c35; clear c35
                 by_cases c36 : 0 ≤ ((rd_T36 t300 x83_4).f0)
                 ·
                  rw [if_pos c36] at H; have c36b0 := decide_eq_true c36; clear c36
                  by_cases c37 : (rd l0 ((rd_T36 t300 x83_4).f0)) ≥ 0
                  ·
                   rw [if_pos c37] at H; have c37b0 : decide (0 ≤ (rd l0 ((rd_T36 t300 x83_4).f0))) = true := decide_eq_true c37; clear c37; have H' := zk H; clear H; have p304 : 0 ≤ (x83_4 : Int) := zo (by assumption); have q304 : x83_4 < (t300.length : Int) := zo (by assumption); obtain ⟨ad304, e304, hx304_0, hx304_1⟩ := at_T36 (Kd.R_reads' HO_11.out).2.2 x83_4 p304 q304; cases e304; replace p304 := eq_true p304; replace q304 := eq_true q304; have p305 : 0 ≤ (x83_4 : Int) := zo (by assumption); have q305 : x83_4 < (t300.length : Int) := zo (by assumption); obtain ⟨ad305, e305, hx305_0, hx305_1⟩ := at_T36 (Kd.R_reads' HO_11.out).2.2 x83_4 p305 q305; obtain rfl : ad304 = ad305 := (by injection e305); replace p305 := eq_true p305; replace q305 := eq_true q305; have p306 : 0 ≤ (x83_4 : Int) := zo (by assumption); have q306 : x83_4 < (t300.length : Int) := zo (by assumption); obtain ⟨ad306, e306, hx306_0, hx306_1⟩ := at_T36 (Kd.R_reads' HO_11.out).2.2 x83_4 p306 q306; obtain rfl : ad304 = ad306 := (by injection e306); replace p306 := eq_true p306; replace q306 := eq_true q306; have p307 : 0 ≤ (((rd_T36 t300 x83_4).f0) : Int) := zo (by assumption); have q307 : ((rd_T36 t300 x83_4).f0) < (l0.length : Int) := zo (by assumption); obtain ⟨ad307, e307, hx307_0⟩ := Kd.at_int HR0.out ((rd_T36 t300 x83_4).f0) p307 q307; cases e307; replace hx307_0 := zB HB hx307_0; replace p307 := eq_true p307; replace q307 := eq_true q307; go_wp2
                   go_roundg k4
                   case measure => have := HJ2.out; have := HJ10.out; have := HK3.out; have := HK4.out; omega
                   case rel => exact ⟨(wrap64 (x13_4 + 1)), (wrap64 (x83_4 + 1)), (by first | rfl | (simp; done) | (simp [*]; done)), (by first | rfl | (simp; done) | (simp [*]; done)), H', ⟨by have := HJ2.out; have := HJ10.out; have := HK3.out; have := HK4.out; omega⟩, ⟨by (with_reducible repeat (first | apply Kd.R_alloc | apply Kd.R_drewN | apply Kd.R_drew)); exact HO_11.out⟩, ⟨by with_reducible repeat first | exact HB.out | apply zA | apply zN | apply zD⟩⟩
                  ·
                   rw [if_neg c37] at H; have c37b0 : decide (0 ≤ (rd l0 ((rd_T36 t300 x83_4).f0))) = false := decide_eq_false c37; clear c37; have H' := zk H; clear H; have p304 : 0 ≤ (x83_4 : Int) := zo (by assumption); have q304 : x83_4 < (t300.length : Int) := zo (by assumption); obtain ⟨ad304, e304, hx304_0, hx304_1⟩ := at_T36 (Kd.R_reads' HO_11.out).2.2 x83_4 p304 q304; cases e304; replace p304 := eq_true p304; replace q304 := eq_true q304; have p305 : 0 ≤ (x83_4 : Int) := zo (by assumption); have q305 : x83_4 < (t300.length : Int) := zo (by assumption); obtain ⟨ad305, e305, hx305_0, hx305_1⟩ := at_T36 (Kd.R_reads' HO_11.out).2.2 x83_4 p305 q305; obtain rfl : ad304 = ad305 := (by injection e305); replace p305 := eq_true p305; replace q305 := eq_true q305; have p306 : 0 ≤ (x83_4 : Int) := zo (by assumption); have q306 : x83_4 < (t300.length : Int) := zo (by assumption); obtain ⟨ad306, e306, hx306_0, hx306_1⟩ := at_T36 (Kd.R_reads' HO_11.out).2.2 x83_4 p306 q306; obtain rfl : ad304 = ad306 := (by injection e306); replace p306 := eq_true p306; replace q306 := eq_true q306; have p307 : 0 ≤ (((rd_T36 t300 x83_4).f0) : Int) := zo (by assumption); have q307 : ((rd_T36 t300 x83_4).f0) < (l0.length : Int) := zo (by assumption); obtain ⟨ad307, e307, hx307_0⟩ := Kd.at_int HR0.out ((rd_T36 t300 x83_4).f0) p307 q307; cases e307; replace hx307_0 := zB HB hx307_0; replace p307 := eq_true p307; replace q307 := eq_true q307; go_wp2
                   go_roundg k4
                   case measure => have := HJ2.out; have := HJ10.out; have := HK3.out; have := HK4.out; omega
                   case rel => exact ⟨(x13_4), (wrap64 (x83_4 + 1)), (by first | rfl | (simp; done) | (simp [*]; done)), (by first | rfl | (simp; done) | (simp [*]; done)), H', ⟨by have := HJ2.out; have := HJ10.out; have := HK3.out; have := HK4.out; omega⟩, ⟨by (with_reducible repeat (first | apply Kd.R_alloc | apply Kd.R_drewN | apply Kd.R_drew)); exact HO_11.out⟩, ⟨by with_reducible repeat first | exact HB.out | apply zA | apply zN | apply zD⟩⟩
                 ·
                  rw [if_neg c36] at H; exact absurd H (by simp)
                ·
                 rw [if_neg c35] at H; have c35b0 := decide_eq_false c35; clear c35; have H' := zk H; clear H; have p304 : 0 ≤ (x83_4 : Int) := zo (by assumption); have q304 : x83_4 < (t300.length : Int) := zo (by assumption); obtain ⟨ad304, e304, hx304_0, hx304_1⟩ := at_T36 (Kd.R_reads' HO_11.out).2.2 x83_4 p304 q304; cases e304; replace p304 := eq_true p304; replace q304 := eq_true q304; have p305 : 0 ≤ (x83_4 : Int) := zo (by assumption); have q305 : x83_4 < (t300.length : Int) := zo (by assumption); obtain ⟨ad305, e305, hx305_0, hx305_1⟩ := at_T36 (Kd.R_reads' HO_11.out).2.2 x83_4 p305 q305; obtain rfl : ad304 = ad305 := (by injection e305); replace p305 := eq_true p305; replace q305 := eq_true q305; go_wp2
                 go_roundg k4
                 case measure => have := HJ2.out; have := HJ10.out; have := HK3.out; have := HK4.out; omega
                 case rel => exact ⟨(x13_4), (wrap64 (x83_4 + 1)), (by first | rfl | (simp; done) | (simp [*]; done)), (by first | rfl | (simp; done) | (simp [*]; done)), H', ⟨by have := HJ2.out; have := HJ10.out; have := HK3.out; have := HK4.out; omega⟩, ⟨by (with_reducible repeat (first | apply Kd.R_alloc | apply Kd.R_drewN | apply Kd.R_drew)); exact HO_11.out⟩, ⟨by with_reducible repeat first | exact HB.out | apply zA | apply zN | apply zD⟩⟩
               ·
                rw [if_neg c34] at H; have c34b0 : decide (0 ≤ ((rd_T36 t300 x83_4).f0)) = false := decide_eq_false c34; clear c34; have H' := zk H; clear H; have p304 : 0 ≤ (x83_4 : Int) := zo (by assumption); have q304 : x83_4 < (t300.length : Int) := zo (by assumption); obtain ⟨ad304, e304, hx304_0, hx304_1⟩ := at_T36 (Kd.R_reads' HO_11.out).2.2 x83_4 p304 q304; cases e304; replace p304 := eq_true p304; replace q304 := eq_true q304; go_wp2
                go_roundg k4
                case measure => have := HJ2.out; have := HJ10.out; have := HK3.out; have := HK4.out; omega
                case rel => exact ⟨(x13_4), (wrap64 (x83_4 + 1)), (by first | rfl | (simp; done) | (simp [*]; done)), (by first | rfl | (simp; done) | (simp [*]; done)), H', ⟨by have := HJ2.out; have := HJ10.out; have := HK3.out; have := HK4.out; omega⟩, ⟨by (with_reducible repeat (first | apply Kd.R_alloc | apply Kd.R_drewN | apply Kd.R_drew)); exact HO_11.out⟩, ⟨by with_reducible repeat first | exact HB.out | apply zA | apply zN | apply zD⟩⟩
              ·
               rw [if_neg c33] at H; exact absurd H (by simp)
             ·
              rw [if_neg c32] at H; exact absurd H (by simp)
            ·
             rw [if_neg c31] at H; have c31b0 := decide_eq_false c31; clear c31
             by_cases c38 : t301 = 0
             ·
              rw [if_pos c38] at H; have c38b0 := beq_iff_eq.mpr c38; have c38b1 := bne_eq_false_iff_eq.mpr c38; clear c38; replace H := Option.bind_eq_some_iff.mp H; obtain ⟨t308, A390, H⟩ := H; replace H : (if x7_3 ≥ t308 then ((moves_Least.f k4 l0).bind fun t309 => (if x13_4 = t309 then ((lw_same.f k4).bind fun t310 => (some t310)) else (some false))) else (some false)) = some r := H; have A39 := zk A390; clear A390
              by_cases c40 : x7_3 ≥ t308
              ·
               rw [if_pos c40] at H; have c40b0 : decide (t308 ≤ x7_3) = true := decide_eq_true c40; clear c40; replace H := Option.bind_eq_some_iff.mp H; obtain ⟨t309, A410, H⟩ := H; replace H : (if x13_4 = t309 then ((lw_same.f k4).bind fun t310 => (some t310)) else (some false)) = some r := H; have A41 := zk A410; clear A410
               by_cases c42 : x13_4 = t309
               ·
                rw [if_pos c42] at H; have c42b2 : (x13_4 == t308) = true := beq_iff_eq.mpr (c42.trans (Option.some.inj (A41.out.symm.trans A39.out))); have c42b0 := beq_iff_eq.mpr c42; have c42b1 := bne_eq_false_iff_eq.mpr c42; clear c42; replace H := Option.bind_eq_some_iff.mp H; obtain ⟨t310, A430, H⟩ := H; replace H : (some t310) = some r := H; have A43 := zk A430; clear A430; obtain rfl := Option.some.inj H
                go_wp2_with (first | (go_at_call 11; (with_reducible refine (moves_Least.calls k4 _ _ l0 t308 _ ?side1 ?side2 A39.out).mono ?_); (case side1 => repeat (first | exact (Kd.C_below HR0.out HB.out) | (with_reducible refine Kd.C_alloc ?_ _) | (with_reducible refine Kd.C_drewN ?_ _) | (with_reducible refine Kd.C_drew ?_))); (case side2 => exact HC0.out); rintro e w44 ⟨rfl, hb⟩; have n0_ := zk (Kd.R_below (by (with_reducible repeat (first | apply Kd.R_alloc | apply Kd.R_drewN | apply Kd.R_drew)); exact HO_11.out) hb); have n1_ := zk (zs (by with_reducible repeat first | exact HB.out | apply zA | apply zN | apply zD) hb); clear HO_11; clear HB; have HO_11 := n0_; have HB := n1_; clear n0_ n1_; (try clear hb); (try clear hb2); (try clear hk); (try clear hi)) | (go_at_call 11; (with_reducible refine (moves_Least.calls k4 _ _ l0 t309 _ ?side1 ?side2 A41.out).mono ?_); (case side1 => repeat (first | exact (Kd.C_below HR0.out HB.out) | (with_reducible refine Kd.C_alloc ?_ _) | (with_reducible refine Kd.C_drewN ?_ _) | (with_reducible refine Kd.C_drew ?_))); (case side2 => exact HC0.out); rintro e w45 ⟨rfl, hb⟩; have n0_ := zk (Kd.R_below (by (with_reducible repeat (first | apply Kd.R_alloc | apply Kd.R_drewN | apply Kd.R_drew)); exact HO_11.out) hb); have n1_ := zk (zs (by with_reducible repeat first | exact HB.out | apply zA | apply zN | apply zD) hb); clear HO_11; clear HB; have HO_11 := n0_; have HB := n1_; clear n0_ n1_; (try clear hb); (try clear hb2); (try clear hk); (try clear hi)) | (go_at_call 6; (with_reducible refine (lw_same.calls k4  t310 _ A43.out).mono ?_); rintro e w46 ⟨rfl, hb⟩; have n0_ := zk (Kd.R_below (by (with_reducible repeat (first | apply Kd.R_alloc | apply Kd.R_drewN | apply Kd.R_drew)); exact HO_11.out) hb); have n1_ := zk (zs (by with_reducible repeat first | exact HB.out | apply zA | apply zN | apply zD) hb); clear HO_11; clear HB; have HO_11 := n0_; have HB := n1_; clear n0_ n1_; (try clear hb); (try clear hb2); (try clear hk); (try clear hi)))
                go_ret; exact ⟨by first | rfl | (simp [wN, wS] <;> rfl) | (simp [*, wN, wS] <;> rfl), by with_reducible repeat first | exact HB.out | apply zA | apply zN | apply zD⟩
               ·
                rw [if_neg c42] at H; have c42b0 := beq_eq_false_iff_ne.mpr c42; have c42b1 := bne_iff_ne.mpr c42; exact absurd ((Option.some.inj H).trans HR_.out) (by decide)
              ·
               rw [if_neg c40] at H; have c40b0 : decide (t308 ≤ x7_3) = false := decide_eq_false c40; clear c40; exact absurd ((Option.some.inj H).trans HR_.out) (by decide)
             ·
              rw [if_neg c38] at H; have c38b0 := beq_eq_false_iff_ne.mpr c38; have c38b1 := bne_iff_ne.mpr c38; exact absurd ((Option.some.inj H).trans HR_.out) (by decide)
end Go.Proofs.Ytconhodokldcbaa.G
namespace Go.Proofs.Ytconhodokldcbaa.G
open Go.RowKit Go.Proofs.YtconhodokldcbaaW.PrintWords
/-- A pile: places rise, members don't. -/
def Down (l : List Int) (p : List Int) : Prop := p.Pairwise fun x y => x < y ∧ rd l y ≤ rd l x
theorem Down.last {l p : List Int} (h : Down l p) (hp : 0 < p.length) (x : Int) (hx : x ∈ p) : x ≤ rd p (p.length - 1) ∧ rd l (rd p (p.length - 1)) ≤ rd l x := by
  obtain ⟨j, hj, rfl⟩ := List.getElem_of_mem hx
  have e : rd p (p.length - 1) = p[p.length - 1] := by
    unfold rd; rw [List.getD_eq_getElem?_getD, List.getElem?_eq_getElem (by omega)]; simp only [Option.getD_some]
    congr 1
    omega
  rw [e]
  by_cases hjl : j = p.length - 1
  (subst hjl; exact ⟨Int.le_refl _, Int.le_refl _⟩); (have := List.pairwise_iff_getElem.1 h j (p.length - 1) hj (by omega) (by omega); exact ⟨by omega, this.2⟩)
theorem topAt_eq {ps : List (List Int)} {k : Nat} (hk : k < ps.length) : topAt ps k = rd (ps.getD k []) ((ps.getD k []).length - 1) := by
  unfold topAt topOf rd_L1; rw [if_neg (by omega), if_neg (by omega)]; rfl
structure Pat (l : List Int) (i : Nat) (ps : List (List Int)) (ah : List Int) : Prop where
  inv : PInv l i ps ah
  down : ∀ k, Down l (ps.getD k [])
  pos : ∀ k x, x ∈ ps.getD k [] → 0 ≤ rd l x
  tops : ∀ j k : Nat, j < k → k < ps.length → rd l (topAt ps j) < rd l (topAt ps k)
  all : ∀ x : Int, 0 ≤ x → x < i → 0 ≤ rd l x → ∃ k, x ∈ ps.getD k []
  cross : ∀ j k x y, x ∈ ps.getD j [] → y ∈ ps.getD k [] → x < y → rd l x < rd l y → j < k
  back0 : ∀ x, x ∈ ps.getD 0 [] → rd ah x = -1
  back : ∀ k x, x ∈ ps.getD (k + 1) [] → rd ah x ∈ ps.getD k [] ∧ rd ah x < x ∧ rd l (rd ah x) < rd l x ∧ ∀ y, y ∈ ps.getD k [] → y < x → y ≤ rd ah x
  one : ∀ j k x, x ∈ ps.getD j [] → x ∈ ps.getD k [] → j = k
theorem mem_lt {ps : List (List Int)} {k : Nat} {x : Int} (h : x ∈ ps.getD k []) : k < ps.length := by
  rcases Nat.lt_or_ge k ps.length with hk | hk
  (exact hk); (rw [List.getD_eq_getElem?_getD, List.getElem?_eq_none hk] at h; simp at h)
theorem Pat.nonempty {l : List Int} {i : Nat} {ps : List (List Int)} {ah : List Int} (h : Pat l i ps ah) {k : Nat} (hk : k < ps.length) : 0 < (ps.getD k []).length := by
  have hm : ps.getD k [] ∈ ps := by rw [List.getD_eq_getElem?_getD, List.getElem?_eq_getElem hk]; exact List.getElem_mem _
  exact (h.inv.pile _ hm).1
theorem Pat.range {l : List Int} {i : Nat} {ps : List (List Int)} {ah : List Int} (h : Pat l i ps ah) {k : Nat} {x : Int} (hx : x ∈ ps.getD k []) : 0 ≤ x ∧ x < i := by
  have hk := mem_lt hx
  have hm : ps.getD k [] ∈ ps := by rw [List.getD_eq_getElem?_getD, List.getElem?_eq_getElem hk]; exact List.getElem_mem _
  exact (h.inv.pile _ hm).2.2 x hx
theorem Pat.top {l : List Int} {i : Nat} {ps : List (List Int)} {ah : List Int} (h : Pat l i ps ah) {k : Nat} {x : Int} (hx : x ∈ ps.getD k []) : x ≤ topAt ps k ∧ rd l (topAt ps k) ≤ rd l x := by
  rw [topAt_eq (mem_lt hx)]; exact (h.down k).last (h.nonempty (mem_lt hx)) x hx
/-- The halving finds the first pile whose top is not less. -/
theorem findL_first (l : List Int) (ps : List (List Int)) (n : Int) (ht : ∀ j k : Nat, j < k → k < ps.length → rd l (topAt ps j) < rd l (topAt ps k)) :
    ∀ (f : Nat) (lo hi : Nat), lo ≤ hi → hi ≤ ps.length → hi - lo ≤ f → (∀ j, j < lo → rd l (topAt ps j) < n) → (∀ j, hi ≤ j → j < ps.length → n ≤ rd l (topAt ps j)) →
      ∃ k : Nat, findL f l ps n lo hi = k ∧ k ≤ ps.length ∧ (∀ j, j < k → rd l (topAt ps j) < n) ∧ (∀ j, k ≤ j → j < ps.length → n ≤ rd l (topAt ps j)) := by
  intro f
  induction f with
  | zero =>
    intro lo hi h1 h2 h3 h4 h5
    obtain rfl : lo = hi := by omega
    exact ⟨lo, rfl, h2, h4, h5⟩
  | succ f ih =>
    intro lo hi h1 h2 h3 h4 h5; rw [findL]
    by_cases hlt : (lo : Int) < hi
    · rw [if_pos hlt]
      have em : ((lo : Int) + hi) / 2 = (((lo + hi) / 2 : Nat) : Int) := by omega
      rw [em]
      have et : topOf ps (((lo + hi) / 2 : Nat) : Int) = topAt ps (((lo + hi) / 2 : Nat) : Int) := by
        unfold topAt; rw [if_neg (by omega), if_neg (by omega)]
      rw [et]
      split
      · rename_i hge
        refine ih lo ((lo + hi) / 2) (by omega) (by omega) (by omega) h4 (fun j hj hjl => ?_)
        rcases Nat.lt_or_ge ((lo + hi) / 2) j with h | h
        · have := ht _ _ h hjl; omega
        · obtain rfl : j = (lo + hi) / 2 := by omega
          exact hge
      · rename_i hge
        have e1 : (((lo + hi) / 2 : Nat) : Int) + 1 = (((lo + hi) / 2 + 1 : Nat) : Int) := by omega
        rw [e1]
        refine ih ((lo + hi) / 2 + 1) hi (by omega) h2 (by omega) (fun j hj => ?_) h5
        rcases Nat.lt_or_ge j ((lo + hi) / 2) with h | h
        · have := ht _ _ h (show (lo + hi) / 2 < ps.length by omega); omega
        · obtain rfl : j = (lo + hi) / 2 := by omega
          omega
    · rw [if_neg hlt]
      obtain rfl : lo = hi := by omega
      exact ⟨lo, rfl, h2, h4, h5⟩
theorem Pat.step {l : List Int} {i : Nat} {st : List (List Int) × List Int} (h : Pat l i st.1 st.2) (hi : i < l.length) : Pat l (i + 1) (playStep l st i).1 (playStep l st i).2 := by
  have hinv := h.inv.step hi
  by_cases hneg : rd l i < 0
  · have e : playStep l st i = st := by unfold playStep; rw [if_pos hneg]
    rw [e] at hinv ⊢
    refine { h with inv := hinv, all := fun x h0 h1 h2 => ?_ }
    by_cases hx : x = i
    · subst hx; omega
    · exact h.all x h0 (by omega) h2
  · obtain ⟨k, hk, hkl, hbelow, habove⟩ := findL_first l st.1 (rd l i) h.tops st.1.length 0 st.1.length (by omega) (by omega) (by omega) (fun j hj => by omega) (fun j hj hj2 => by omega)
    have e : playStep l st i = ((if (k : Int) = st.1.length then st.1 ++ [[]] else st.1).set k ((if (k : Int) = st.1.length then st.1 ++ [[]] else st.1).getD k [] ++ [(i : Int)]), st.2.set i (topAt st.1 (k - 1))) := by
      unfold playStep; rw [if_neg hneg]; simp only [show ((0 : Nat) : Int) = 0 from rfl] at hk; rw [hk]; rfl
    rw [e] at hinv ⊢
    have hg := getD_stepped st.1 k hkl (i : Int)
    generalize hps : (if (k : Int) = st.1.length then st.1 ++ [[]] else st.1).set k ((if (k : Int) = st.1.length then st.1 ++ [[]] else st.1).getD k [] ++ [(i : Int)]) = ps2 at hg hinv ⊢
    have hlen : ps2.length = if k = st.1.length then st.1.length + 1 else st.1.length := by
      rw [← hps, List.length_set]
      by_cases hc : k = st.1.length
      (rw [if_pos (by omega), if_pos hc]; simp); (rw [if_neg (by omega), if_neg hc])
    clear hps
    have hmem : ∀ j x, x ∈ ps2.getD j [] ↔ x ∈ st.1.getD j [] ∨ (j = k ∧ x = i) := by
      intro j x; rw [hg]; split
      · rename_i hj; subst hj; simp
      · rename_i hj; simp [hj]
    have hold : ∀ j x, x ∈ st.1.getD j [] → 0 ≤ x ∧ x < i := fun j x hx => h.range hx
    have hah : ∀ j x, x ∈ st.1.getD j [] → rd (st.2.set i (topAt st.1 (k - 1))) x = rd st.2 x := fun j x hx => by
      have := hold j x hx; rw [rd_set this.1, if_neg (by omega)]
    have hai : rd (st.2.set i (topAt st.1 ((k : Int) - 1))) i = topAt st.1 (k - 1) := by
      rw [rd_set (by omega), if_pos rfl, if_pos (by rw [h.inv.ahl]; exact hi)]
    have htop : ∀ j : Nat, j < ps2.length → topAt ps2 j = if j = k then (i : Int) else topAt st.1 j := by
      intro j hj; rw [topAt_eq hj, hg]
      by_cases hjk : j = k
      (subst hjk; rw [if_pos rfl, if_pos rfl]; unfold rd; rw [List.getD_eq_getElem?_getD, List.getElem?_append_right (by simp)]; simp); (rw [if_neg hjk, if_neg hjk, ← topAt_eq]; split at hlen <;> omega)
    show Pat l (i + 1) ps2 (st.2.set i (topAt st.1 (k - 1)))
    refine { inv := hinv, down := fun j => ?_, pos := fun j x hx => ?_, tops := fun a b hab hb => ?_, all := fun x h0 h1 h2 => ?_, cross := fun a b x y hx hy hxy hv => ?_, back0 := fun x hx => ?_, back := fun a x hx => ?_, one := fun a b x hx hy => ?_ }
    · rw [hg]
      split
      · rename_i hj
        subst hj
        refine List.pairwise_append.2 ⟨h.down j, by simp, fun x hx y hy => ?_⟩
        obtain rfl : y = i := by simpa using hy
        have h1 := h.range hx
        have h2 := h.top hx
        have h3 := habove j (Nat.le_refl _) (mem_lt hx)
        exact ⟨h1.2, by omega⟩
      · exact h.down j
    · rcases (hmem j x).1 hx with hx | ⟨_, rfl⟩
      · exact h.pos j x hx
      · omega
    · rw [htop a (by omega), htop b hb]
      have hbl : b ≠ k → b < st.1.length := fun hbk => by split at hlen <;> omega
      by_cases hbk : b = k
      · rw [if_pos hbk, if_neg (by omega)]
        exact hbelow a (by omega)
      · rw [if_neg hbk]
        by_cases hak : a = k
        · rw [if_pos hak]
          have h1 := habove k (Nat.le_refl _) (by have := hbl hbk; omega)
          have h2 := h.tops k b (by omega) (hbl hbk)
          omega
        · rw [if_neg hak]
          exact h.tops a b hab (hbl hbk)
    · by_cases hx : x = i
      · exact ⟨k, (hmem k x).2 (.inr ⟨rfl, hx⟩)⟩
      · obtain ⟨j, hj⟩ := h.all x h0 (by omega) h2
        exact ⟨j, (hmem j x).2 (.inl hj)⟩
    · rcases (hmem b y).1 hy with hy | ⟨rfl, rfl⟩
      · rcases (hmem a x).1 hx with hx | ⟨_, rfl⟩
        · exact h.cross a b x y hx hy hxy hv
        · have := hold b y hy; omega
      · rcases (hmem a x).1 hx with hx | ⟨_, rfl⟩
        · rcases Nat.lt_or_ge a b with hab | hab
          · exact hab
          · have h1 := habove a hab (mem_lt hx)
            have h2 := h.top hx
            omega
        · omega
    · rcases (hmem 0 x).1 hx with hx | ⟨hk0, rfl⟩
      · rw [hah 0 x hx]; exact h.back0 x hx
      · rw [hai, ← hk0]; rfl
    · rcases (hmem (a + 1) x).1 hx with hx | ⟨hk0, rfl⟩
      · rw [hah _ x hx]
        obtain ⟨b1, b2, b3, b4⟩ := h.back a x hx
        refine ⟨(hmem a _).2 (.inl b1), b2, b3, fun y hy hyx => ?_⟩
        rcases (hmem a y).1 hy with hy | ⟨_, rfl⟩
        · exact b4 y hy hyx
        · have := hold _ x hx; omega
      · rw [hai, ← hk0]
        have e1 : ((a + 1 : Nat) : Int) - 1 = (a : Int) := by omega
        rw [e1]
        have hal : a < st.1.length := by omega
        have hin : topAt st.1 a ∈ st.1.getD a [] := by rw [topAt_eq hal]; exact rd_last_mem _ (h.nonempty hal)
        refine ⟨(hmem a _).2 (.inl hin), (hold a _ hin).2, hbelow a (by omega), fun y hy hyx => ?_⟩
        rcases (hmem a y).1 hy with hy | ⟨h1, _⟩
        · exact (h.top hy).1
        · omega
    · rcases (hmem a x).1 hx with hx | ⟨h1, rfl⟩
      · rcases (hmem b x).1 hy with hy | ⟨_, rfl⟩
        · exact h.one a b x hx hy
        · have := hold a _ hx; omega
      · rcases (hmem b _).1 hy with hy | ⟨h2, _⟩
        · have := hold b _ hy; omega
        · omega
theorem playN_pat (l : List Int) : ∀ i, i ≤ l.length → Pat l i (playN l i).1 (playN l i).2
  | 0, _ => { inv := playN_inv l 0 (by omega), down := fun k => by simp [playN, Down], pos := fun k x hx => by simp [playN] at hx, tops := fun j k _ hk => by simp [playN] at hk,
              all := fun x h0 h1 => by omega, cross := fun j k x y hx => by simp [playN] at hx, back0 := fun x hx => by simp [playN] at hx, back := fun k x hx => by simp [playN] at hx, one := fun j k x hx => by simp [playN] at hx }
  | i + 1, h => (playN_pat l i (by omega)).step (by omega)
theorem pat (l : List Int) : Pat l l.length (pilesOf l) (playN l l.length).2 := playN_pat l l.length (Nat.le_refl _)
/-- The chain goes from pile to pile. -/
theorem chain_mem {l : List Int} {i : Nat} {ps : List (List Int)} {ah : List Int} (h : Pat l i ps ah) : ∀ (n : Nat) (x : Int), (∀ m, n = m + 1 → x ∈ ps.getD m []) →
    ∀ j : Nat, j < n → rd (chainOf ah n x) j ∈ ps.getD j [] ∧ (j + 1 = n → rd (chainOf ah n x) j = x) ∧ (j + 1 < n → rd (chainOf ah n x) j = rd ah (rd (chainOf ah n x) ((j : Int) + 1)))
  | 0, _, _, _, hj => by omega
  | n + 1, x, hx, j, hj => by
    have hx0 := hx n rfl
    have ih := chain_mem h n (rd ah x) (fun m hm => by subst hm; exact (h.back m x hx0).1)
    have hl := chainOf_length ah n (rd ah x)
    obtain ⟨y, hy⟩ : ∃ y, rd ah x = y := ⟨_, rfl⟩
    rw [chainOf, hy]
    rw [hy] at ih hl
    have low : ∀ i : Nat, i < n → rd (chainOf ah n y ++ [x]) i = rd (chainOf ah n y) i := fun i hi => by
      unfold rd
      rw [List.getD_eq_getElem?_getD, List.getD_eq_getElem?_getD, List.getElem?_append_left (by omega)]
    have top : rd (chainOf ah n y ++ [x]) (n : Int) = x := by
      unfold rd
      rw [List.getD_eq_getElem?_getD, List.getElem?_append_right (by omega)]
      simp [hl]
    by_cases hjn : j = n
    · subst hjn
      rw [top]
      exact ⟨hx0, fun _ => rfl, fun h => by omega⟩
    · rw [low j (by omega)]
      obtain ⟨a, b, c⟩ := ih j (by omega)
      refine ⟨a, fun h => by omega, fun _ => ?_⟩
      by_cases hj1 : j + 1 = n
      · rw [show (j : Int) + 1 = (n : Int) by omega, top]
        rw [hy]; exact b hj1
      · rw [show (j : Int) + 1 = ((j + 1 : Nat) : Int) by omega, low (j + 1) (by omega)]
        have := c (by omega)
        rwa [show (j : Int) + 1 = ((j + 1 : Nat) : Int) by omega] at this
theorem longest_len (l : List Int) : (longestOf l).length = (pilesOf l).length := chainOf_length _ _ _
theorem longest_at (l : List Int) (j : Nat) (hj : j < (pilesOf l).length) : rd (longestOf l) j ∈ (pilesOf l).getD j [] ∧ (j + 1 = (pilesOf l).length → rd (longestOf l) j = topAt (pilesOf l) j) ∧
    (j + 1 < (pilesOf l).length → rd (longestOf l) j = rd (playN l l.length).2 (rd (longestOf l) ((j : Int) + 1))) := by
  obtain ⟨a, b, c⟩ := chain_mem (pat l) (pilesOf l).length (topAt (pilesOf l) ((pilesOf l).length - 1)) (fun m hm => by
    rw [hm, show ((m + 1 : Nat) : Int) - 1 = (m : Int) by omega, topAt_eq (by omega)]
    exact rd_last_mem _ ((pat l).nonempty (by omega))) j hj
  exact ⟨a, fun h => (b h).trans (by rw [show ((pilesOf l).length : Int) - 1 = (j : Int) by omega]), c⟩
end Go.Proofs.Ytconhodokldcbaa.G
namespace Go.Proofs.Ytconhodokldcbaa.Pure
open Go.RowKit Go.Proofs.Ytconhodokldcbaa.G Go.Proofs.YtconhodokldcbaaW.PrintWords Go.Proofs.YtconhodokldcbaaW.PrintLast
set_option linter.unusedVariables false
def Ev {α : Type} (f : Nat → Option α) (r : α) : Prop := ∃ k0, ∀ k, k0 ≤ k → f k = some r
theorem Ev.all {α : Type} {f : Nat → Option α} {r : α} (h : ∀ k, f k = some r) : Ev f r := ⟨0, fun k _ => h k⟩
theorem Ev.pure {α : Type} (r : α) : Ev (fun _ => some r) r := .all fun _ => rfl
theorem Ev.of {α : Type} {f : Nat → Option α} {r : α} (m : ∀ k, LeO (f k) (f (k + 1))) {k : Nat} (h : f k = some r) : Ev f r :=
  ⟨k, fun j hj => by
    obtain ⟨d, rfl⟩ : ∃ d, j = k + d := ⟨j - k, by omega⟩
    clear hj
    induction d with
    | zero => exact h
    | succ d ih => exact m _ _ ih⟩
theorem Ev.step {α : Type} {f g : Nat → Option α} {r : α} (hg : Ev g r) (h : ∀ k, f (k + 1) = g k) : Ev f r := by
  obtain ⟨k0, hk⟩ := hg; exact ⟨k0 + 1, fun k hk' => by obtain ⟨m, rfl⟩ : ∃ m, k = m + 1 := ⟨k - 1, by omega⟩; rw [h]; exact hk m (by omega)⟩
theorem Ev.eq {α : Type} {f g : Nat → Option α} {r : α} (hg : Ev g r) (h : ∀ k, f k = g k) : Ev f r := by
  obtain ⟨k0, hk⟩ := hg; exact ⟨k0, fun k hk' => by rw [h]; exact hk k hk'⟩
theorem Ev.bind {α β : Type} {f : Nat → Option α} {g : Nat → α → Option β} {a : α} {r : β} (hf : Ev f a) (hg : Ev (fun k => g k a) r) : Ev (fun k => (f k).bind (g k)) r := by
  obtain ⟨k0, h0⟩ := hf; obtain ⟨k1, h1⟩ := hg; exact ⟨max k0 k1, fun k hk => by show (f k).bind (g k) = some r; rw [h0 k (by omega)]; exact h1 k (by omega)⟩
theorem Ev.via {α β : Type} {f : Nat → Option α} {g F : Nat → Option β} {a : α} {r : β} (hf : Ev f a) (hg : Ev g r) (h : ∀ k, f k = some a → F (k + 1) = g k) : Ev F r := by
  obtain ⟨k0, h0⟩ := hf; obtain ⟨k1, h1⟩ := hg; exact ⟨max k0 k1 + 1, fun k hk => by obtain ⟨m, rfl⟩ : ∃ m, k = m + 1 := ⟨k - 1, by omega⟩; rw [h m (h0 m (by omega))]; exact h1 m (by omega)⟩
theorem Ev.ex {α : Type} {f : Nat → Option α} {r : α} (h : Ev f r) : ∃ k, f k = some r := by
  obtain ⟨k0, hk⟩ := h; exact ⟨k0, hk k0 (Nat.le_refl _)⟩
theorem w1 {i : Int} (h0 : -1000000000000000000 ≤ i) (h : i ≤ 1000000000000000000) : wrap64 (i + 1) = i + 1 := by unfold wrap64; omega
theorem wm {i : Int} (h0 : -1000000000000000000 ≤ i) (h : i ≤ 1000000000000000000) : wrap64 (i - 1) = i - 1 := by unfold wrap64; omega
theorem same_ev : Ev (fun k => lw_same.f k) true := Ev.of (fun k => lw_same.mono k) (k := 40) (by decide +kernel)
def StepOk (l at_ : List Int) (j : Int) : Prop :=
  0 ≤ rd at_ j ∧ rd at_ j < l.length ∧ 0 ≤ rd l (rd at_ j) ∧ (0 < j → rd at_ (j - 1) < rd at_ j ∧ rd l (rd at_ (j - 1)) < rd l (rd at_ j))
/-- An increasing choice. -/
def Choice (l at_ : List Int) : Prop := ∀ j : Int, 0 ≤ j → j < at_.length → StepOk l at_ j
theorem choice_le {l at_ : List Int} (h : Choice l at_) : at_.length ≤ (pilesOf l).length := by
  have hp := playN_pat l l.length (Nat.le_refl _)
  have key : ∀ j : Nat, j < at_.length → ∃ k, j ≤ k ∧ rd at_ j ∈ (pilesOf l).getD k [] := by
    intro j
    induction j with
    | zero =>
      intro hj; obtain ⟨a, b, c, _⟩ := h 0 (by omega) (by omega); obtain ⟨k, hk⟩ := hp.all _ a b c; exact ⟨k, by omega, hk⟩
    | succ j ih =>
      intro hj; obtain ⟨k, hk, hm⟩ := ih (by omega); obtain ⟨a, b, c, d⟩ := h ((j + 1 : Nat) : Int) (by omega) (by omega); obtain ⟨k2, hk2⟩ := hp.all _ a b c
      have e : (((j + 1 : Nat) : Int) - 1) = (j : Int) := by omega
      rw [e] at d; have := hp.cross k k2 _ _ hm hk2 (d (by omega)).1 (d (by omega)).2; exact ⟨k2, by omega, hk2⟩
  rcases Nat.eq_zero_or_pos at_.length with h0 | h0
  (omega); (obtain ⟨k, hk, hm⟩ := key (at_.length - 1) (by omega); have := mem_lt hm; omega)
theorem longest_choice (l : List Int) : Choice l (longestOf l) := by
  intro j h0 hj; obtain ⟨n, rfl⟩ := Int.eq_ofNat_of_zero_le h0; rw [longest_len] at hj; obtain ⟨a1, a2, a3⟩ := longest_at l n (by omega); have hr := (pat l).range a1; refine ⟨hr.1, by omega, (pat l).pos _ _ a1, fun hp => ?_⟩; obtain ⟨n, rfl⟩ : ∃ m, n = m + 1 := ⟨n - 1, by omega⟩; obtain ⟨b1, b2, b3⟩ := longest_at l n (by omega); have e := b3 (by omega); rw [show (n : Int) + 1 = ((n + 1 : Nat) : Int) by omega] at e; obtain ⟨c1, c2, c3, c4⟩ := (pat l).back n _ a1; rw [show ((n + 1 : Nat) : Int) - 1 = (n : Int) by omega, e]; exact ⟨c2, c3⟩
end Go.Proofs.Ytconhodokldcbaa.Pure
namespace Go.Proofs.Ytconhodokldcbaa.Lis
open Go.RowKit Go.Proofs.Ytconhodokldcbaa.G Go.Proofs.YtconhodokldcbaaW.PrintWords Go.Proofs.YtconhodokldcbaaW.PrintLast
set_option linter.unusedVariables false
theorem w1 {i : Int} (h0 : 0 ≤ i) (h : i ≤ 1000000) : wrap64 (i + 1) = i + 1 := by unfold wrap64; omega
theorem w0 {i : Int} (h0 : 0 < i) (h : i ≤ 1000000) : wrap64 (i - 1) = i - 1 := by unfold wrap64; omega
end Go.Proofs.Ytconhodokldcbaa.Lis
namespace Go.Proofs.Ytconhodokldcbaa.Pure
open Go.RowKit Go.Proofs.Ytconhodokldcbaa.G Go.Proofs.YtconhodokldcbaaW.PrintWords Go.Proofs.YtconhodokldcbaaW.PrintLast
set_option linter.unusedVariables false
/-- Does a place stay? -/
def ST (l : List Int) (i : Nat) : Bool := (longestOf l).any (fun x => x == (i : Int))
def stB (l : List Int) : List Bool := (List.range l.length).map (ST l)
theorem stB_len (l : List Int) : (stB l).length = l.length := by unfold stB; rw [List.length_map, List.length_range]
theorem rdOf_map (n : Nat) (f : Nat → Bool) (i : Nat) (h : i < n) : rdOf false ((List.range n).map f) (i : Int) = f i := by
  unfold rdOf; rw [List.getD_eq_getElem?_getD, Int.toNat_natCast, List.getElem?_map, List.getElem?_range h]; rfl
theorem rd_stB (l : List Int) (i : Nat) (h : i < l.length) : rdOf false (stB l) (i : Int) = ST l i := rdOf_map _ _ _ h
theorem rd_get (L : List Int) (q : Nat) (h : q < L.length) : rd L (q : Int) = L[q] := by
  unfold rd; rw [List.getD_eq_getElem?_getD, Int.toNat_natCast, List.getElem?_eq_getElem h]; rfl
theorem drpI (L : List Int) (q : Nat) (h : q < L.length) : L.drop q = rd L (q : Int) :: L.drop (q + 1) := by
  rw [List.drop_eq_getElem_cons h, rd_get L q h]
theorem takI (L : List Int) (q : Nat) (h : q < L.length) : L.take (q + 1) = L.take q ++ [rd L (q : Int)] := by
  rw [List.take_succ_eq_append_getElem h, rd_get L q h]
theorem longest_in (l : List Int) : ∀ x ∈ longestOf l, 0 ≤ x ∧ x < l.length := by
  intro x hx; obtain ⟨j, hj, rfl⟩ := List.getElem_of_mem hx; obtain ⟨a, b, _, _⟩ := longest_choice l (j : Int) (by omega) (by omega); rw [rd_get _ j hj] at a b; exact ⟨a, b⟩
theorem longest_len_le (l : List Int) : (longestOf l).length ≤ l.length := by
  have h := longest_len l; have := (pat l).inv.psl; omega
theorem set_map (n : Nat) (f : Nat → Bool) (x : Nat) : ((List.range n).map f).set x true = (List.range n).map (fun i => f i || i == x) := by
  refine List.ext_getElem (by simp) (fun i h1 h2 => ?_); rw [List.getElem_set]; simp only [List.getElem_map, List.getElem_range]
  by_cases c : x = i
  · subst c; simp
  · rw [if_neg c]
    have : (i == x) = false := by simp; omega
    rw [this, Bool.or_false]
theorem stay_l0 (n : Nat) (L : List Int) (hL : L.length ≤ 1000000) (hin : ∀ x ∈ L, 0 ≤ x ∧ x < n) : ∀ (d q : Nat), q + d = L.length →
    Ev (fun k => moves_Stay.l0 k ((List.range n).map (fun (i : Nat) => (L.take q).any (fun x => x == (i : Int)))) L L.length q) ((List.range n).map (fun (i : Nat) => L.any (fun x => x == (i : Int))))
  | 0, q, h => by
    rw [List.take_of_length_le (by omega)]
    exact (Ev.pure _).step (fun k => by rw [moves_Stay.l0, if_neg (by omega)])
  | d + 1, q, h => by
    have ih := stay_l0 n L hL hin d (q + 1) (by omega)
    have hq := hin (rd L (q : Int)) (by rw [rd_get L q (by omega)]; exact List.getElem_mem _)
    refine ih.step (fun k => ?_)
    rw [moves_Stay.l0, if_pos (by omega), if_pos (by omega), if_pos (by omega), if_pos hq.1, if_pos (by rw [List.length_map, List.length_range]; exact hq.2), set_map, w1 (by omega) (by omega)]
    congr 1
    rw [takI L q (by omega)]
    refine List.map_congr_left (fun i _ => ?_)
    rw [List.any_append]
    congr 1
    simp only [List.any_cons, List.any_nil, Bool.or_false]
    rw [Bool.eq_iff_iff]
    simp
    omega
theorem check_ok {l : List Int} (hl : l.length ≤ 1000000) (hw : l.all wfB = true) (ht : twB [] l = false) : moves_Check.f l = some 0 := by
  unfold moves_Check.f; rw [if_pos ⟨hl, hw⟩, ht]; rfl
theorem stay_ev (l : List Int) (hl : l.length ≤ 1000000) (hw : l.all wfB = true) (ht : twB [] l = false) : Ev (fun k => moves_Stay.f k l) (stB l) := by
  have h := stay_l0 l.length (longestOf l) (by have := longest_len_le l; omega) (longest_in l) (longestOf l).length 0 (by omega); refine h.eq (fun k => ?_); unfold moves_Stay.f lis_Longest.f; rw [check_ok hl hw ht, Option.bind_some, if_pos rfl, if_pos (by omega), if_pos (by omega), if_pos hl, Option.bind_some, Int.toNat_natCast, List.take_zero]
  congr 1
  refine List.ext_getElem (by simp) (fun i h1 h2 => by simp)
/-- The plan, of the places below one. -/
def planT (l : List Int) : Nat → List (Int × Int)
  | 0 => []
  | i + 1 => (if ST l i = true then [] else [((i : Int), if i + 1 = l.length then (-1 : Int) else ((i + 1 : Nat) : Int))]) ++ planT l i
def m36 (x : Int × Int) : S36 := ⟨x.1, x.2⟩
def planP (l : List Int) : List S36 := (planT l l.length).map m36
theorem planT_len (l : List Int) : ∀ i, (planT l i).length ≤ i
  | 0 => Nat.le_refl _
  | i + 1 => by
    have := planT_len l i
    unfold planT
    rw [List.length_append]
    split <;> simp <;> omega
theorem plan_l0 (l : List Int) (hl : l.length ≤ 1000000) (r : List S36) : ∀ (i : Nat) (acc : List S36), i ≤ l.length → acc.length + i ≤ 1000000 → acc ++ (planT l i).map m36 = r →
    Ev (fun k => moves_Plan.l0 k acc (if i = l.length then -1 else (i : Int)) (stB l) ((i : Int) - 1)) (r, 0)
  | 0, acc, hi, ha, h => by
    rw [planT, List.map_nil, List.append_nil] at h
    subst h
    exact (Ev.pure _).step (fun k => by rw [moves_Plan.l0, if_neg (by omega)])
  | i + 1, acc, hi, ha, h => by
    have hb : (if i = l.length then (-1 : Int) else (i : Int)) = (i : Int) := if_neg (by omega)
    have hsl := stB_len l
    have e : (((i + 1 : Nat) : Int) - 1) = (i : Int) := by omega
    rw [planT] at h
    by_cases c : ST l i = true
    · rw [if_pos c, List.nil_append] at h
      have ih := plan_l0 l hl r i acc (by omega) (by omega) h
      rw [hb] at ih
      refine ih.step (fun k => ?_)
      rw [e, moves_Plan.l0, if_pos (by omega), if_pos (by omega), if_pos (by omega), rd_stB l i (by omega), if_pos c, wm (by omega) (by omega)]
    · rw [if_neg c, List.map_append] at h
      have ih := plan_l0 l hl r i (acc ++ [m36 ((i : Int), if i + 1 = l.length then (-1 : Int) else ((i + 1 : Nat) : Int))]) (by omega) (by rw [List.length_append, List.length_singleton]; omega) (by rw [List.append_assoc]; exact h)
      rw [hb] at ih
      refine ih.step (fun k => ?_)
      rw [e, moves_Plan.l0, if_pos (by omega), if_pos (by omega), if_pos (by omega), rd_stB l i (by omega), if_neg c, if_pos (by omega), wm (by omega) (by omega)]
      rfl
theorem plan_ev (l : List Int) (hl : l.length ≤ 1000000) (hw : l.all wfB = true) (ht : twB [] l = false) : Ev (fun k => moves_Plan.f k l) (planP l, 0) := by
  have h := plan_l0 l hl (planP l) l.length [] (Nat.le_refl _) (by simp; omega) (by rw [List.nil_append]; rfl); rw [if_pos rfl] at h
  have key : Ev (fun k => (moves_Stay.f k l).bind fun t111 => (moves_Plan.l0 k ([] : List (S36)) (-1) t111 (wrap64 ((l.length : Int) - 1)))) (planP l, 0) := by
    refine Ev.bind (stay_ev l hl hw ht) ?_; rw [wm (by omega) (by omega)]; exact h
  refine key.eq (fun k => ?_); unfold moves_Plan.f; rw [check_ok hl hw ht, Option.bind_some, if_pos rfl]
/-- How many numbers below one are so. -/
def cn (p : Nat → Bool) : Nat → Nat
  | 0 => 0
  | i + 1 => cn p i + if p i = true then 1 else 0
theorem cn_le (p : Nat → Bool) : ∀ n, cn p n ≤ n
  | 0 => Nat.le_refl _
  | n + 1 => by
    have := cn_le p n
    rw [cn]
    split <;> omega
theorem cn_congr {p q : Nat → Bool} : ∀ n, (∀ j, j < n → p j = q j) → cn p n = cn q n
  | 0, _ => rfl
  | n + 1, h => by rw [cn, cn, cn_congr n (fun j hj => h j (by omega)), h n (by omega)]
theorem cn_split {p q r : Nat → Bool} : ∀ n, (∀ j, j < n → p j = (q j || r j) ∧ ¬ (q j = true ∧ r j = true)) → cn p n = cn q n + cn r n
  | 0, _ => rfl
  | n + 1, h => by
    obtain ⟨h1, h2⟩ := h n (by omega)
    rw [cn, cn, cn, cn_split n (fun j hj => h j (by omega)), h1]
    cases hq : q n <;> cases hr : r n
    · simp
    · simp; omega
    · simp; omega
    · exact absurd ⟨hq, hr⟩ h2
theorem cn_filter (p : Nat → Bool) : ∀ n, cn p n = ((List.range n).filter p).length
  | 0 => rfl
  | n + 1 => by
    rw [cn, cn_filter p n, List.range_succ, List.filter_append, List.length_append, List.filter_cons]
    split <;> simp
/-- A thing that moves though it is not new. -/
def mvd (l : List Int) (i : Nat) : Bool := decide (0 ≤ rd l (i : Int)) && !ST l i
theorem least_l0 (l : List Int) (hl : l.length ≤ 1000000) : ∀ (d i : Nat), i + d = l.length → Ev (fun k => moves_Least.l0 k l (cn (mvd l) i : Nat) (stB l) l.length i) (cn (mvd l) l.length : Nat)
  | 0, i, h => by
    obtain rfl : i = l.length := by omega
    exact (Ev.pure _).step (fun k => by rw [moves_Least.l0, if_neg (by omega)])
  | d + 1, i, h => by
    have ih := least_l0 l hl d (i + 1) (by omega)
    have hsl := stB_len l
    have hle := cn_le (mvd l) i
    refine ih.step (fun k => ?_)
    rw [moves_Least.l0, if_pos (by omega), if_pos (by omega), if_pos (by omega), if_pos (by omega), rd_stB l i (by omega), w1 (by omega) (by omega), w1 (by omega) (by omega), cn]
    unfold mvd
    by_cases c1 : rd l (i : Int) ≥ 0
    · rw [if_pos c1, show decide (0 ≤ rd l (i : Int)) = true from decide_eq_true c1]
      cases c2 : ST l i <;> simp
    · rw [if_neg c1, show decide (0 ≤ rd l (i : Int)) = false from decide_eq_false c1]
      simp
theorem least_ev (l : List Int) (hl : l.length ≤ 1000000) (hw : l.all wfB = true) (ht : twB [] l = false) : Ev (fun k => moves_Least.f k l) (cn (mvd l) l.length : Nat) := by
  refine Ev.bind (stay_ev l hl hw ht) ?_; rw [stB_len]; exact least_l0 l hl l.length 0 (by omega)
theorem twB_iff : ∀ (xs s : List Int), twB s xs = true ↔ (∃ x ∈ xs, 0 ≤ x ∧ x ∈ s) ∨ ∃ i j : Nat, i < j ∧ j < xs.length ∧ 0 ≤ rd xs (j : Int) ∧ rd xs (i : Int) = rd xs (j : Int)
  | [], s => by simp [twB]
  | x :: xs, s => by
    have e0 : rd (x :: xs) ((0 : Nat) : Int) = x := rfl
    have es : ∀ i : Nat, rd (x :: xs) ((i + 1 : Nat) : Int) = rd xs (i : Int) := fun i => by unfold rd; rw [Int.toNat_natCast, Int.toNat_natCast]; rfl
    have hm : ∀ y, y ∈ xs → ∃ j : Nat, j < xs.length ∧ rd xs (j : Int) = y := fun y hy => by
      obtain ⟨j, hj, e⟩ := List.getElem_of_mem hy
      exact ⟨j, hj, by rw [rd_get xs j hj, e]⟩
    have hmm : ∀ j : Nat, j < xs.length → rd xs (j : Int) ∈ xs := fun j hj => by rw [rd_get xs j hj]; exact List.getElem_mem _
    rw [twB]
    split
    · rename_i hn
      rw [twB_iff xs s]
      constructor
      · rintro (⟨y, h1, h2, h3⟩ | ⟨i, j, h1, h2, h3, h4⟩)
        · exact .inl ⟨y, List.mem_cons_of_mem _ h1, h2, h3⟩
        · exact .inr ⟨i + 1, j + 1, by omega, by simp; omega, by rw [es]; exact h3, by rw [es, es]; exact h4⟩
      · rintro (⟨y, h1, h2, h3⟩ | ⟨i, j, h1, h2, h3, h4⟩)
        · rcases List.mem_cons.1 h1 with rfl | h1
          · omega
          · exact .inl ⟨y, h1, h2, h3⟩
        · obtain ⟨j, rfl⟩ : ∃ m, j = m + 1 := ⟨j - 1, by omega⟩
          rw [es] at h3 h4
          cases i with
          | zero => rw [e0] at h4; omega
          | succ i => rw [es] at h4; exact .inr ⟨i, j, by omega, by simp at h2; omega, h3, h4⟩
    · rename_i hn
      split
      · rename_i hc
        simp only [true_iff]
        exact .inl ⟨x, List.mem_cons_self, by omega, by simpa using hc⟩
      · rename_i hc
        rw [twB_iff xs (x :: s)]
        constructor
        · rintro (⟨y, h1, h2, h3⟩ | ⟨i, j, h1, h2, h3, h4⟩)
          · rcases List.mem_cons.1 h3 with rfl | h3
            · obtain ⟨j, hj, e⟩ := hm y h1
              exact .inr ⟨0, j + 1, by omega, by simp; omega, by rw [es, e]; exact h2, by rw [e0, es, e]⟩
            · exact .inl ⟨y, List.mem_cons_of_mem _ h1, h2, h3⟩
          · exact .inr ⟨i + 1, j + 1, by omega, by simp; omega, by rw [es]; exact h3, by rw [es, es]; exact h4⟩
        · rintro (⟨y, h1, h2, h3⟩ | ⟨i, j, h1, h2, h3, h4⟩)
          · rcases List.mem_cons.1 h1 with rfl | h1
            · exact absurd (by simpa using h3) hc
            · exact .inl ⟨y, h1, h2, List.mem_cons_of_mem _ h3⟩
          · obtain ⟨j, rfl⟩ : ∃ m, j = m + 1 := ⟨j - 1, by omega⟩
            have hj : j < xs.length := by simp at h2; omega
            rw [es] at h3 h4
            cases i with
            | zero => rw [e0] at h4; exact .inl ⟨rd xs (j : Int), hmm j hj, h3, by rw [← h4]; exact List.mem_cons_self⟩
            | succ i => rw [es] at h4; exact .inr ⟨i, j, by omega, hj, h3, h4⟩
theorem twice_l1 (l : List Int) (hl : l.length ≤ 1000000) (i : Nat) (hi : i < l.length) (r : Bool) (ht : (∃ j : Nat, j < i ∧ 0 ≤ rd l (i : Int) ∧ rd l (j : Int) = rd l (i : Int)) → r = true)
    (h : ¬ (∃ j : Nat, j < i ∧ 0 ≤ rd l (i : Int) ∧ rd l (j : Int) = rd l (i : Int)) → Ev (fun k => r08_Twice.l0 k l l.length ((i + 1 : Nat) : Int)) r) : ∀ (d q : Nat), q + d = i → (∀ j : Nat, j < q → ¬ (0 ≤ rd l (i : Int) ∧ rd l (j : Int) = rd l (i : Int))) →
    Ev (fun k => r08_Twice.l1 k l i l.length i i q) r
  | 0, q, hq, hn => by
    refine (h ?_).step (fun k => by rw [r08_Twice.l1, if_neg (by omega), w1 (by omega) (by omega)]; rfl)
    rintro ⟨j, h1, h2⟩
    exact hn j (by omega) h2
  | d + 1, q, hq, hn => by
    by_cases c1 : rd l (i : Int) ≥ 0
    · by_cases c2 : rd l (i : Int) = rd l (q : Int)
      · rw [ht ⟨q, by omega, c1, c2.symm⟩]
        exact (Ev.pure _).step (fun k => by rw [r08_Twice.l1, if_pos (by omega), if_pos (by omega), if_pos (by omega), if_pos c1, if_pos (by omega), if_pos (by omega), if_pos c2])
      · refine (twice_l1 l hl i hi r ht h d (q + 1) (by omega) (fun j hj => ?_)).step (fun k => by rw [r08_Twice.l1, if_pos (by omega), if_pos (by omega), if_pos (by omega), if_pos c1, if_pos (by omega), if_pos (by omega), if_neg c2, w1 (by omega) (by omega)]; rfl)
        by_cases e : j = q
        · subst e; exact fun h => c2 h.2.symm
        · exact hn j (by omega)
    · refine (twice_l1 l hl i hi r ht h d (q + 1) (by omega) (fun j hj => fun h => c1 h.1)).step (fun k => by rw [r08_Twice.l1, if_pos (by omega), if_pos (by omega), if_pos (by omega), if_neg c1, w1 (by omega) (by omega)]; rfl)
theorem twice_l0 (l : List Int) (hl : l.length ≤ 1000000) : ∀ (d i : Nat), i + d = l.length → (∀ a b : Nat, a < b → b < i → ¬ (0 ≤ rd l (b : Int) ∧ rd l (a : Int) = rd l (b : Int))) → Ev (fun k => r08_Twice.l0 k l l.length i) (twB [] l)
  | 0, i, hi, hn => by
    have hf : twB [] l = false := by
      rw [← Bool.not_eq_true, twB_iff]
      rintro (⟨_, _, _, h⟩ | ⟨a, b, h1, h2, h3⟩)
      · cases h
      · exact hn a b h1 (by omega) h3
    rw [hf]
    exact (Ev.pure _).step (fun k => by rw [r08_Twice.l0, if_neg (by omega)])
  | d + 1, i, hi, hn => by
    refine Ev.step (twice_l1 l hl i (by omega) _ (fun ⟨j, h1, h2, h3⟩ => (twB_iff l []).2 (.inr ⟨j, i, h1, by omega, h2, h3⟩)) (fun hno => twice_l0 l hl d (i + 1) (by omega) (fun a b h1 h2 h3 => ?_)) i 0 (by omega) (fun j hj => by omega)) (fun k => by rw [r08_Twice.l0, if_pos (by omega)]; rfl)
    by_cases e : b = i
    (subst e; exact hno ⟨a, h1, h3⟩); (exact hn a b h1 (by omega) h3)
theorem twice_ev (l : List Int) (hl : l.length ≤ 1000000) : Ev (fun k => r08_Twice.f k l) (twB [] l) := twice_l0 l hl l.length 0 (by omega) (fun a b h1 h2 => by omega)
theorem put_f (L : List Int) (q : Nat) (x : Int) (hq : q ≤ L.length) (hl : L.length ≤ 1000000) : r08_put.f L (q : Int) x = some (L.take q ++ [x] ++ L.drop q) := by
  unfold r08_put.f; rw [if_pos ⟨by omega, by omega, by omega⟩, Int.toNat_natCast]
theorem start_l1 (l : List Int) (hl : l.length ≤ 1000000) (i : Nat) (hi : i < l.length) (hn : 0 ≤ rd l (i : Int)) (out : List Int) (hin : ∀ x ∈ out, 0 ≤ x ∧ x < l.length) (hout : out.length ≤ 1000000) (r : List Int)
    (h : Ev (fun k => r08_Start.l0 k l (insI l i out) l.length ((i + 1 : Nat) : Int)) r) : ∀ (d q : Nat), q + d = out.length → out.take q ++ insI l i (out.drop q) = insI l i out →
    Ev (fun k => r08_Start.l1 k l out i q l.length i) r
  | 0, q, hq, he => by
    rw [List.drop_eq_nil_of_le (by omega), insI] at he
    refine h.step (fun k => ?_)
    rw [r08_Start.l1, if_neg (by omega), if_pos (by omega), if_pos (by omega), if_pos hn, put_f out q i (by omega) hout, Option.bind_some, List.drop_eq_nil_of_le (by omega), List.append_nil, he, w1 (by omega) (by omega)]
    rfl
  | d + 1, q, hq, he => by
    have hm := hin (rd out (q : Int)) (by rw [rd_get out q (by omega)]; exact List.getElem_mem _)
    have hd := drpI out q (by omega)
    rw [hd, insI] at he
    by_cases c : rd l (rd out (q : Int)) < rd l (i : Int)
    · rw [if_pos c] at he
      have ih := start_l1 l hl i hi hn out hin hout r h d (q + 1) (by omega) (by rw [takI out q (by omega), List.append_assoc]; exact he)
      refine ih.step (fun k => ?_)
      rw [r08_Start.l1, if_pos (by omega), if_pos (by omega), if_pos (by omega), if_pos hn, if_pos (by omega), if_pos hm.1, if_pos hm.2, if_pos c, w1 (by omega) (by omega)]
      rfl
    · rw [if_neg c] at he
      refine h.step (fun k => ?_)
      rw [r08_Start.l1, if_pos (by omega), if_pos (by omega), if_pos (by omega), if_pos hn, if_pos (by omega), if_pos hm.1, if_pos hm.2, if_neg c, put_f out q i (by omega) hout, Option.bind_some, hd, w1 (by omega) (by omega), List.append_assoc]
      rw [show [(i : Int)] ++ rd out (q : Int) :: List.drop (q + 1) out = (i : Int) :: rd out (q : Int) :: List.drop (q + 1) out from rfl, he]
      rfl
theorem start_l1n (l : List Int) (hl : l.length ≤ 1000000) (i : Nat) (hi : i < l.length) (hn : ¬ 0 ≤ rd l (i : Int)) (out : List Int) (r : List Int)
    (h : Ev (fun k => r08_Start.l0 k l out l.length ((i + 1 : Nat) : Int)) r) : Ev (fun k => r08_Start.l1 k l out i 0 l.length i) r := by
  refine h.step (fun k => ?_); rw [r08_Start.l1]
  by_cases c : (0 : Int) < (out.length : Int)
  (rw [if_pos c, if_pos (by omega), if_pos (by omega), if_neg hn, w1 (by omega) (by omega)]; rfl); (rw [if_neg c, if_pos (by omega), if_pos (by omega), if_neg hn, w1 (by omega) (by omega)]; rfl)
theorem standT_in (l : List Int) (i : Nat) : ∀ x ∈ standT l i, 0 ≤ x ∧ x < i ∧ 0 ≤ rd l x := fun x hx => (placesT_mem l x i).1 ((standT_perm l i).mem_iff.1 hx)
theorem standT_len (l : List Int) (i : Nat) : (standT l i).length ≤ i := by rw [(standT_perm l i).length_eq]; exact placesT_len l i
theorem start_l0 (l : List Int) (hl : l.length ≤ 1000000) : ∀ (d i : Nat), i + d = l.length → Ev (fun k => r08_Start.l0 k l (standT l i) l.length i) (standP l)
  | 0, i, h => by
    obtain rfl : i = l.length := by omega
    exact (Ev.pure _).step (fun k => by rw [r08_Start.l0, if_neg (by omega)]; rfl)
  | d + 1, i, h => by
    have ih := start_l0 l hl d (i + 1) (by omega)
    have hlen := standT_len l i
    rw [standT] at ih
    by_cases c : 0 ≤ rd l (i : Int)
    · rw [if_pos c] at ih
      refine (start_l1 l hl i (by omega) c (standT l i) (fun x hx => by have := standT_in l i x hx; exact ⟨this.1, by omega⟩) (by omega) _ ih (standT l i).length 0 (by omega) (by simp)).step (fun k => ?_)
      rw [r08_Start.l0, if_pos (by omega)]
      rfl
    · rw [if_neg c] at ih
      exact (start_l1n l hl i (by omega) c (standT l i) _ ih).step (fun k => by rw [r08_Start.l0, if_pos (by omega)])
theorem start_ev (l : List Int) (hl : l.length ≤ 1000000) : Ev (fun k => r08_Start.f k l) (standP l) := start_l0 l hl l.length 0 (by omega)
theorem find_l0 (L : List Int) (x : Int) (hl : L.length ≤ 1000000) : ∀ (d i : Nat), i + d = L.length → Ev (fun k => r08_find.l0 k L x L.length i) (ixF x (L.drop i) i)
  | 0, i, h => by
    rw [List.drop_eq_nil_of_le (by omega), ixF]
    exact (Ev.pure _).step (fun k => by rw [r08_find.l0, if_neg (by omega)])
  | d + 1, i, h => by
    rw [drpI L i (by omega), ixF]
    by_cases c : x = rd L (i : Int)
    · rw [if_pos c]
      exact (Ev.pure _).step (fun k => by rw [r08_find.l0, if_pos (by omega), if_pos (by omega), if_pos (by omega), if_pos c.symm])
    · rw [if_neg c]
      exact (find_l0 L x hl d (i + 1) (by omega)).step (fun k => by rw [r08_find.l0, if_pos (by omega), if_pos (by omega), if_pos (by omega), if_neg (fun h => c h.symm), w1 (by omega) (by omega)]; rfl)
theorem find_ev (L : List Int) (x : Int) (hl : L.length ≤ 1000000) : Ev (fun k => r08_find.f k L x) (ixF x L 0) := find_l0 L x hl L.length 0 (by omega)
/-- What a step comes to, told as_ the reference tells it. -/
def tell (o : Option (List Int)) : List Int × Bool := match o with | none => ([], false) | some L => (L, true)
theorem one_l0 (L : List Int) (hL : L.length ≤ 500000) (x y : Int) (r : List Int × Bool) (h : Ev (fun k => r08_One.l0 k L (L.filter (fun z => z != x)) L.length L.length x y) r) : ∀ (d i : Nat), i + d = L.length →
    Ev (fun k => r08_One.l0 k L ((L.take i).filter (fun z => z != x)) L.length i x y) r
  | 0, i, hi => by
    obtain rfl : i = L.length := by omega
    rw [List.take_length]
    exact h
  | d + 1, i, hi => by
    have ih := one_l0 L hL x y r h d (i + 1) (by omega)
    have hlen : ((L.take i).filter (fun z => z != x)).length ≤ L.length := Nat.le_trans (List.length_filter_le _ _) (by rw [List.length_take]; omega)
    rw [takI L i (by omega), List.filter_append, List.filter_cons] at ih
    by_cases c : rd L (i : Int) = x
    · rw [show (rd L (i : Int) != x) = false from by simp [c], if_neg (by decide), List.filter_nil, List.append_nil] at ih
      exact ih.step (fun k => by rw [r08_One.l0, if_pos (by omega), if_pos (by omega), if_pos (by omega), if_pos c, w1 (by omega) (by omega)]; rfl)
    · rw [show (rd L (i : Int) != x) = true from by simp [c], if_pos rfl, List.filter_nil] at ih
      exact ih.step (fun k => by rw [r08_One.l0, if_pos (by omega), if_pos (by omega), if_pos (by omega), if_neg c, if_pos (by omega), w1 (by omega) (by omega)]; rfl)
theorem one_ev (L : List Int) (hL : L.length ≤ 500000) (hnd : L.Nodup) (n : Nat) (hn : n ≤ 1000000) (s : S36) : Ev (fun k => r08_One.f k L s.f0 s.f1 n) (tell (stepP n L s)) := by
  have bad : ∀ x y, Ev (fun k => r08_One.j0 k L true x y) (([] : List Int), false) := fun x y => (Ev.pure _).step (fun k => by rw [r08_One.j0, if_pos rfl])
  unfold stepP
  by_cases c1 : s.f0 < 0
  · rw [if_pos (.inl c1)]
    exact (bad s.f0 s.f1).eq (fun k => by unfold r08_One.f; rw [if_pos c1])
  by_cases c2 : (n : Int) ≤ s.f0
  · rw [if_pos (.inr (.inl c2))]
    exact (bad s.f0 s.f1).eq (fun k => by unfold r08_One.f; rw [if_neg c1, if_pos c2])
  by_cases c3 : s.f0 = s.f1
  (rw [if_pos (.inr (.inr c3))]; exact (bad s.f0 s.f1).eq (fun k => by unfold r08_One.f; rw [if_neg c1, if_neg (by omega), show (s.f1 == s.f0) = true from by simp [c3]])); rw [if_neg (by omega)]; have her : L.filter (fun z => z != s.f0) = L.erase s.f0 := (hnd.erase_eq_filter s.f0).symm; have hel := erase_len L s.f0
  have enter : ∀ r, Ev (fun k => r08_One.l0 k L (L.erase s.f0) L.length L.length s.f0 s.f1) r → Ev (fun k => r08_One.f k L s.f0 s.f1 n) r := fun r h => by
    rw [← her] at h; have h2 := one_l0 L hL s.f0 s.f1 r h L.length 0 (by omega); have h3 : Ev (fun k => r08_One.j0 k L false s.f0 s.f1) r := h2.step (fun k => by rw [r08_One.j0, if_neg (by decide)]; rfl); refine h3.eq (fun k => ?_); unfold r08_One.f; rw [if_neg c1, if_neg (by omega), show (s.f1 == s.f0) = false from by simp; omega]
  obtain ⟨M, hM⟩ : ∃ M, L.erase s.f0 = M := ⟨_, rfl⟩; rw [hM] at enter hel ⊢; refine enter _ ?_
  by_cases c4 : s.f1 = -1
  · rw [if_pos c4]
    refine (Ev.pure _).step (fun k => ?_); rw [r08_One.l0, if_neg (by omega), if_pos c4, if_neg (by omega), put_f M M.length _ (Nat.le_refl _) (by omega), Option.bind_some, List.take_length, List.drop_length, List.append_nil]; rfl
  · rw [if_neg c4]
    have hf := find_ev M s.f1 (by omega)
    rcases ixF_cases s.f1 M 0 with ⟨hin, hix⟩ | ⟨j, hj, hix, hjx, hin, _⟩
    · rw [if_neg hin]
      refine hf.via (Ev.pure _) (fun k hk => ?_)
      rw [r08_One.l0, if_neg (by omega), if_neg c4, hk, Option.bind_some, show ixF s.f1 M 0 = -1 from hix, if_pos (by omega)]
      rfl
    · rw [if_pos hin]
      have hix : ixF s.f1 M 0 = (j : Int) := hix.trans (by rw [Nat.zero_add])
      refine hf.via (Ev.pure _) (fun k hk => ?_)
      rw [r08_One.l0, if_neg (by omega), if_neg c4, hk, Option.bind_some, hix, if_neg (by omega), put_f M j _ (by omega) (by omega), Option.bind_some, ← hjx]
      rfl
theorem split_at (M : List Int) (j : Nat) (x : Int) : (M.take j ++ [x] ++ M.drop j).Perm (x :: M) := by
  have h := List.take_append_drop j M; have h1 : (M.take j ++ [x] ++ M.drop j).Perm ([x] ++ M.take j ++ M.drop j) := List.Perm.append_right _ List.perm_append_comm
  have h2 : [x] ++ M.take j ++ M.drop j = x :: M := by rw [List.append_assoc, h]; rfl
  rw [h2] at h1; exact h1
theorem stepP_nd {n : Nat} {L : List Int} {s : S36} {L' : List Int} (h : stepP n L s = some L') (hnd : L.Nodup) (hin : ∀ x ∈ L, 0 ≤ x ∧ x < n) : L'.Nodup ∧ (∀ x ∈ L', 0 ≤ x ∧ x < n) ∧ L'.length ≤ L.length + 1 := by
  have hlen := stepP_len h; unfold stepP at h; have he : (L.erase s.f0).Nodup := hnd.erase _
  have hni : s.f0 ∉ L.erase s.f0 := fun h => ((hnd.mem_erase_iff).1 h).1 rfl
  have hin2 : ∀ x ∈ L.erase s.f0, 0 ≤ x ∧ x < n := fun x hx => hin x (List.mem_of_mem_erase hx)
  split at h; (cases h)
  rename_i hb
  have fin : ∀ M : List Int, M.Perm (s.f0 :: L.erase s.f0) → M.Nodup ∧ (∀ x ∈ M, 0 ≤ x ∧ x < n) := fun M hM => by
    refine ⟨hM.nodup_iff.2 (List.nodup_cons.2 ⟨hni, he⟩), fun x hx => ?_⟩
    rcases List.mem_cons.1 (hM.mem_iff.1 hx) with rfl | hx
    (omega); (exact hin2 x hx)
  split at h; (obtain rfl := Option.some.inj h; obtain ⟨a, b⟩ := fin _ (List.perm_append_comm (l₁ := L.erase s.f0) (l₂ := [s.f0])); exact ⟨a, b, hlen⟩)
  · split at h
    · obtain rfl := Option.some.inj h
      obtain ⟨a, b⟩ := fin _ (split_at _ _ _)
      exact ⟨a, b, hlen⟩
    · cases h
theorem rd36 (l : List S36) (i : Nat) (h : i < l.length) : l.drop i = rd_T36 l (i : Int) :: l.drop (i + 1) := rd36_nat l i h
theorem run_l0 (l : List Int) (hl : l.length ≤ 100000) (ss : List S36) (hs : ss.length ≤ 100000) : ∀ (d i : Nat) (L : List Int), i + d = ss.length → L.length ≤ 100000 + i → L.Nodup → (∀ x ∈ L, 0 ≤ x ∧ x < l.length) →
    Ev (fun k => lw_run.l0 k l ss L ss.length i) (tell (runP l.length L (ss.drop i)))
  | 0, i, L, hi, hL, hnd, hin => by
    rw [List.drop_eq_nil_of_le (by omega), runP]
    exact (Ev.pure _).step (fun k => by rw [lw_run.l0, if_neg (by omega)]; rfl)
  | d + 1, i, L, hi, hL, hnd, hin => by
    have h1 := one_ev L (by omega) hnd l.length (by omega) (rd_T36 ss (i : Int))
    rw [rd36 ss i (by omega), runP]
    cases hst : stepP l.length L (rd_T36 ss (i : Int)) with
    | none =>
      rw [hst] at h1
      refine h1.via (Ev.pure _) (fun k hk => ?_)
      rw [lw_run.l0, if_pos (by omega), if_pos (by omega), if_pos (by omega), hk]
      rfl
    | some L' =>
      rw [hst] at h1
      obtain ⟨a, b, c⟩ := stepP_nd hst hnd hin
      refine h1.via (run_l0 l hl ss hs d (i + 1) L' (by omega) (by omega) a b) (fun k hk => ?_)
      rw [lw_run.l0, if_pos (by omega), if_pos (by omega), if_pos (by omega), hk, w1 (by omega) (by omega)]
      rfl
theorem standP_nd (l : List Int) : (standP l).Nodup := (standT_perm l l.length).nodup_iff.2 (placesT_nodup l l.length)
theorem run_ev (l : List Int) (hl : l.length ≤ 100000) (ss : List S36) (hs : ss.length ≤ 100000) : Ev (fun k => lw_run.f k l ss) (tell (runP l.length (standP l) ss)) := by
  refine Ev.bind (start_ev l (by omega)) ?_; exact run_l0 l hl ss hs ss.length 0 (standP l) (by omega) (by have := standT_len l l.length; unfold standP; omega) (standP_nd l) (fun x hx => by have := standT_in l l.length x hx; exact ⟨this.1, this.2.1⟩)
/-- Rising from 0 on. -/
def upL (n : Nat) : List Int := (List.range n).map (fun (i : Nat) => (i : Int))
theorem upL_len (n : Nat) : (upL n).length = n := by unfold upL; rw [List.length_map, List.length_range]
theorem rd_upL (n i : Nat) (h : i < n) : rd (upL n) (i : Int) = (i : Int) := by
  rw [rd_get _ i (by rw [upL_len]; exact h)]; unfold upL; simp
theorem up_ev (L : List Int) (hl : L.length ≤ 1000000) (n : Nat) : ∃ t, Ev (fun k => lw_up.f k L n) t ∧ (t = true ↔ L = upL n) := by
  have loop : ∀ (d i : Nat), i + d = L.length → (∀ j : Nat, j < i → rd L (j : Int) = (j : Int)) → ∃ t, Ev (fun k => lw_up.l0 k L n L.length i) t ∧ (t = true ↔ L = upL n) := by
    intro d
    induction d with
    | zero =>
      intro i hi hb; refine ⟨((L.length : Int) == (n : Int)), (Ev.pure _).step (fun k => by rw [lw_up.l0, if_neg (by omega)]), ?_⟩; rw [beq_iff_eq]; constructor; (intro h; refine List.ext_getElem (by rw [upL_len]; omega) (fun j h1 h2 => ?_); rw [← rd_get L j h1, ← rd_get _ j h2, hb j (by omega), rd_upL n j (by omega)]); (intro h; have := congrArg List.length h; rw [upL_len] at this; omega)
    | succ d ih =>
      intro i hi hb
      by_cases c : rd L (i : Int) = (i : Int)
      · obtain ⟨t, h1, h2⟩ := ih (i + 1) (by omega) (fun j hj => by
          by_cases e : j = i
          · subst e; exact c
          · exact hb j (by omega))
        exact ⟨t, h1.step (fun k => by rw [lw_up.l0, if_pos (by omega), if_pos (by omega), if_pos (by omega), if_pos c, w1 (by omega) (by omega)]; rfl), h2⟩
      · refine ⟨false, (Ev.pure _).step (fun k => by rw [lw_up.l0, if_pos (by omega), if_pos (by omega), if_pos (by omega), if_neg c]), ?_⟩
        simp only [Bool.false_eq_true, false_iff]; intro h; have hlen := congrArg List.length h; rw [upL_len] at hlen; exact c (by rw [h]; exact rd_upL n i (by omega))
  obtain ⟨t, h1, h2⟩ := loop L.length 0 (by omega) (fun j hj => by omega); exact ⟨t, h1, h2⟩
/-- What stands already: what stays, and all from a place on. -/
def Qi (l : List Int) (i : Nat) (x : Int) : Bool := decide ((i : Int) ≤ x) || (longestOf l).any (fun y => y == x)
theorem any_mem (L : List Int) (x : Int) : L.any (fun y => y == x) = true ↔ x ∈ L := by
  rw [List.any_eq_true]; constructor; (rintro ⟨y, h, e⟩; rw [← beq_iff_eq.1 e]; exact h); (intro h; exact ⟨x, h, by simp⟩)
structure Inv (l : List Int) (i : Nat) (L : List Int) : Prop where
  nd : L.Nodup
  inn : ∀ x ∈ L, 0 ≤ x ∧ x < l.length
  eq : L.filter (Qi l i) = (upL l.length).filter (Qi l i)
theorem upL_mem (n : Nat) (x : Int) : x ∈ upL n ↔ 0 ≤ x ∧ x < n := by
  unfold upL; rw [List.mem_map]; constructor; (rintro ⟨i, hi, rfl⟩; have := List.mem_range.1 hi; omega); (rintro ⟨h0, h1⟩; exact ⟨x.toNat, List.mem_range.2 (by omega), by omega⟩)
theorem upL_sorted (n : Nat) : (upL n).Pairwise (· < ·) := by
  unfold upL; rw [List.pairwise_map]; exact List.pairwise_lt_range.imp (fun h => by omega)
theorem sorted_uniq (X Y : List Int) (hx : X.Pairwise (· < ·)) (hy : Y.Pairwise (· < ·)) (h : ∀ x, x ∈ X ↔ x ∈ Y) : X = Y := by
  have nx : X.Nodup := hx.imp (fun h => by omega); have ny : Y.Nodup := hy.imp (fun h => by omega); refine List.Perm.eq_of_pairwise (le := fun a b => a < b) (fun a b _ _ h1 h2 => by omega) hx hy ?_; exact (List.perm_ext_iff_of_nodup nx ny).2 h
theorem longest_sorted (l : List Int) : (longestOf l).Pairwise (· < ·) := by
  have hc := longest_choice l
  have mono : ∀ (t d : Nat), t + d + 1 < (longestOf l).length → rd (longestOf l) (t : Int) < rd (longestOf l) ((t + d + 1 : Nat) : Int) := by
    intro t d
    induction d with
    | zero =>
      intro hd; obtain ⟨_, _, _, h4⟩ := hc ((t + 0 + 1 : Nat) : Int) (by omega) (by omega); have := h4 (by omega); rw [show (((t + 0 + 1 : Nat) : Int) - 1) = (t : Int) by omega] at this; exact this.1
    | succ d ih =>
      intro hd; have h1 := ih (by omega); obtain ⟨_, _, _, h4⟩ := hc ((t + (d + 1) + 1 : Nat) : Int) (by omega) (by omega); have := h4 (by omega); rw [show (((t + (d + 1) + 1 : Nat) : Int) - 1) = ((t + d + 1 : Nat) : Int) by omega] at this; omega
  rw [List.pairwise_iff_getElem]; intro i j hi hj hij; have := mono i (j - i - 1) (by omega); rw [show i + (j - i - 1) + 1 = j by omega, rd_get _ i hi, rd_get _ j hj] at this; exact this
theorem longest_nn (l : List Int) (x : Int) (hx : x ∈ longestOf l) : 0 ≤ x ∧ x < l.length ∧ 0 ≤ rd l x := by
  obtain ⟨j, hj, rfl⟩ := List.getElem_of_mem hx; obtain ⟨a, b, c, _⟩ := longest_choice l (j : Int) (by omega) (by omega); rw [rd_get _ j hj] at a b c; exact ⟨a, b, c⟩
theorem standP_mem (l : List Int) (x : Int) : x ∈ standP l ↔ 0 ≤ x ∧ x < l.length ∧ 0 ≤ rd l x := by
  unfold standP; rw [(standT_perm l l.length).mem_iff, placesT_mem]
theorem all_wf (l : List Int) (h : ∀ x ∈ l, (Lit.int .i64 x).wf = true) : l.all wfB = true := List.all_eq_true.2 h
theorem same2 : Ev (fun k => (lw_same.f k).bind fun t => (some t)) true := Ev.bind same_ev (Ev.pure true)
theorem rdm36 (T : List (Int × Int)) (i : Nat) (h : i < T.length) : rd_T36 (T.map m36) (i : Int) = m36 T[i] := by
  unfold rd_T36; rw [List.getD_eq_getElem?_getD, Int.toNat_natCast, List.getElem?_map, List.getElem?_eq_getElem h]; rfl
theorem runP_len (n : Nat) : ∀ (ss : List S36) (L L' : List Int), runP n L ss = some L' → L'.length ≤ L.length + ss.length
  | [], L, L', h => by rw [runP] at h; obtain rfl := Option.some.inj h; simp
  | s :: ss, L, L', h => by
    rw [runP] at h
    cases hst : stepP n L s with
    | none => rw [hst] at h; cases h
    | some M =>
      rw [hst] at h
      have h1 := stepP_len hst
      have h2 := runP_len n ss M L' h
      rw [List.length_cons]
      omega
theorem planP_len (l : List Int) : (planP l).length ≤ l.length := by unfold planP; rw [List.length_map]; exact planT_len l _
/-- Is a thing put anywhere by the steps? -/
def Mv (ss : List S36) (x : Int) : Bool := ss.any (fun s => s.f0 == x)
theorem stepP_flt {n : Nat} {L : List Int} {s : S36} {L' : List Int} (P : Int → Bool) (hP : P s.f0 = false) (h : stepP n L s = some L') (hnd : L.Nodup) : L'.filter P = L.filter P := by
  have he : (L.erase s.f0).filter P = L.filter P := by
    rw [hnd.erase_eq_filter, List.filter_filter]; refine List.filter_congr (fun x hx => ?_)
    by_cases c : x = s.f0
    (rw [c, hP]; rfl); (rw [show (x != s.f0) = true from by simp [c], Bool.and_true])
  unfold stepP at h; split at h; (cases h)
  · split at h
    · obtain rfl := Option.some.inj h
      rw [List.filter_append, List.filter_cons, hP, he]
      simp
    · split at h
      · obtain rfl := Option.some.inj h
        rw [List.filter_append, List.filter_append, List.filter_cons, hP]
        simp only [Bool.false_eq_true, if_false, List.filter_nil, List.append_nil]
        rw [← List.filter_append, List.take_append_drop, he]
      · cases h
theorem runP_flt (n : Nat) (P : Int → Bool) : ∀ (ss : List S36) (L L' : List Int), (∀ s ∈ ss, P s.f0 = false) → L.Nodup → (∀ x ∈ L, 0 ≤ x ∧ x < n) → runP n L ss = some L' → L'.filter P = L.filter P
  | [], L, L', _, _, _, h => by rw [runP] at h; obtain rfl := Option.some.inj h; rfl
  | s :: ss, L, L', hP, hnd, hin, h => by
    rw [runP] at h
    cases hst : stepP n L s with
    | none => rw [hst] at h; cases h
    | some M =>
      rw [hst] at h
      obtain ⟨a, b, _⟩ := stepP_nd hst hnd hin
      rw [runP_flt n P ss M L' (fun s' h' => hP s' (List.mem_cons_of_mem _ h')) a b h, stepP_flt P (hP s List.mem_cons_self) hst hnd]
theorem pairwise_choice {l c : List Int} (hi : c.Pairwise (· < ·)) (hv : c.Pairwise (fun a b => rd l a < rd l b)) (hn : ∀ x ∈ c, 0 ≤ x ∧ x < l.length ∧ 0 ≤ rd l x) : Choice l c := by
  intro j h0 hj; obtain ⟨n, rfl⟩ := Int.eq_ofNat_of_zero_le h0
  have hn' : n < c.length := by omega
  obtain ⟨a, b, d⟩ := hn (rd c (n : Int)) (by rw [rd_get c n hn']; exact List.getElem_mem _); refine ⟨a, b, d, fun hp => ?_⟩; rw [show (n : Int) - 1 = ((n - 1 : Nat) : Int) by omega, rd_get c (n - 1) (by omega), rd_get c n hn']; exact ⟨List.pairwise_iff_getElem.1 hi (n - 1) n (by omega) hn' (by omega), List.pairwise_iff_getElem.1 hv (n - 1) n (by omega) hn' (by omega)⟩
theorem upL_cn (n : Nat) (P : Int → Bool) : ((upL n).filter P).length = cn (fun i => P (i : Int)) n := by
  rw [cn_filter]; unfold upL; rw [List.filter_map, List.length_map]; rfl
theorem longest_upL (l : List Int) : (upL l.length).filter (fun x => (longestOf l).any (fun y => y == x)) = longestOf l := by
  refine sorted_uniq _ _ ((upL_sorted _).filter _) (longest_sorted l) (fun x => ?_); rw [List.mem_filter, any_mem, upL_mem]; constructor
  · exact fun h => h.2
  · exact fun h => ⟨⟨(longest_nn l x h).1, (longest_nn l x h).2.1⟩, h⟩
/-- At least so many are moved. -/
theorem least_le (l : List Int) (ht : twB [] l = false) (ss : List S36) (h : runP l.length (standP l) ss = some (upL l.length)) : cn (mvd l) l.length ≤ cn (fun i => Mv ss (i : Int) && decide (0 ≤ rd l (i : Int))) l.length := by
  have hf := runP_flt l.length (fun x => !Mv ss x) ss (standP l) _ (fun s hs => by
    have : Mv ss s.f0 = true := List.any_eq_true.2 ⟨s, hs, by simp⟩
    simp [this]) (standP_nd l) (fun x hx => by have := (standP_mem l x).1 hx; exact ⟨this.1, this.2.1⟩) h
  obtain ⟨c, hc⟩ : ∃ c, (upL l.length).filter (fun x => !Mv ss x) = c := ⟨_, rfl⟩; rw [hc] at hf
  have hin : ∀ x ∈ c, 0 ≤ x ∧ x < l.length ∧ 0 ≤ rd l x := fun x hx => by
    rw [hf] at hx; exact (standP_mem l x).1 (List.mem_filter.1 hx).1
  have hi : c.Pairwise (· < ·) := by rw [← hc]; exact (upL_sorted _).filter _
  have hv : c.Pairwise (fun a b => rd l a < rd l b) := by
    have h1 : c.Pairwise (fun a b => rd l a ≤ rd l b) := by rw [hf]; exact (standT_sorted l l.length).filter _
    refine (h1.and hi).imp_of_mem (fun {a b} ha hb hab => ?_)
    have : rd l a ≠ rd l b := fun e => by
      have := rd_ne ht a b (hin a ha) (hin b hb) e; omega
    omega
  have hch := choice_le (pairwise_choice hi hv hin); have hlen := longest_len l
  have e1 : c.length = cn (fun i => !Mv ss (i : Int)) l.length := by rw [← hc, upL_cn]
  have e2 : cn (fun i => !Mv ss (i : Int)) l.length = cn (fun i => !Mv ss (i : Int) && decide (0 ≤ rd l (i : Int))) l.length := cn_congr _ (fun j hj => by
    cases hm : Mv ss (j : Int) with
    | true => rfl
    | false =>
      have := (hin (j : Int) (by rw [← hc, List.mem_filter, upL_mem, hm]; exact ⟨by omega, rfl⟩)).2.2
      simp [this])
  have e3 : (longestOf l).length = cn (ST l) l.length := by
    have := congrArg List.length (longest_upL l); rw [upL_cn] at this; exact this.symm
  have s1 := cn_split (p := fun i => decide (0 ≤ rd l (i : Int))) (q := fun i => Mv ss (i : Int) && decide (0 ≤ rd l (i : Int))) (r := fun i => !Mv ss (i : Int) && decide (0 ≤ rd l (i : Int))) l.length (fun j hj => by
    cases Mv ss (j : Int) <;> cases decide (0 ≤ rd l (j : Int)) <;> simp)
  have s2 := cn_split (p := fun i => decide (0 ≤ rd l (i : Int))) (q := mvd l) (r := ST l) l.length (fun j hj => by
    unfold mvd
    cases hs : ST l j with
    | false => simp
    | true =>
      have := (longest_nn l (j : Int) ((any_mem _ _).1 hs)).2.2
      simp [this])
  omega
theorem ml_l2 (l : List Int) (hl : l.length ≤ 1000000) (x7 : Int) (T : List (Int × Int)) (hT : T.length ≤ 1000000) (h : Ev (fun k => lw_MovesLeast.l2 k l x7 (T.map m36) 0 (cn (mvd l) l.length : Nat) T.length T.length) true) : ∀ (i q : Nat), i ≤ l.length → T.drop q = planT l i → q ≤ T.length → ∀ c : Nat, c + cn (mvd l) i = cn (mvd l) l.length → c ≤ 1000000 →
    Ev (fun k => lw_MovesLeast.l2 k l x7 (T.map m36) 0 c T.length q) true
  | 0, q, hi, hd, hq, c, hc, hcm => by
    rw [planT] at hd
    have hq2 : q = T.length := by have := List.drop_eq_nil_iff.1 hd; omega
    rw [cn] at hc
    rw [hq2, show c = cn (mvd l) l.length by omega]
    exact h
  | i + 1, q, hi, hd, hq, c, hc, hcm => by
    rw [planT] at hd
    rw [cn] at hc
    by_cases cs : ST l i = true
    · rw [if_pos cs, List.nil_append] at hd
      have : mvd l i = false := by unfold mvd; rw [cs]; simp
      rw [this, if_neg (by decide)] at hc
      exact ml_l2 l hl x7 T hT h i q (by omega) hd hq c (by omega) hcm
    · have cs2 : ST l i = false := by simpa using cs
      rw [if_neg cs, List.cons_append, List.nil_append] at hd
      have hqT : q < T.length := by
        rcases Nat.lt_or_ge q T.length with h1 | h1
        · exact h1
        · rw [List.drop_eq_nil_of_le h1] at hd; cases hd
      rw [List.drop_eq_getElem_cons hqT] at hd
      injection hd with hd1 hd2
      have e0 : (rd_T36 (T.map m36) (q : Int)).f0 = (i : Int) := by rw [rdm36 T q hqT, hd1]; rfl
      by_cases cn0 : 0 ≤ rd l (i : Int)
      · have : mvd l i = true := by unfold mvd; rw [cs2]; simp [cn0]
        rw [this, if_pos rfl] at hc
        refine (ml_l2 l hl x7 T hT h i (q + 1) (by omega) hd2 (by omega) (c + 1) (by omega) (by have := cn_le (mvd l) l.length; omega)).step (fun k => ?_)
        rw [lw_MovesLeast.l2, if_pos (by omega), if_pos (by omega), if_pos (by rw [List.length_map]; omega), e0, if_pos (by omega), if_pos (by omega), if_pos (by omega), if_pos cn0, w1 (by omega) (by omega), w1 (by omega) (by omega)]
        rfl
      · have : mvd l i = false := by unfold mvd; simp [cn0]
        rw [this, if_neg (by decide)] at hc
        refine (ml_l2 l hl x7 T hT h i (q + 1) (by omega) hd2 (by omega) c (by omega) hcm).step (fun k => ?_)
        rw [lw_MovesLeast.l2, if_pos (by omega), if_pos (by omega), if_pos (by rw [List.length_map]; omega), e0, if_pos (by omega), if_pos (by omega), if_pos (by omega), if_neg cn0, w1 (by omega) (by omega)]
        rfl
def cm (l : List Int) (ss : List S36) (i : Nat) : Nat := cn (fun i => Mv ss (i : Int) && decide (0 ≤ rd l (i : Int))) i
theorem ml_l1 (l : List Int) (hl : l.length ≤ 1000000) (ss : List S36) (hs : ss.length ≤ 1000000) (i : Nat) (hi : i < l.length) (h : Ev (fun k => lw_MovesLeast.l0 k l ss (cm l ss (i + 1) : Nat) l.length ((i + 1 : Nat) : Int)) true) : ∀ (d q : Nat), q + d = ss.length →
    Ev (fun k => lw_MovesLeast.l1 k l ss (cm l ss i : Nat) i ((ss.take q).any (fun s => s.f0 == (i : Int))) l.length i ss.length q) true
  | 0, q, hq => by
    rw [List.take_of_length_le (by omega)]
    have hle : cm l ss i ≤ i := cn_le _ _
    have hw1 : wrap64 ((i : Int) + 1) = ((i + 1 : Nat) : Int) := w1 (by omega) (by omega)
    have hw2 : wrap64 (((cm l ss i : Nat) : Int) + 1) = ((cm l ss i : Nat) : Int) + 1 := w1 (by omega) (by omega)
    have e : cm l ss (i + 1) = cm l ss i + if (Mv ss (i : Int) && decide (0 ≤ rd l (i : Int))) = true then 1 else 0 := rfl
    rw [e] at h
    refine h.step (fun k => ?_)
    rw [lw_MovesLeast.l1, if_neg (by omega), hw1]
    cases hm : Mv ss (i : Int) with
    | true =>
      unfold Mv at hm
      rw [if_pos hm, if_pos (by omega), if_pos (by omega), hw2]
      by_cases c : 0 ≤ rd l (i : Int)
      · rw [if_pos c, show decide (0 ≤ rd l (i : Int)) = true from decide_eq_true c]
        rfl
      · rw [if_neg c, show decide (0 ≤ rd l (i : Int)) = false from decide_eq_false c]
        rfl
    | false =>
      unfold Mv at hm
      rw [if_neg (by rw [hm]; decide)]
      rfl
  | d + 1, q, hq => by
    have ih := ml_l1 l hl ss hs i hi h d (q + 1) (by omega)
    have htk : ss.take (q + 1) = ss.take q ++ [rd_T36 ss (q : Int)] := by
      rw [List.take_succ_eq_append_getElem (by omega)]
      unfold rd_T36
      rw [List.getD_eq_getElem?_getD, Int.toNat_natCast, List.getElem?_eq_getElem (by omega)]
      rfl
    rw [htk, List.any_append] at ih
    simp only [List.any_cons, List.any_nil, Bool.or_false] at ih
    cases c : (ss.take q).any (fun s => s.f0 == (i : Int)) with
    | true =>
      rw [c, Bool.true_or] at ih; exact ih.step (fun k => by rw [lw_MovesLeast.l1, if_pos (by omega), if_pos rfl, w1 (by omega) (by omega)]; rfl)
    | false =>
      rw [c, Bool.false_or] at ih; exact ih.step (fun k => by rw [lw_MovesLeast.l1, if_pos (by omega), if_neg (by decide), if_pos (by omega), if_pos (by omega), w1 (by omega) (by omega)]; rfl)
theorem ml_l0 (l : List Int) (hl : l.length ≤ 1000000) (ss : List S36) (hs : ss.length ≤ 1000000) (h : Ev (fun k => lw_MovesLeast.l0 k l ss (cm l ss l.length : Nat) l.length l.length) true) : ∀ (d i : Nat), i + d = l.length → Ev (fun k => lw_MovesLeast.l0 k l ss (cm l ss i : Nat) l.length i) true
  | 0, i, hi => by
    obtain rfl : i = l.length := by omega
    exact h
  | d + 1, i, hi => (ml_l1 l hl ss hs i (by omega) (ml_l0 l hl ss hs h d (i + 1) (by omega)) ss.length 0 (by omega)).step (fun k => by rw [lw_MovesLeast.l0, if_pos (by omega)]; rfl)
theorem MovesLeast : ∀ (x0 : List Int) (x1 : List (S36)), (x0.length * 8 ≤ 140737488351232 ∧ ∀ y ∈ x0, (Lit.int .i64 y).wf = true) → (x1.length * 16 ≤ 140737488351232 ∧ ∀ y ∈ x1, Sm36 y) → ∃ k, lw_MovesLeast.f k x0 x1 = some true := by
  rintro l ss ⟨_, h3⟩ ⟨_, _⟩; refine Ev.ex (r := true) ?_; have hw := all_wf l h3; have hj : Ev (fun k => lw_MovesLeast.j0 k l ss true) true := same2.step (fun k => by rw [lw_MovesLeast.j0, if_pos rfl]); have hj1 : Ev (fun k => lw_MovesLeast.j1 k l ss true) true := same2.step (fun k => by rw [lw_MovesLeast.j1, if_pos rfl]); unfold lw_MovesLeast.f
  by_cases c1 : (l.length : Int) > 80
  (simp only [c1, ↓reduceIte]; exact hj); simp only [c1, ↓reduceIte]
  by_cases c2 : (ss.length : Int) > 200
  (simp only [c2, ↓reduceIte]; exact hj); simp only [c2, ↓reduceIte]; refine Ev.bind (twice_ev l (by omega)) ?_
  cases ht : twB [] l with
  | true => exact hj
  | false =>
    have hr := run_ev l (by omega) ss (by omega); have hpl := planP_len l
    have key : Ev (fun k => (lw_run.f k l ss).bind fun bt292 => (if bt292.2 = true then ((lw_up.f k bt292.1 (l.length : Int)).bind fun t296 => (lw_MovesLeast.j1 k l ss (!t296))) else (lw_MovesLeast.j1 k l ss true))) true := by
      refine Ev.bind hr ?_
      cases hq : runP l.length (standP l) ss with
      | none =>
        simp only [tell, Bool.false_eq_true, ↓reduceIte]; exact hj1
      | some M =>
        simp only [tell, ↓reduceIte]; have hM := runP_len l.length ss _ _ hq; have hsl := standT_len l l.length; obtain ⟨t, u1, u2⟩ := up_ev M (by unfold standP at hM; omega) l.length; refine Ev.bind u1 ?_
        cases t with
        | false => exact hj1
        | true =>
          obtain rfl := u2.1 rfl; have hle := least_le l ht ss hq; have hb : cn (mvd l) l.length ≤ l.length := cn_le _ _; have hTl := planT_len l l.length
          have hfin : Ev (fun k => lw_MovesLeast.l2 k l (cm l ss l.length : Nat) ((planT l l.length).map m36) 0 (cn (mvd l) l.length : Nat) (planT l l.length).length (planT l l.length).length) true := by
            have key : Ev (fun k => (moves_Least.f k l).bind fun t308 => (if ((cm l ss l.length : Nat) : Int) ≥ t308 then ((moves_Least.f k l).bind fun t309 => (if ((cn (mvd l) l.length : Nat) : Int) = t309 then ((lw_same.f k).bind fun t310 => (some t310)) else (some false))) else (some false))) true := by
              have hls := least_ev l (by omega) hw ht; refine Ev.bind hls ?_
              have hge : ((cm l ss l.length : Nat) : Int) ≥ ((cn (mvd l) l.length : Nat) : Int) := by unfold cm; omega
              simp only [hge, ↓reduceIte]; refine Ev.bind hls ?_; simp only [↓reduceIte]; exact same2
            exact key.step (fun k => by rw [lw_MovesLeast.l2, if_neg (by omega), if_pos rfl])
          have hl2 := ml_l2 l (by omega) (cm l ss l.length : Nat) (planT l l.length) (by omega) hfin l.length 0 (Nat.le_refl _) (by rw [List.drop_zero]) (Nat.zero_le _) 0 (by omega) (by omega)
          have hend : Ev (fun k => lw_MovesLeast.l0 k l ss (cm l ss l.length : Nat) l.length l.length) true := by
            have key : Ev (fun k => (moves_Plan.f k l).bind fun bt300 => (lw_MovesLeast.l2 k l (cm l ss l.length : Nat) bt300.1 bt300.2 0 (bt300.1.length : Int) 0)) true := by
              refine Ev.bind (plan_ev l (by omega) hw ht) ?_; unfold planP; rw [List.length_map]; exact hl2
            exact key.step (fun k => by rw [lw_MovesLeast.l0, if_neg (by omega)])
          have h0 := ml_l0 l (by omega) ss (by omega) hend l.length 0 (by omega); exact h0.step (fun k => by rw [lw_MovesLeast.j1, if_neg (by decide)]; rfl)
    exact key.step (fun k => by rw [lw_MovesLeast.j0, if_neg (by decide)])
end Go.Proofs.Ytconhodokldcbaa.Pure
