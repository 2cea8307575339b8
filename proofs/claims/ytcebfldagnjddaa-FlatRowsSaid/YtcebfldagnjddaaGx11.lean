-- Written by gp.py (wip/gen) for this claim: pure functions and contracts, out of the translation; not trusted: Lean checks it.
import Derived.Test.YtcebfldagnjddaaGx0
import Derived.Test.YtcebfldagnjddaaGx10
namespace Go.Proofs.Ytcebfldagnjddaa.G
open Go.RowKit Go.Proofs.YtcebfldagnjddaaW.PrintWords Go.Proofs.YtcebfldagnjddaaW.PrintLast Go.Proofs.YtcebfldagnjddaaW.PrintMore
attribute [local go_sem] max2_int min2_int max_two min_two max_three min_three max_four min_four   -- for this text's walks alone
set_option linter.unusedVariables false
set_option linter.unusedSimpArgs false
open Go.Proofs.YtcebfldagnjddaaW.PrintWords renaming below_alloc → zA, pw_below_drewN → zN, below_drew1 → zD, below_set → zS, blk_drewN → zM, blk_drew → zE, blk_alloc → zF, blk_far → zG, blk_put → zP, blk_cell → zC, blk_frozen → zR
/-! ### tendrilref09_Check: function 50 -/
mutual
def tendrilref09_Check.l0 : Nat → List (S69) → Int → Int → Option (Int × Int)
 | 0, _, _, _ => none
 | k + 1, x0, x6, x7 => if x7 < x6 then (if x7 = 64 then (some (x7, 12)) else (if 0 ≤ x7 then (if x7 < (x0.length : Int) then ((tendrilref02_Named.f k ((rd_T69 x0 x7).f0) true).bind fun t266 => (if t266 = true then (if (((rd_T69 x0 x7).f1).size : Int) > 65536 then (some (x7, 3)) else (if x7 > 0 then (if 0 ≤ (wrap64 (x7 - 1)) then (if (wrap64 (x7 - 1)) < (x0.length : Int) then (tendrilref09_Check.j1 k x0 x7 x6 x7 (((rd_T69 x0 (wrap64 (x7 - 1))).f0).toList == ((rd_T69 x0 x7).f0).toList)) else (none)) else (none)) else (tendrilref09_Check.j1 k x0 x7 x6 x7 false))) else (some (x7, 8)))) else (none)) else (none))) else (some (0, 0))
def tendrilref09_Check.j1 : Nat → List (S69) → Int → Int → Int → Bool → Option (Int × Int)
 | 0, _, _, _, _, _ => none
 | k + 1, x0, x4, x6, x7, x44 => if x44 = true then (some (x4, 10)) else (if x4 > 0 then (if 0 ≤ (wrap64 (x4 - 1)) then (if (wrap64 (x4 - 1)) < (x0.length : Int) then (if 0 ≤ x4 then (if x4 < (x0.length : Int) then ((tendrilref02_Compare.f k ((rd_T69 x0 (wrap64 (x4 - 1))).f0) ((rd_T69 x0 x4).f0)).bind fun t272 => (if t272 > 0 then (some (x4, 9)) else (tendrilref09_Check.l0 k x0 x6 (wrap64 (x7 + 1))))) else (none)) else (none)) else (none)) else (none)) else (tendrilref09_Check.l0 k x0 x6 (wrap64 (x7 + 1))))
end
def tendrilref09_Check.f (k : Nat) (l0 : List (S69)) : Option (Int × Int) := tendrilref09_Check.l0 k l0 (l0.length : Int) 0
set_option maxHeartbeats 8000000 in
set_option maxRecDepth 100000 in
theorem tendrilref09_Check.calls (k : Nat) (A0 : Option Addr) (c0 : Nat) (l0 : List (S69)) (r1 : Int) (r2 : Int) (w : World) (hr0 : Kd.C k69 w A0 l0.length l0) (hc0 : l0.length ≤ c0) (h : tendrilref09_Check.f k l0 = some (r1, r2)) :
  Calls Try.prog 50 #[.slice A0 l0.length c0] w fun e w' => e = .returned (.tuple #[.int .i64 r1, .int .i64 r2]) ∧ Drawn0 w w' := by
 have HR0 := Aside0.mk hr0
 have HC0 := Aside0.mk hc0
 clear hr0 hc0
 have H : (tendrilref09_Check.l0 k l0 (l0.length : Int) 0) = some (r1, r2) := h
 clear h
 have H' := Aside0.mk H
 clear H
 go_enter Try.func50, Try.ntmps50
 go_wp2
 repeat (go_quiet (fail); try go_wp2)
 go_loopg [7] k (fun kq v7 w' => ∃ (x7_1 : Int), v7 = .int .i64 x7_1 ∧ Aside0 (tendrilref09_Check.l0 kq l0 (l0.length : Int) x7_1 = some (r1, r2)) ∧ Aside0 (kq ≤ k) ∧ Drawn0 w w')
 case atStart => exact ⟨(0), (by first | rfl | (simp; done) | (simp [*]; done)), H', ⟨Nat.le_refl _⟩, by repeat (first | exact Drawn0.refl _ | apply Drawn0.step)⟩
 case round =>
  clear H'
  obtain ⟨x7_1, rfl, HA, HK1, ⟨m1, rfl⟩⟩ := hrel
  cases gk with
  | zero => exact absurd HA.out (by simp [tendrilref09_Check.l0])
  | succ k1 =>
   have H := HA.out; clear HA
   simp only [tendrilref09_Check.l0] at H
   by_cases c2 : x7_1 < (l0.length : Int)
   ·
    rw [if_pos c2] at H
    have c2b0 : decide (x7_1 < (l0.length : Int)) = true := decide_eq_true c2; clear c2
    by_cases c3 : x7_1 = 64
    ·
     rw [if_pos c3] at H
     have c3b0 : (x7_1 == 64) = true := beq_iff_eq.mpr c3; have c3b1 : (x7_1 != 64) = false := bne_eq_false_iff_eq.mpr c3; clear c3
     simp only [Option.some.injEq, Prod.mk.injEq] at H
     obtain ⟨rfl, rfl⟩ := H
     go_wp2
     repeat (go_quiet (fail); try go_wp2)
     go_ret2
     exact ⟨by first | rfl | (simp; done) | (simp [*]; done), by repeat (first | exact Drawn0.refl _ | apply Drawn0.step)⟩
    ·
     rw [if_neg c3] at H
     have c3b0 : (x7_1 == 64) = false := beq_eq_false_iff_ne.mpr c3; have c3b1 : (x7_1 != 64) = true := bne_iff_ne.mpr c3
     by_cases c4 : 0 ≤ x7_1
     ·
      rw [if_pos c4] at H
      have c4b0 : decide (0 ≤ x7_1) = true := decide_eq_true c4; clear c4
      by_cases c5 : x7_1 < (l0.length : Int)
      ·
       rw [if_pos c5] at H
       have c5b0 : decide (x7_1 < (l0.length : Int)) = true := decide_eq_true c5; clear c5; replace H := Option.bind_eq_some_iff.mp H; obtain ⟨t266, A60, H⟩ := H; replace H : (if t266 = true then (if (((rd_T69 l0 x7_1).f1).size : Int) > 65536 then (some (x7_1, 3)) else (if x7_1 > 0 then (if 0 ≤ (wrap64 (x7_1 - 1)) then (if (wrap64 (x7_1 - 1)) < (l0.length : Int) then (tendrilref09_Check.j1 k1 l0 x7_1 (l0.length : Int) x7_1 (((rd_T69 l0 (wrap64 (x7_1 - 1))).f0).toList == ((rd_T69 l0 x7_1).f0).toList)) else (none)) else (none)) else (tendrilref09_Check.j1 k1 l0 x7_1 (l0.length : Int) x7_1 false))) else (some (x7_1, 8))) = some (r1, r2) := H; have A6 := Aside0.mk A60; clear A60
       by_cases c7 : t266 = true
       ·
        subst c7; have H1 : (if (((rd_T69 l0 x7_1).f1).size : Int) > 65536 then (some (x7_1, 3)) else (if x7_1 > 0 then (if 0 ≤ (wrap64 (x7_1 - 1)) then (if (wrap64 (x7_1 - 1)) < (l0.length : Int) then (tendrilref09_Check.j1 k1 l0 x7_1 (l0.length : Int) x7_1 (((rd_T69 l0 (wrap64 (x7_1 - 1))).f0).toList == ((rd_T69 l0 x7_1).f0).toList)) else (none)) else (none)) else (tendrilref09_Check.j1 k1 l0 x7_1 (l0.length : Int) x7_1 false))) = some (r1, r2) := by rw [if_pos rfl] at H; exact H
        clear H; have H := H1; clear H1
        by_cases c8 : (((rd_T69 l0 x7_1).f1).size : Int) > 65536
        ·
         rw [if_pos c8] at H
         have c8b0 : decide (65536 < (((rd_T69 l0 x7_1).f1).size : Int)) = true := decide_eq_true c8; have c8b1 : decide (65536 < ((rd_T69 l0 x7_1).f1).size) = true := decide_eq_true (by omega); clear c8
         simp only [Option.some.injEq, Prod.mk.injEq] at H
         obtain ⟨rfl, rfl⟩ := H; have p265 : 0 ≤ (x7_1 : Int) := of_decide_eq_true (by assumption); have q265 : x7_1 < (l0.length : Int) := of_decide_eq_true (by assumption); obtain ⟨ad265, e265, hx265_0, hx265_1⟩ := at_T69 HR0.out x7_1 p265 q265; cases e265; replace p265 := eq_true p265; replace q265 := eq_true q265
         go_wp2_with (first | (go_at_call 49; (with_reducible refine (tendrilref02_Named.calls k1 ((rd_T69 l0 x7_1).f0) true true _ A6.out).mono ?_); rintro e w' ⟨rfl, ⟨nd, rfl⟩⟩; (try first | exact ⟨rfl, _, World.drewN_drewN _ _ _⟩ | exact ⟨rfl, _, Eq.trans (World.drewN_drewN _ _ _) (congrArg (World.drewN _) (Nat.add_assoc _ _ _))⟩); have p267 : 0 ≤ (x7_1 : Int) := of_decide_eq_true (by assumption); have q267 : x7_1 < (l0.length : Int) := of_decide_eq_true (by assumption); obtain ⟨ad267, e267, hx267_0, hx267_1⟩ := at_T69 HR0.out x7_1 p267 q267; obtain rfl : ad265 = ad267 := (by injection e267); replace p267 := eq_true p267; replace q267 := eq_true q267))
         repeat (go_quiet (first | (go_at_call 49; (with_reducible refine (tendrilref02_Named.calls k1 ((rd_T69 l0 x7_1).f0) true true _ A6.out).mono ?_); rintro e w' ⟨rfl, ⟨nd, rfl⟩⟩; (try first | exact ⟨rfl, _, World.drewN_drewN _ _ _⟩ | exact ⟨rfl, _, Eq.trans (World.drewN_drewN _ _ _) (congrArg (World.drewN _) (Nat.add_assoc _ _ _))⟩); have p267 : 0 ≤ (x7_1 : Int) := of_decide_eq_true (by assumption); have q267 : x7_1 < (l0.length : Int) := of_decide_eq_true (by assumption); obtain ⟨ad267, e267, hx267_0, hx267_1⟩ := at_T69 HR0.out x7_1 p267 q267; obtain rfl : ad265 = ad267 := (by injection e267); replace p267 := eq_true p267; replace q267 := eq_true q267)); try go_wp2_with (first | (go_at_call 49; (with_reducible refine (tendrilref02_Named.calls k1 ((rd_T69 l0 x7_1).f0) true true _ A6.out).mono ?_); rintro e w' ⟨rfl, ⟨nd, rfl⟩⟩; (try first | exact ⟨rfl, _, World.drewN_drewN _ _ _⟩ | exact ⟨rfl, _, Eq.trans (World.drewN_drewN _ _ _) (congrArg (World.drewN _) (Nat.add_assoc _ _ _))⟩); have p267 : 0 ≤ (x7_1 : Int) := of_decide_eq_true (by assumption); have q267 : x7_1 < (l0.length : Int) := of_decide_eq_true (by assumption); obtain ⟨ad267, e267, hx267_0, hx267_1⟩ := at_T69 HR0.out x7_1 p267 q267; obtain rfl : ad265 = ad267 := (by injection e267); replace p267 := eq_true p267; replace q267 := eq_true q267)))
         go_ret2
         exact ⟨by first | rfl | (simp; done) | (simp [*]; done), by repeat (first | exact Drawn0.refl _ | apply Drawn0.step)⟩
        ·
         rw [if_neg c8] at H
         have c8b0 : decide (65536 < (((rd_T69 l0 x7_1).f1).size : Int)) = false := decide_eq_false c8; have c8b1 : decide (65536 < ((rd_T69 l0 x7_1).f1).size) = false := decide_eq_false (by omega); clear c8; have HC9 := Aside0.mk H; clear H; have p265 : 0 ≤ (x7_1 : Int) := of_decide_eq_true (by assumption); have q265 : x7_1 < (l0.length : Int) := of_decide_eq_true (by assumption); obtain ⟨ad265, e265, hx265_0, hx265_1⟩ := at_T69 HR0.out x7_1 p265 q265; cases e265; replace p265 := eq_true p265; replace q265 := eq_true q265
         go_upto_region 10 with (first | (go_at_call 49; (with_reducible refine (tendrilref02_Named.calls k1 ((rd_T69 l0 x7_1).f0) true true _ A6.out).mono ?_); rintro e w' ⟨rfl, ⟨nd, rfl⟩⟩; (try first | exact ⟨rfl, _, World.drewN_drewN _ _ _⟩ | exact ⟨rfl, _, Eq.trans (World.drewN_drewN _ _ _) (congrArg (World.drewN _) (Nat.add_assoc _ _ _))⟩); have p267 : 0 ≤ (x7_1 : Int) := of_decide_eq_true (by assumption); have q267 : x7_1 < (l0.length : Int) := of_decide_eq_true (by assumption); obtain ⟨ad267, e267, hx267_0, hx267_1⟩ := at_T69 HR0.out x7_1 p267 q267; obtain rfl : ad265 = ad267 := (by injection e267); replace p267 := eq_true p267; replace q267 := eq_true q267))
         repeat (go_quiet (first | (go_at_call 49; (with_reducible refine (tendrilref02_Named.calls k1 ((rd_T69 l0 x7_1).f0) true true _ A6.out).mono ?_); rintro e w' ⟨rfl, ⟨nd, rfl⟩⟩; (try first | exact ⟨rfl, _, World.drewN_drewN _ _ _⟩ | exact ⟨rfl, _, Eq.trans (World.drewN_drewN _ _ _) (congrArg (World.drewN _) (Nat.add_assoc _ _ _))⟩); have p267 : 0 ≤ (x7_1 : Int) := of_decide_eq_true (by assumption); have q267 : x7_1 < (l0.length : Int) := of_decide_eq_true (by assumption); obtain ⟨ad267, e267, hx267_0, hx267_1⟩ := at_T69 HR0.out x7_1 p267 q267; obtain rfl : ad265 = ad267 := (by injection e267); replace p267 := eq_true p267; replace q267 := eq_true q267)); go_upto_region 10 with (first | (go_at_call 49; (with_reducible refine (tendrilref02_Named.calls k1 ((rd_T69 l0 x7_1).f0) true true _ A6.out).mono ?_); rintro e w' ⟨rfl, ⟨nd, rfl⟩⟩; (try first | exact ⟨rfl, _, World.drewN_drewN _ _ _⟩ | exact ⟨rfl, _, Eq.trans (World.drewN_drewN _ _ _) (congrArg (World.drewN _) (Nat.add_assoc _ _ _))⟩); have p267 : 0 ≤ (x7_1 : Int) := of_decide_eq_true (by assumption); have q267 : x7_1 < (l0.length : Int) := of_decide_eq_true (by assumption); obtain ⟨ad267, e267, hx267_0, hx267_1⟩ := at_T69 HR0.out x7_1 p267 q267; obtain rfl : ad265 = ad267 := (by injection e267); replace p267 := eq_true p267; replace q267 := eq_true q267)))
         (try simp only [Act.put, List.setIfInBounds_toArray, List.set_cons_zero, List.set_cons_succ])
         go_cut [44] (fun v44 wc => ∃ (kq : Nat) (x44_8 : Bool), v44 = .bool x44_8 ∧ Aside0 (tendrilref09_Check.j1 kq l0 x7_1 (l0.length : Int) x7_1 x44_8 = some (r1, r2)) ∧ Aside0 (kq ≤ k1) ∧ Drawn0 w wc)
         case first =>
          have H := HC9.out; clear HC9
          by_cases c10 : x7_1 > 0
          ·
           rw [if_pos c10] at H
           have c10b0 : decide (0 < x7_1) = true := decide_eq_true c10; clear c10
           (first | rw [c10b0] | (simp only [i64_w, i32_w]; rw [c10b0]) | skip)
           obtain ⟨ji11, hji11⟩ : ∃ j_ : Int, (wrap64 (x7_1 - 1)) = j_ := ⟨_, rfl⟩; replace H : (if 0 ≤ (ji11) then (if (ji11) < (l0.length : Int) then (tendrilref09_Check.j1 k1 l0 x7_1 (l0.length : Int) x7_1 (((rd_T69 l0 (ji11)).f0).toList == ((rd_T69 l0 x7_1).f0).toList)) else (none)) else (none)) = some (r1, r2) := by first | (rw [hji11] at H; exact H) | (simp only [hji11] at H ⊢; exact H)
           have hji11w : (IntKind.i64.wrap (x7_1 - 1)) = ji11 := (i64_w _).trans hji11
           by_cases c12 : 0 ≤ (ji11)
           ·
            rw [if_pos c12] at H
            have c12b0 : decide (0 ≤ (ji11)) = true := decide_eq_true c12; clear c12
            by_cases c13 : (ji11) < (l0.length : Int)
            ·
             rw [if_pos c13] at H
             have c13b0 : decide ((ji11) < (l0.length : Int)) = true := decide_eq_true c13; clear c13; have H' := Aside0.mk H; clear H; have p268 : 0 ≤ ((ji11) : Int) := of_decide_eq_true (by assumption); have q268 : (ji11) < (l0.length : Int) := of_decide_eq_true (by assumption); obtain ⟨ad268, e268, hx268_0, hx268_1⟩ := at_T69 HR0.out (ji11) p268 q268; obtain rfl : ad265 = ad268 := (by injection e268); replace p268 := eq_true p268; replace q268 := eq_true q268; have p269 : 0 ≤ (x7_1 : Int) := of_decide_eq_true (by assumption); have q269 : x7_1 < (l0.length : Int) := of_decide_eq_true (by assumption); obtain ⟨ad269, e269, hx269_0, hx269_1⟩ := at_T69 HR0.out x7_1 p269 q269; obtain rfl : ad265 = ad269 := (by injection e269); replace p269 := eq_true p269; replace q269 := eq_true q269
             go_wp2
             repeat (go_quiet (fail); try go_wp2)
             go_meet
             case rel => exact ⟨_, ((((rd_T69 l0 (ji11)).f0).toList == ((rd_T69 l0 x7_1).f0).toList)), (by first | rfl | (simp; done) | (simp only [← hji11] <;> (first | rfl | simp)) | (simp [*]; done)), H', ⟨by have := HK1.out; first | omega | exact Nat.le_refl _⟩, by repeat (first | exact Drawn0.refl _ | apply Drawn0.step)⟩
            ·
             rw [if_neg c13] at H
             exact absurd H (by simp)
           ·
            rw [if_neg c12] at H
            exact absurd H (by simp)
          ·
           rw [if_neg c10] at H
           have c10b0 : decide (0 < x7_1) = false := decide_eq_false c10; clear c10
           (first | rw [c10b0] | (simp only [i64_w, i32_w]; rw [c10b0]) | skip)
           have H' := Aside0.mk H; clear H
           go_wp2
           repeat (go_quiet (fail); try go_wp2)
           go_meet
           case rel => exact ⟨_, (false), (by first | rfl | (simp; done) | (simp [*]; done)), H', ⟨by have := HK1.out; first | omega | exact Nat.le_refl _⟩, by repeat (first | exact Drawn0.refl _ | apply Drawn0.step)⟩
         case rest =>
          clear HC9
          try clear c1
          try clear c2
          try clear c2b0
          try clear p2
          try clear q2
          try clear hx2
          try clear c3
          try clear c3b0
          try clear c3b1
          try clear c4
          try clear c4b0
          try clear c5
          try clear c5b0
          try clear p6
          try clear c7
          try clear c8
          try clear c8b0
          try clear c8b1
          try clear c10
          try clear c10b0
          try clear c12
          try clear c12b0
          try clear c13
          try clear c13b0
          try clear hx265_0
          try clear hx265_1
          try clear hx267_0
          try clear hx267_1
          try clear hx268_0
          try clear hx268_1
          try clear hx269_0
          try clear hx269_1
          try clear p265
          try clear p267
          try clear p268
          try clear p269
          try clear q265
          try clear q267
          try clear q268
          try clear q269
          obtain ⟨kq, x44_8, rfl, HA, HJ8, ⟨mc8, rfl⟩⟩ := hcut; cases kq with
          | zero => exact absurd HA.out (by simp [tendrilref09_Check.j1])
          | succ kj8 =>
           have H := HA.out; clear HA
           simp only [tendrilref09_Check.j1] at H
           by_cases c14 : x44_8 = true
           ·
            subst c14; have H1 : (some (x7_1, 10)) = some (r1, r2) := by rw [if_pos rfl] at H; exact H
            clear H; have H := H1; clear H1
            simp only [Option.some.injEq, Prod.mk.injEq] at H
            obtain ⟨rfl, rfl⟩ := H
            go_wp2
            repeat (go_quiet (fail); try go_wp2)
            go_ret2
            exact ⟨by first | rfl | (simp; done) | (simp [*]; done), by repeat (first | exact Drawn0.refl _ | apply Drawn0.step)⟩
           ·
            replace c14 := Bool.eq_false_iff.mpr c14; subst c14; have H1 : (if x7_1 > 0 then (if 0 ≤ (wrap64 (x7_1 - 1)) then (if (wrap64 (x7_1 - 1)) < (l0.length : Int) then (if 0 ≤ x7_1 then (if x7_1 < (l0.length : Int) then ((tendrilref02_Compare.f kj8 ((rd_T69 l0 (wrap64 (x7_1 - 1))).f0) ((rd_T69 l0 x7_1).f0)).bind fun t272 => (if t272 > 0 then (some (x7_1, 9)) else (tendrilref09_Check.l0 kj8 l0 (l0.length : Int) (wrap64 (x7_1 + 1))))) else (none)) else (none)) else (none)) else (none)) else (tendrilref09_Check.l0 kj8 l0 (l0.length : Int) (wrap64 (x7_1 + 1)))) = some (r1, r2) := by rw [if_neg (show ¬ (false = true) by decide)] at H; exact H
            clear H; have H := H1; clear H1
            by_cases c15 : x7_1 > 0
            ·
             rw [if_pos c15] at H
             have c15b0 : decide (0 < x7_1) = true := decide_eq_true c15; clear c15; obtain ⟨ji16, hji16⟩ : ∃ j_ : Int, (wrap64 (x7_1 - 1)) = j_ := ⟨_, rfl⟩; replace H : (if 0 ≤ (ji16) then (if (ji16) < (l0.length : Int) then (if 0 ≤ x7_1 then (if x7_1 < (l0.length : Int) then ((tendrilref02_Compare.f kj8 ((rd_T69 l0 (ji16)).f0) ((rd_T69 l0 x7_1).f0)).bind fun t272 => (if t272 > 0 then (some (x7_1, 9)) else (tendrilref09_Check.l0 kj8 l0 (l0.length : Int) (wrap64 (x7_1 + 1))))) else (none)) else (none)) else (none)) else (none)) = some (r1, r2) := by first | (rw [hji16] at H; exact H) | (simp only [hji16] at H ⊢; exact H)
             have hji16w : (IntKind.i64.wrap (x7_1 - 1)) = ji16 := (i64_w _).trans hji16
             by_cases c17 : 0 ≤ (ji16)
             ·
              rw [if_pos c17] at H
              have c17b0 : decide (0 ≤ (ji16)) = true := decide_eq_true c17; clear c17
              by_cases c18 : (ji16) < (l0.length : Int)
              ·
               rw [if_pos c18] at H
               have c18b0 : decide ((ji16) < (l0.length : Int)) = true := decide_eq_true c18; clear c18
               by_cases c19 : 0 ≤ x7_1
               ·
                rw [if_pos c19] at H
                have c19b0 : decide (0 ≤ x7_1) = true := decide_eq_true c19; clear c19
                by_cases c20 : x7_1 < (l0.length : Int)
                ·
                 rw [if_pos c20] at H
                 have c20b0 : decide (x7_1 < (l0.length : Int)) = true := decide_eq_true c20; clear c20; replace H := Option.bind_eq_some_iff.mp H; obtain ⟨t272, A210, H⟩ := H; replace H : (if t272 > 0 then (some (x7_1, 9)) else (tendrilref09_Check.l0 kj8 l0 (l0.length : Int) (wrap64 (x7_1 + 1)))) = some (r1, r2) := H; have A21 := Aside0.mk A210; clear A210
                 by_cases c22 : t272 > 0
                 ·
                  rw [if_pos c22] at H
                  have c22b0 : decide (0 < t272) = true := decide_eq_true c22; clear c22
                  simp only [Option.some.injEq, Prod.mk.injEq] at H
                  obtain ⟨rfl, rfl⟩ := H; have p270 : 0 ≤ ((ji16) : Int) := of_decide_eq_true (by assumption); have q270 : (ji16) < (l0.length : Int) := of_decide_eq_true (by assumption); obtain ⟨ad270, e270, hx270_0, hx270_1⟩ := at_T69 HR0.out (ji16) p270 q270; obtain rfl : ad265 = ad270 := (by injection e270); replace p270 := eq_true p270; replace q270 := eq_true q270; have p271 : 0 ≤ (x7_1 : Int) := of_decide_eq_true (by assumption); have q271 : x7_1 < (l0.length : Int) := of_decide_eq_true (by assumption); obtain ⟨ad271, e271, hx271_0, hx271_1⟩ := at_T69 HR0.out x7_1 p271 q271; obtain rfl : ad265 = ad271 := (by injection e271); replace p271 := eq_true p271; replace q271 := eq_true q271
                  go_wp2_with (first | (go_at_call 54; (with_reducible refine (tendrilref02_Compare.calls kj8 ((rd_T69 l0 (ji16)).f0) ((rd_T69 l0 x7_1).f0) t272 _ A21.out).mono ?_); rintro e w' ⟨rfl, ⟨nd, rfl⟩⟩; (try first | exact ⟨rfl, _, World.drewN_drewN _ _ _⟩ | exact ⟨rfl, _, Eq.trans (World.drewN_drewN _ _ _) (congrArg (World.drewN _) (Nat.add_assoc _ _ _))⟩)))
                  repeat (go_quiet (first | (go_at_call 54; (with_reducible refine (tendrilref02_Compare.calls kj8 ((rd_T69 l0 (ji16)).f0) ((rd_T69 l0 x7_1).f0) t272 _ A21.out).mono ?_); rintro e w' ⟨rfl, ⟨nd, rfl⟩⟩; (try first | exact ⟨rfl, _, World.drewN_drewN _ _ _⟩ | exact ⟨rfl, _, Eq.trans (World.drewN_drewN _ _ _) (congrArg (World.drewN _) (Nat.add_assoc _ _ _))⟩))); try go_wp2_with (first | (go_at_call 54; (with_reducible refine (tendrilref02_Compare.calls kj8 ((rd_T69 l0 (ji16)).f0) ((rd_T69 l0 x7_1).f0) t272 _ A21.out).mono ?_); rintro e w' ⟨rfl, ⟨nd, rfl⟩⟩; (try first | exact ⟨rfl, _, World.drewN_drewN _ _ _⟩ | exact ⟨rfl, _, Eq.trans (World.drewN_drewN _ _ _) (congrArg (World.drewN _) (Nat.add_assoc _ _ _))⟩))))
                  go_ret2
                  exact ⟨by first | rfl | (simp; done) | (simp only [← hji16] <;> (first | rfl | simp)) | (simp [*]; done), by repeat (first | exact Drawn0.refl _ | apply Drawn0.step)⟩
                 ·
                  rw [if_neg c22] at H
                  have c22b0 : decide (0 < t272) = false := decide_eq_false c22; clear c22; have H' := Aside0.mk H; clear H; have p270 : 0 ≤ ((ji16) : Int) := of_decide_eq_true (by assumption); have q270 : (ji16) < (l0.length : Int) := of_decide_eq_true (by assumption); obtain ⟨ad270, e270, hx270_0, hx270_1⟩ := at_T69 HR0.out (ji16) p270 q270; obtain rfl : ad265 = ad270 := (by injection e270); replace p270 := eq_true p270; replace q270 := eq_true q270; have p271 : 0 ≤ (x7_1 : Int) := of_decide_eq_true (by assumption); have q271 : x7_1 < (l0.length : Int) := of_decide_eq_true (by assumption); obtain ⟨ad271, e271, hx271_0, hx271_1⟩ := at_T69 HR0.out x7_1 p271 q271; obtain rfl : ad265 = ad271 := (by injection e271); replace p271 := eq_true p271; replace q271 := eq_true q271
                  go_wp2_with (first | (go_at_call 54; (with_reducible refine (tendrilref02_Compare.calls kj8 ((rd_T69 l0 (ji16)).f0) ((rd_T69 l0 x7_1).f0) t272 _ A21.out).mono ?_); rintro e w' ⟨rfl, ⟨nd, rfl⟩⟩; (try first | exact ⟨rfl, _, World.drewN_drewN _ _ _⟩ | exact ⟨rfl, _, Eq.trans (World.drewN_drewN _ _ _) (congrArg (World.drewN _) (Nat.add_assoc _ _ _))⟩)))
                  repeat (go_quiet (first | (go_at_call 54; (with_reducible refine (tendrilref02_Compare.calls kj8 ((rd_T69 l0 (ji16)).f0) ((rd_T69 l0 x7_1).f0) t272 _ A21.out).mono ?_); rintro e w' ⟨rfl, ⟨nd, rfl⟩⟩; (try first | exact ⟨rfl, _, World.drewN_drewN _ _ _⟩ | exact ⟨rfl, _, Eq.trans (World.drewN_drewN _ _ _) (congrArg (World.drewN _) (Nat.add_assoc _ _ _))⟩))); try go_wp2_with (first | (go_at_call 54; (with_reducible refine (tendrilref02_Compare.calls kj8 ((rd_T69 l0 (ji16)).f0) ((rd_T69 l0 x7_1).f0) t272 _ A21.out).mono ?_); rintro e w' ⟨rfl, ⟨nd, rfl⟩⟩; (try first | exact ⟨rfl, _, World.drewN_drewN _ _ _⟩ | exact ⟨rfl, _, Eq.trans (World.drewN_drewN _ _ _) (congrArg (World.drewN _) (Nat.add_assoc _ _ _))⟩))))
                  go_roundg kj8
                  case measure => have := HK1.out; have := HJ8.out; omega
                  case rel => exact ⟨(wrap64 (x7_1 + 1)), (by first | rfl | (simp; done) | (simp [*]; done)), H', ⟨by have := HK1.out; have := HJ8.out; omega⟩, by repeat (first | exact Drawn0.refl _ | apply Drawn0.step)⟩
                ·
                 rw [if_neg c20] at H
                 exact absurd H (by simp)
               ·
                rw [if_neg c19] at H
                exact absurd H (by simp)
              ·
               rw [if_neg c18] at H
               exact absurd H (by simp)
             ·
              rw [if_neg c17] at H
              exact absurd H (by simp)
            ·
             rw [if_neg c15] at H
             have c15b0 : decide (0 < x7_1) = false := decide_eq_false c15; clear c15; have H' := Aside0.mk H; clear H
             go_wp2
             repeat (go_quiet (fail); try go_wp2)
             go_roundg kj8
             case measure => have := HK1.out; have := HJ8.out; omega
             case rel => exact ⟨(wrap64 (x7_1 + 1)), (by first | rfl | (simp; done) | (simp [*]; done)), H', ⟨by have := HK1.out; have := HJ8.out; omega⟩, by repeat (first | exact Drawn0.refl _ | apply Drawn0.step)⟩
       ·
        replace c7 := Bool.eq_false_iff.mpr c7; subst c7; have H1 : (some (x7_1, 8)) = some (r1, r2) := by rw [if_neg (show ¬ (false = true) by decide)] at H; exact H
        clear H; have H := H1; clear H1
        simp only [Option.some.injEq, Prod.mk.injEq] at H
        obtain ⟨rfl, rfl⟩ := H; have p265 : 0 ≤ (x7_1 : Int) := of_decide_eq_true (by assumption); have q265 : x7_1 < (l0.length : Int) := of_decide_eq_true (by assumption); obtain ⟨ad265, e265, hx265_0, hx265_1⟩ := at_T69 HR0.out x7_1 p265 q265; cases e265; replace p265 := eq_true p265; replace q265 := eq_true q265
        go_wp2_with (first | (go_at_call 49; (with_reducible refine (tendrilref02_Named.calls k1 ((rd_T69 l0 x7_1).f0) true false _ A6.out).mono ?_); rintro e w' ⟨rfl, ⟨nd, rfl⟩⟩; (try first | exact ⟨rfl, _, World.drewN_drewN _ _ _⟩ | exact ⟨rfl, _, Eq.trans (World.drewN_drewN _ _ _) (congrArg (World.drewN _) (Nat.add_assoc _ _ _))⟩)))
        repeat (go_quiet (first | (go_at_call 49; (with_reducible refine (tendrilref02_Named.calls k1 ((rd_T69 l0 x7_1).f0) true false _ A6.out).mono ?_); rintro e w' ⟨rfl, ⟨nd, rfl⟩⟩; (try first | exact ⟨rfl, _, World.drewN_drewN _ _ _⟩ | exact ⟨rfl, _, Eq.trans (World.drewN_drewN _ _ _) (congrArg (World.drewN _) (Nat.add_assoc _ _ _))⟩))); try go_wp2_with (first | (go_at_call 49; (with_reducible refine (tendrilref02_Named.calls k1 ((rd_T69 l0 x7_1).f0) true false _ A6.out).mono ?_); rintro e w' ⟨rfl, ⟨nd, rfl⟩⟩; (try first | exact ⟨rfl, _, World.drewN_drewN _ _ _⟩ | exact ⟨rfl, _, Eq.trans (World.drewN_drewN _ _ _) (congrArg (World.drewN _) (Nat.add_assoc _ _ _))⟩))))
        go_ret2
        exact ⟨by first | rfl | (simp; done) | (simp [*]; done), by repeat (first | exact Drawn0.refl _ | apply Drawn0.step)⟩
      ·
       rw [if_neg c5] at H
       exact absurd H (by simp)
     ·
      rw [if_neg c4] at H
      exact absurd H (by simp)
   ·
    rw [if_neg c2] at H
    have c2b0 : decide (x7_1 < (l0.length : Int)) = false := decide_eq_false c2; clear c2
    simp only [Option.some.injEq, Prod.mk.injEq] at H
    obtain ⟨rfl, rfl⟩ := H
    go_wp2
    repeat (go_quiet (fail); try go_wp2)
    go_ret2
    exact ⟨by first | rfl | (simp; done) | (simp [*]; done), by repeat (first | exact Drawn0.refl _ | apply Drawn0.step)⟩
/-! ### tendrilref11_Alone: function 41 -/
def tendrilref11_Alone.f (k : Nat) (a0_0 : ByteArray) (a0_1 : ByteArray) (a0_2 : ByteArray) (l0_3 : List (S69)) (l0_4 : List (S25)) : Option (Int) := (tendrilref02_Named.f k a0_0 false).bind fun t274 => (if t274 = true then (if (a0_1.size : Int) > 65536 then (some 3) else (if (a0_2.size : Int) > 65536 then (some 3) else ((tendrilref09_Check.f k l0_3).bind fun bt275 => (some bt275.2)))) else (some 7))
set_option maxHeartbeats 8000000 in
set_option maxRecDepth 100000 in
theorem tendrilref11_Alone.calls (k : Nat) (a0_0 : ByteArray) (a0_1 : ByteArray) (a0_2 : ByteArray) (A0_3 : Option Addr) (c0_3 : Nat) (l0_3 : List (S69)) (A0_4 : Option Addr) (c0_4 : Nat) (l0_4 : List (S25)) (r : Int) (w : World) (hr0_3 : Kd.C k69 w A0_3 l0_3.length l0_3) (hc0_3 : l0_3.length ≤ c0_3) (hr0_4 : Kd.C k25 w A0_4 l0_4.length l0_4) (hc0_4 : l0_4.length ≤ c0_4) (h : tendrilref11_Alone.f k a0_0 a0_1 a0_2 l0_3 l0_4 = some r) :
    Calls Try.prog 41 #[.agg #[.string a0_0, .string a0_1, .string a0_2, .slice A0_3 l0_3.length c0_3, .slice A0_4 l0_4.length c0_4]] w fun e w' => e = .returned (.int .i64 r) ∧ Below w.heap.size w w' := by
  have hu25 := Try.underlying25
  have HR0_3 := Aside0.mk hr0_3
  have HC0_3 := Aside0.mk hc0_3
  clear hr0_3 hc0_3
  have HR0_4 := Aside0.mk hr0_4
  have HC0_4 := Aside0.mk hc0_4
  clear hr0_4 hc0_4
  have HB := Aside0.mk (Below.refl w.heap.size w)
  have H : ((tendrilref02_Named.f k a0_0 false).bind fun t274 => (if t274 = true then (if (a0_1.size : Int) > 65536 then (some 3) else (if (a0_2.size : Int) > 65536 then (some 3) else ((tendrilref09_Check.f k l0_3).bind fun bt275 => (some bt275.2)))) else (some 7))) = some r := h
  clear h
  replace H := Option.bind_eq_some_iff.mp H
  obtain ⟨t274, A20, H⟩ := H
  replace H : (if t274 = true then (if (a0_1.size : Int) > 65536 then (some 3) else (if (a0_2.size : Int) > 65536 then (some 3) else ((tendrilref09_Check.f k l0_3).bind fun bt275 => (some bt275.2)))) else (some 7)) = some r := H
  have A2 := Aside0.mk A20
  clear A20
  by_cases c3 : t274 = true
  · subst c3
    have H1 : (if (a0_1.size : Int) > 65536 then (some 3) else (if (a0_2.size : Int) > 65536 then (some 3) else ((tendrilref09_Check.f k l0_3).bind fun bt275 => (some bt275.2)))) = some r := by rw [if_pos rfl] at H; exact H
    clear H; have H := H1; clear H1
    by_cases c4 : (a0_1.size : Int) > 65536
    · rw [if_pos c4] at H
      have c4b0 : decide (65536 < (a0_1.size : Int)) = true := decide_eq_true c4; have c4b1 : decide (65536 < a0_1.size) = true := decide_eq_true (by omega); clear c4; obtain rfl := Option.some.inj H
      go_enter Try.func41, Try.ntmps41
      go_wp2_with (first | ((with_reducible refine gate_dst (N := 1) rfl ?_); (try (refine gate_guard (by rfl) ?_; dsimp only)); refine box_event ?hg (N := 1) ?hd (cs := #[.string a0_0, .string a0_1, .string a0_2, .slice A0_3 l0_3.length c0_3, .slice A0_4 l0_4.length c0_4]) (t := 25) ?hr ?_; (case hd => rfl); (case hg => rfl); (case hr => first | (go_simp; done) | (go_simp; rfl)); intro gb273 hg w5 hbox hb; have n0_ := Aside0.mk (below_step (by with_reducible repeat first | exact HB.out | apply below_alloc | apply pw_below_drewN | apply below_drew1) hb); have n1_ := Aside0.mk (hbox); have n2_ := Aside0.mk ((by rw [hg]; exact (below_size (by with_reducible repeat first | exact HB.out | apply below_alloc | apply pw_below_drewN | apply below_drew1)) : w.heap.size ≤ gb273)); have n3_ := n2_; clear HB; have HB := n0_; have BK273 := n1_; have GW273 := n2_; have GE273 := n3_; clear n0_ n1_ n2_ n3_; clear hb hbox hg; have hcz6_0 : w5.cell? ⟨gb273, 0, none⟩ = some (.string a0_0) := (blk_cell BK273.out 0).trans rfl; have hcz6_1 : w5.cell? ⟨gb273, 1, none⟩ = some (.string a0_1) := (blk_cell BK273.out 1).trans rfl; have hcz6_2 : w5.cell? ⟨gb273, 2, none⟩ = some (.string a0_2) := (blk_cell BK273.out 2).trans rfl; have hcz6_3 : w5.cell? ⟨gb273, 3, none⟩ = some (.slice A0_3 l0_3.length c0_3) := (blk_cell BK273.out 3).trans rfl; have hcz6_4 : w5.cell? ⟨gb273, 4, none⟩ = some (.slice A0_4 l0_4.length c0_4) := (blk_cell BK273.out 4).trans rfl; have hfz6_0 := blk_frozen BK273.out 0; have hfz6_1 := blk_frozen BK273.out 1; have hfz6_2 := blk_frozen BK273.out 2; have hfz6_3 := blk_frozen BK273.out 3; have hfz6_4 := blk_frozen BK273.out 4) | ((with_reducible refine gate_callee (f := 49) rfl ?_); refine goesL_ (some 7) rfl rfl Try.func49 (by kernel_rfl) rfl #[.string a0_0, .bool false] rfl (by (try simp only [List.map_toArray, List.map_cons, List.map_nil]); first | done | rfl | (simp only [List.length_drop, List.length_take]; rfl)) ?_; (with_reducible refine (tendrilref02_Named.calls k a0_0 false true _ A2.out).mono ?_); rintro e w' ⟨rfl, ⟨nd, rfl⟩⟩; refine ⟨_, rfl, ?_⟩))
      go_ret
      exact ⟨by first | rfl | (simp [errW_none, errW_some] <;> rfl) | (simp [*, errW_none, errW_some] <;> rfl), by with_reducible repeat first | exact HB.out | apply below_alloc | apply pw_below_drewN | apply below_drew1 | refine below_set ?_ GE273.out⟩
    · rw [if_neg c4] at H
      have c4b0 : decide (65536 < (a0_1.size : Int)) = false := decide_eq_false c4; have c4b1 : decide (65536 < a0_1.size) = false := decide_eq_false (by omega); clear c4
      by_cases c7 : (a0_2.size : Int) > 65536
      · rw [if_pos c7] at H
        have c7b0 : decide (65536 < (a0_2.size : Int)) = true := decide_eq_true c7; have c7b1 : decide (65536 < a0_2.size) = true := decide_eq_true (by omega); clear c7; obtain rfl := Option.some.inj H
        go_enter Try.func41, Try.ntmps41
        go_wp2_with (first | ((with_reducible refine gate_dst (N := 1) rfl ?_); (try (refine gate_guard (by rfl) ?_; dsimp only)); refine box_event ?hg (N := 1) ?hd (cs := #[.string a0_0, .string a0_1, .string a0_2, .slice A0_3 l0_3.length c0_3, .slice A0_4 l0_4.length c0_4]) (t := 25) ?hr ?_; (case hd => rfl); (case hg => rfl); (case hr => first | (go_simp; done) | (go_simp; rfl)); intro gb273 hg w8 hbox hb; have n0_ := Aside0.mk (below_step (by with_reducible repeat first | exact HB.out | apply below_alloc | apply pw_below_drewN | apply below_drew1) hb); have n1_ := Aside0.mk (hbox); have n2_ := Aside0.mk ((by rw [hg]; exact (below_size (by with_reducible repeat first | exact HB.out | apply below_alloc | apply pw_below_drewN | apply below_drew1)) : w.heap.size ≤ gb273)); have n3_ := n2_; clear HB; have HB := n0_; have BK273 := n1_; have GW273 := n2_; have GE273 := n3_; clear n0_ n1_ n2_ n3_; clear hb hbox hg; have hcz9_0 : w8.cell? ⟨gb273, 0, none⟩ = some (.string a0_0) := (blk_cell BK273.out 0).trans rfl; have hcz9_1 : w8.cell? ⟨gb273, 1, none⟩ = some (.string a0_1) := (blk_cell BK273.out 1).trans rfl; have hcz9_2 : w8.cell? ⟨gb273, 2, none⟩ = some (.string a0_2) := (blk_cell BK273.out 2).trans rfl; have hcz9_3 : w8.cell? ⟨gb273, 3, none⟩ = some (.slice A0_3 l0_3.length c0_3) := (blk_cell BK273.out 3).trans rfl; have hcz9_4 : w8.cell? ⟨gb273, 4, none⟩ = some (.slice A0_4 l0_4.length c0_4) := (blk_cell BK273.out 4).trans rfl; have hfz9_0 := blk_frozen BK273.out 0; have hfz9_1 := blk_frozen BK273.out 1; have hfz9_2 := blk_frozen BK273.out 2; have hfz9_3 := blk_frozen BK273.out 3; have hfz9_4 := blk_frozen BK273.out 4) | ((with_reducible refine gate_callee (f := 49) rfl ?_); refine goesL_ (some 7) rfl rfl Try.func49 (by kernel_rfl) rfl #[.string a0_0, .bool false] rfl (by (try simp only [List.map_toArray, List.map_cons, List.map_nil]); first | done | rfl | (simp only [List.length_drop, List.length_take]; rfl)) ?_; (with_reducible refine (tendrilref02_Named.calls k a0_0 false true _ A2.out).mono ?_); rintro e w' ⟨rfl, ⟨nd, rfl⟩⟩; refine ⟨_, rfl, ?_⟩))
        go_ret
        exact ⟨by first | rfl | (simp [errW_none, errW_some] <;> rfl) | (simp [*, errW_none, errW_some] <;> rfl), by with_reducible repeat first | exact HB.out | apply below_alloc | apply pw_below_drewN | apply below_drew1 | refine below_set ?_ GE273.out⟩
      · rw [if_neg c7] at H
        have c7b0 : decide (65536 < (a0_2.size : Int)) = false := decide_eq_false c7; have c7b1 : decide (65536 < a0_2.size) = false := decide_eq_false (by omega); clear c7; replace H := Option.bind_eq_some_iff.mp H; obtain ⟨⟨t275, t276⟩, A100, H⟩ := H; replace H : (some t276) = some r := H; have A10 := Aside0.mk A100; clear A100; obtain rfl := Option.some.inj H
        go_enter Try.func41, Try.ntmps41
        go_wp2_with (first | ((with_reducible refine gate_dst (N := 1) rfl ?_); (try (refine gate_guard (by rfl) ?_; dsimp only)); refine box_event ?hg (N := 1) ?hd (cs := #[.string a0_0, .string a0_1, .string a0_2, .slice A0_3 l0_3.length c0_3, .slice A0_4 l0_4.length c0_4]) (t := 25) ?hr ?_; (case hd => rfl); (case hg => rfl); (case hr => first | (go_simp; done) | (go_simp; rfl)); intro gb273 hg w11 hbox hb; have n0_ := Aside0.mk (below_step (by with_reducible repeat first | exact HB.out | apply below_alloc | apply pw_below_drewN | apply below_drew1) hb); have n1_ := Aside0.mk (hbox); have n2_ := Aside0.mk ((by rw [hg]; exact (below_size (by with_reducible repeat first | exact HB.out | apply below_alloc | apply pw_below_drewN | apply below_drew1)) : w.heap.size ≤ gb273)); have n3_ := n2_; clear HB; have HB := n0_; have BK273 := n1_; have GW273 := n2_; have GE273 := n3_; clear n0_ n1_ n2_ n3_; clear hb hbox hg; have hcz12_0 : w11.cell? ⟨gb273, 0, none⟩ = some (.string a0_0) := (blk_cell BK273.out 0).trans rfl; have hcz12_1 : w11.cell? ⟨gb273, 1, none⟩ = some (.string a0_1) := (blk_cell BK273.out 1).trans rfl; have hcz12_2 : w11.cell? ⟨gb273, 2, none⟩ = some (.string a0_2) := (blk_cell BK273.out 2).trans rfl; have hcz12_3 : w11.cell? ⟨gb273, 3, none⟩ = some (.slice A0_3 l0_3.length c0_3) := (blk_cell BK273.out 3).trans rfl; have hcz12_4 : w11.cell? ⟨gb273, 4, none⟩ = some (.slice A0_4 l0_4.length c0_4) := (blk_cell BK273.out 4).trans rfl; have hfz12_0 := blk_frozen BK273.out 0; have hfz12_1 := blk_frozen BK273.out 1; have hfz12_2 := blk_frozen BK273.out 2; have hfz12_3 := blk_frozen BK273.out 3; have hfz12_4 := blk_frozen BK273.out 4) | ((with_reducible refine gate_callee (f := 49) rfl ?_); refine goesL_ (some 7) rfl rfl Try.func49 (by kernel_rfl) rfl #[.string a0_0, .bool false] rfl (by (try simp only [List.map_toArray, List.map_cons, List.map_nil]); first | done | rfl | (simp only [List.length_drop, List.length_take]; rfl)) ?_; (with_reducible refine (tendrilref02_Named.calls k a0_0 false true _ A2.out).mono ?_); rintro e w' ⟨rfl, ⟨nd, rfl⟩⟩; refine ⟨_, rfl, ?_⟩) | ((with_reducible refine gate_callee (f := 50) rfl ?_); refine goesL_ (some 22) rfl rfl Try.func50 (by kernel_rfl) rfl #[.slice A0_3 l0_3.length c0_3] rfl (by (try simp only [List.map_toArray, List.map_cons, List.map_nil]); first | done | rfl | (simp only [List.length_drop, List.length_take]; rfl)) ?_; (with_reducible refine (tendrilref09_Check.calls k _ _ l0_3 t275 t276 _ ?side1 ?side2 A10.out).mono ?_); (case side1 => repeat (first | exact (Kd.C_below HR0_3.out (by with_reducible repeat first | exact HB.out | apply below_alloc | apply pw_below_drewN | apply below_drew1 | refine below_set ?_ GE273.out)) | (with_reducible refine Kd.C_alloc ?_ _) | (with_reducible refine Kd.C_drewN ?_ _) | (with_reducible refine Kd.C_drew ?_))); (case side2 => exact HC0_3.out); rintro e w' ⟨rfl, ⟨nd, rfl⟩⟩; refine ⟨_, rfl, ?_⟩))
        go_ret
        exact ⟨by first | rfl | (simp [errW_none, errW_some] <;> rfl) | (simp [*, errW_none, errW_some] <;> rfl), by with_reducible repeat first | exact HB.out | apply below_alloc | apply pw_below_drewN | apply below_drew1 | refine below_set ?_ GE273.out⟩
  · replace c3 := Bool.eq_false_iff.mpr c3
    subst c3; have H1 : (some 7) = some r := by rw [if_neg (show ¬ (false = true) by decide)] at H; exact H
    clear H; have H := H1; clear H1; obtain rfl := Option.some.inj H
    go_enter Try.func41, Try.ntmps41
    go_wp2_with (first | ((with_reducible refine gate_dst (N := 1) rfl ?_); (try (refine gate_guard (by rfl) ?_; dsimp only)); refine box_event ?hg (N := 1) ?hd (cs := #[.string a0_0, .string a0_1, .string a0_2, .slice A0_3 l0_3.length c0_3, .slice A0_4 l0_4.length c0_4]) (t := 25) ?hr ?_; (case hd => rfl); (case hg => rfl); (case hr => first | (go_simp; done) | (go_simp; rfl)); intro gb273 hg w13 hbox hb; have n0_ := Aside0.mk (below_step (by with_reducible repeat first | exact HB.out | apply below_alloc | apply pw_below_drewN | apply below_drew1) hb); have n1_ := Aside0.mk (hbox); have n2_ := Aside0.mk ((by rw [hg]; exact (below_size (by with_reducible repeat first | exact HB.out | apply below_alloc | apply pw_below_drewN | apply below_drew1)) : w.heap.size ≤ gb273)); have n3_ := n2_; clear HB; have HB := n0_; have BK273 := n1_; have GW273 := n2_; have GE273 := n3_; clear n0_ n1_ n2_ n3_; clear hb hbox hg; have hcz14_0 : w13.cell? ⟨gb273, 0, none⟩ = some (.string a0_0) := (blk_cell BK273.out 0).trans rfl; have hcz14_1 : w13.cell? ⟨gb273, 1, none⟩ = some (.string a0_1) := (blk_cell BK273.out 1).trans rfl; have hcz14_2 : w13.cell? ⟨gb273, 2, none⟩ = some (.string a0_2) := (blk_cell BK273.out 2).trans rfl; have hcz14_3 : w13.cell? ⟨gb273, 3, none⟩ = some (.slice A0_3 l0_3.length c0_3) := (blk_cell BK273.out 3).trans rfl; have hcz14_4 : w13.cell? ⟨gb273, 4, none⟩ = some (.slice A0_4 l0_4.length c0_4) := (blk_cell BK273.out 4).trans rfl; have hfz14_0 := blk_frozen BK273.out 0; have hfz14_1 := blk_frozen BK273.out 1; have hfz14_2 := blk_frozen BK273.out 2; have hfz14_3 := blk_frozen BK273.out 3; have hfz14_4 := blk_frozen BK273.out 4) | ((with_reducible refine gate_callee (f := 49) rfl ?_); refine goesL_ (some 7) rfl rfl Try.func49 (by kernel_rfl) rfl #[.string a0_0, .bool false] rfl (by (try simp only [List.map_toArray, List.map_cons, List.map_nil]); first | done | rfl | (simp only [List.length_drop, List.length_take]; rfl)) ?_; (with_reducible refine (tendrilref02_Named.calls k a0_0 false false _ A2.out).mono ?_); rintro e w' ⟨rfl, ⟨nd, rfl⟩⟩; refine ⟨_, rfl, ?_⟩))
    go_ret
    exact ⟨by first | rfl | (simp [errW_none, errW_some] <;> rfl) | (simp [*, errW_none, errW_some] <;> rfl), by with_reducible repeat first | exact HB.out | apply below_alloc | apply pw_below_drewN | apply below_drew1 | refine below_set ?_ GE273.out⟩
end Go.Proofs.Ytcebfldagnjddaa.G
