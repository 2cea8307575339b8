-- Written by gp.py (wip/gen) for this claim: pure functions and contracts, out of the translation; not trusted: Lean checks it.
import Derived.Test.YtcebfldagnjddaaGx0
import Derived.Test.YtcebfldagnjddaaH0
namespace Go.Proofs.Ytcebfldagnjddaa.G
open Go.RowKit Go.Proofs.YtcebfldagnjddaaW.PrintWords Go.Proofs.YtcebfldagnjddaaW.PrintLast Go.Proofs.YtcebfldagnjddaaW.PrintMore
attribute [local go_sem] max2_int min2_int max_two min_two max_three min_three max_four min_four   -- for this text's walks alone
set_option linter.unusedVariables false
set_option linter.unusedSimpArgs false
/-! ### chars_small: function 60 -/
def chars_small.f (a0 : Int) : Option (Bool) := if a0 ≥ 97 then (some (decide (a0 ≤ 122))) else (some false)
set_option maxHeartbeats 8000000 in
set_option maxRecDepth 100000 in
theorem chars_small.calls (a0 : Int) (r : Bool) (w : World) (h : chars_small.f a0 = some r) :
    Calls Try.prog 60 #[.int .u8 a0] w fun e w' => e = .returned (.bool r) ∧ Drawn0 w w' := by
  have H : (if a0 ≥ 97 then (some (decide (a0 ≤ 122))) else (some false)) = some r := h
  clear h
  by_cases c2 : a0 ≥ 97
  · rw [if_pos c2] at H
    have c2b0 : decide (97 ≤ a0) = true := decide_eq_true c2; clear c2; obtain rfl := Option.some.inj H
    go_enter Try.func60, Try.ntmps60
    go_wp2
    go_ret
    exact ⟨by first | rfl | (simp; done) | (simp [*]; done), by repeat (first | exact Drawn0.refl _ | apply Drawn0.step)⟩
  · rw [if_neg c2] at H
    have c2b0 : decide (97 ≤ a0) = false := decide_eq_false c2; clear c2; obtain rfl := Option.some.inj H
    go_enter Try.func60, Try.ntmps60
    go_wp2
    go_ret
    exact ⟨by first | rfl | (simp; done) | (simp [*]; done), by repeat (first | exact Drawn0.refl _ | apply Drawn0.step)⟩
-- NOT PRINTED: function 63 (bytealg_IndexByteString)
-- NOT PRINTED: function 62 (stringslite_IndexByte)
open Go.Proofs.YtcebfldagnjddaaW.PrintWords renaming below_alloc → zA, pw_below_drewN → zN, below_drew1 → zD, below_set → zS, blk_drewN → zM, blk_drew → zE, blk_alloc → zF, blk_far → zG, blk_put → zP, blk_cell → zC, blk_frozen → zR
/-! ### chars_named: function 58 -/
mutual
def chars_named.j0 : Nat → ByteArray → ByteArray → Bool → Option (Bool)
 | 0, _, _, _ => none
 | k + 1, x0, x1, x19 => if x19 = true then (some false) else (chars_named.l0 k x0 x1 (x0.size : Int) 0)
def chars_named.l0 : Nat → ByteArray → ByteArray → Int → Int → Option (Bool)
 | 0, _, _, _, _ => none
 | k + 1, x0, x1, x21, x22 => if x22 < x21 then (if 0 ≤ x22 then (if x22 < (x0.size : Int) then ((chars_small.f (bt x0 x22)).bind fun t102 => (if t102 = true then (chars_named.l0 k x0 x1 x21 (wrap64 (x22 + 1))) else (if (bt x0 x22) < 48 then ((strings_IndexByte.f x1 (bt x0 x22)).bind fun t103 => (if t103 < 0 then (some false) else (chars_named.l0 k x0 x1 x21 (wrap64 (x22 + 1))))) else (if (bt x0 x22) > 57 then ((strings_IndexByte.f x1 (bt x0 x22)).bind fun t104 => (if t104 < 0 then (some false) else (chars_named.l0 k x0 x1 x21 (wrap64 (x22 + 1))))) else (chars_named.l0 k x0 x1 x21 (wrap64 (x22 + 1))))))) else (none)) else (none)) else (some true)
end
def chars_named.f (k : Nat) (a0 : ByteArray) (a1 : ByteArray) : Option (Bool) := if a0.toList = ([] : List UInt8) then (chars_named.j0 k a0 a1 true) else (if (a0.size : Int) > 32 then (chars_named.j0 k a0 a1 true) else (if 0 < (a0.size : Int) then ((chars_small.f (bt a0 0)).bind fun t101 => (chars_named.j0 k a0 a1 (!t101))) else (none)))
theorem chars_named.mono_l : ∀ k, (∀ y0 y1 y2, LeO (chars_named.j0 k y0 y1 y2) (chars_named.j0 (k + 1) y0 y1 y2)) ∧ (∀ y0 y1 y2 y3, LeO (chars_named.l0 k y0 y1 y2 y3) (chars_named.l0 (k + 1) y0 y1 y2 y3))
 | 0 => ⟨fun _ _ _ r h => by simp [chars_named.j0] at h, fun _ _ _ _ r h => by simp [chars_named.l0] at h⟩
 | k + 1 => by
  obtain ⟨ih0, ih1⟩ := chars_named.mono_l k
  refine ⟨?_, ?_⟩
  ·
   intro y0 y1 y2; unfold chars_named.j0
   repeat' first
   | (with_reducible exact ih0 _ _ _)
   | (with_reducible exact ih1 _ _ _ _)
   | (with_reducible exact LeO.refl _)
   | (with_reducible exact LeO.none _)
   | (with_reducible refine LeO.ite ?_ ?_)
   | (with_reducible refine LeO.bind ?_ (fun _ => ?_))
  ·
   intro y0 y1 y2 y3; unfold chars_named.l0
   repeat' first
   | (with_reducible exact ih0 _ _ _)
   | (with_reducible exact ih1 _ _ _ _)
   | (with_reducible exact LeO.refl _)
   | (with_reducible exact LeO.none _)
   | (with_reducible refine LeO.ite ?_ ?_)
   | (with_reducible refine LeO.bind ?_ (fun _ => ?_))
theorem chars_named.mono : ∀ a0 a1 k, LeO (chars_named.f k a0 a1) (chars_named.f (k + 1) a0 a1) := by
 intro a0 a1 k
 obtain ⟨ih0, ih1⟩ := chars_named.mono_l k
 unfold chars_named.f
 repeat' first
   | (with_reducible exact ih0 _ _ _)
   | (with_reducible exact ih1 _ _ _ _)
   | (with_reducible exact LeO.refl _)
   | (with_reducible exact LeO.none _)
   | (with_reducible refine LeO.ite ?_ ?_)
   | (with_reducible refine LeO.bind ?_ (fun _ => ?_))
set_option maxHeartbeats 8000000 in
set_option maxRecDepth 100000 in
theorem chars_named.calls (k : Nat) (a0 : ByteArray) (a1 : ByteArray) (r : Bool) (w : World) (h : chars_named.f k a0 a1 = some r) :
  Calls Try.prog 58 #[.string a0, .string a1] w fun e w' => e = .returned (.bool r) ∧ Drawn0 w w' := by
 have H : (if a0.toList = ([] : List UInt8) then (chars_named.j0 k a0 a1 true) else (if (a0.size : Int) > 32 then (chars_named.j0 k a0 a1 true) else (if 0 < (a0.size : Int) then ((chars_small.f (bt a0 0)).bind fun t101 => (chars_named.j0 k a0 a1 (!t101))) else (none)))) = some r := h
 clear h
 have HC3 := Aside0.mk H
 clear H
 go_enter Try.func58, Try.ntmps58
 go_upto_region 1 with (fail)
 go_cut [19] (fun v19 wc => ∃ (kq : Nat) (x19_2 : Bool), v19 = .bool x19_2 ∧ Aside0 (chars_named.j0 kq a0 a1 x19_2 = some r) ∧ Aside0 (kq ≤ k) ∧ Drawn0 w wc)
 case first =>
  have H := HC3.out
  clear HC3
  by_cases c4 : a0.toList = ([] : List UInt8)
  ·
   rw [if_pos c4] at H
   have c4b0 : (a0.toList == ([] : List UInt8)) = true := beq_iff_eq.mpr c4; have c4b1 : (a0.toList != ([] : List UInt8)) = false := bne_eq_false_iff_eq.mpr c4; clear c4
   (first | rw [c4b0] | (simp only [i64_w, i32_w]; rw [c4b0]) | skip)
   have H' := Aside0.mk H; clear H
   go_wp2
   go_meet
   case rel => exact ⟨_, (true), (by first | rfl | (simp; done) | (simp [*]; done)), H', ⟨by first | omega | exact Nat.le_refl _⟩, by repeat (first | exact Drawn0.refl _ | apply Drawn0.step)⟩
  ·
   rw [if_neg c4] at H
   have c4b0 : (a0.toList == ([] : List UInt8)) = false := beq_eq_false_iff_ne.mpr c4; have c4b1 : (a0.toList != ([] : List UInt8)) = true := bne_iff_ne.mpr c4
   (first | rw [c4b0] | (simp only [i64_w, i32_w]; rw [c4b0]) | skip)
   by_cases c5 : (a0.size : Int) > 32
   ·
    rw [if_pos c5] at H
    have c5b0 : decide (32 < (a0.size : Int)) = true := decide_eq_true c5; have c5b1 : decide (32 < a0.size) = true := decide_eq_true (by omega); clear c5; have H' := Aside0.mk H; clear H
    go_wp2
    go_meet
    case rel => exact ⟨_, (true), (by first | rfl | (simp; done) | (simp [*]; done)), H', ⟨by first | omega | exact Nat.le_refl _⟩, by repeat (first | exact Drawn0.refl _ | apply Drawn0.step)⟩
   ·
    rw [if_neg c5] at H
    have c5b0 : decide (32 < (a0.size : Int)) = false := decide_eq_false c5; have c5b1 : decide (32 < a0.size) = false := decide_eq_false (by omega); clear c5
    by_cases c6 : 0 < (a0.size : Int)
    ·
     rw [if_pos c6] at H
     have c6b0 : decide (0 < (a0.size : Int)) = true := decide_eq_true c6; have c6b1 : decide (0 < a0.size) = true := decide_eq_true (by omega); clear c6; replace H := Option.bind_eq_some_iff.mp H; obtain ⟨t101, A80, H⟩ := H; replace H : (chars_named.j0 k a0 a1 (!t101)) = some r := H; have A8 := Aside0.mk A80; clear A80; have H' := Aside0.mk H; clear H; have p7 : 0 ≤ (0 : Int) := (by omega); have q7 : 0 < a0.size := (by have : (0 : Int) < (a0.size : Int) := of_decide_eq_true (by assumption); omega); have hx7 : ∀ h : 0 < a0.size, ((a0[0]'h).toNat : Int) = bt a0 0 := bt_at a0 0; clear p7; have qi7 : (0 < (a0.size : Int)) = True := eq_true (of_decide_eq_true (by assumption)); replace q7 := eq_true q7
     go_wp2_with (first | (go_at_call 60; (with_reducible refine (chars_small.calls (bt a0 0) t101 _ A8.out).mono ?_); rintro e w' ⟨rfl, ⟨nd, rfl⟩⟩))
     go_meet
     case rel => exact ⟨_, (!t101), (by first | rfl | (simp; done) | (simp [*]; done)), H', ⟨by first | omega | exact Nat.le_refl _⟩, by repeat (first | exact Drawn0.refl _ | apply Drawn0.step)⟩
    ·
     rw [if_neg c6] at H
     exact absurd H (by simp)
 case rest =>
  clear HC3
  try clear p2
  try clear c4
  try clear c4b0
  try clear c4b1
  try clear c5
  try clear c5b0
  try clear c5b1
  try clear c6
  try clear c6b0
  try clear c6b1
  try clear p7
  try clear q7
  try clear hx7
  try clear qi7
  try clear p7
  try clear q7
  obtain ⟨kq, x19_2, rfl, HA, HJ2, ⟨mc2, rfl⟩⟩ := hcut
  cases kq with
  | zero => exact absurd HA.out (by simp [chars_named.j0])
  | succ kj2 =>
   have H := HA.out; clear HA
   simp only [chars_named.j0] at H
   by_cases c9 : x19_2 = true
   ·
    subst c9; have H1 : (some false) = some r := by rw [if_pos rfl] at H; exact H
    clear H; have H := H1; clear H1; obtain rfl := Option.some.inj H
    go_wp2
    go_ret
    exact ⟨by first | rfl | (simp; done) | (simp [*]; done), by repeat (first | exact Drawn0.refl _ | apply Drawn0.step)⟩
   ·
    replace c9 := Bool.eq_false_iff.mpr c9; subst c9; have H1 : (chars_named.l0 kj2 a0 a1 (a0.size : Int) 0) = some r := by rw [if_neg (show ¬ (false = true) by decide)] at H; exact H
    clear H; have H := H1; clear H1; have H' := Aside0.mk H; clear H
    go_wp2
    go_loopg [22] kj2 (fun kq v22 w' => ∃ (x22_2 : Int), v22 = .int .i64 x22_2 ∧ Aside0 (chars_named.l0 kq a0 a1 (a0.size : Int) x22_2 = some r) ∧ Aside0 (kq ≤ kj2) ∧ Drawn0 w w')
    case atStart => exact ⟨(0), (by first | rfl | (simp; done) | (simp [*]; done)), H', ⟨Nat.le_refl _⟩, by repeat (first | exact Drawn0.refl _ | apply Drawn0.step)⟩
    case round =>
     clear H'
     try clear c2
     try clear p2
     try clear c4
     try clear c4b0
     try clear c4b1
     try clear c5
     try clear c5b0
     try clear c5b1
     try clear c6
     try clear c6b0
     try clear c6b1
     try clear p7
     try clear q7
     try clear hx7
     try clear qi7
     try clear c9
     try clear p2
     try clear p7
     try clear q7
     obtain ⟨x22_2, rfl, HA, HK2, ⟨m2, rfl⟩⟩ := hrel; cases gk with
     | zero => exact absurd HA.out (by simp [chars_named.l0])
     | succ k2 =>
      have H := HA.out; clear HA
      simp only [chars_named.l0] at H
      by_cases c10 : x22_2 < (a0.size : Int)
      ·
       rw [if_pos c10] at H
       have c10b0 : decide (x22_2 < (a0.size : Int)) = true := decide_eq_true c10; clear c10
       by_cases c11 : 0 ≤ x22_2
       ·
        rw [if_pos c11] at H
        have c11b0 : decide (0 ≤ x22_2) = true := decide_eq_true c11; clear c11
        by_cases c12 : x22_2 < (a0.size : Int)
        ·
         rw [if_pos c12] at H
         have c12b0 : decide (x22_2 < (a0.size : Int)) = true := decide_eq_true c12; clear c12; replace H := Option.bind_eq_some_iff.mp H; obtain ⟨t102, A140, H⟩ := H; replace H : (if t102 = true then (chars_named.l0 k2 a0 a1 (a0.size : Int) (wrap64 (x22_2 + 1))) else (if (bt a0 x22_2) < 48 then ((strings_IndexByte.f a1 (bt a0 x22_2)).bind fun t103 => (if t103 < 0 then (some false) else (chars_named.l0 k2 a0 a1 (a0.size : Int) (wrap64 (x22_2 + 1))))) else (if (bt a0 x22_2) > 57 then ((strings_IndexByte.f a1 (bt a0 x22_2)).bind fun t104 => (if t104 < 0 then (some false) else (chars_named.l0 k2 a0 a1 (a0.size : Int) (wrap64 (x22_2 + 1))))) else (chars_named.l0 k2 a0 a1 (a0.size : Int) (wrap64 (x22_2 + 1)))))) = some r := H; have A14 := Aside0.mk A140; clear A140
         by_cases c15 : t102 = true
         ·
          subst c15; have H1 : (chars_named.l0 k2 a0 a1 (a0.size : Int) (wrap64 (x22_2 + 1))) = some r := by rw [if_pos rfl] at H; exact H
          clear H; have H := H1; clear H1; have H' := Aside0.mk H; clear H; have p13 : 0 ≤ (x22_2 : Int) := of_decide_eq_true (by assumption); have q13 : x22_2 < (a0.size : Int) := of_decide_eq_true (by assumption); have hx13 := bt_at a0 x22_2; replace p13 := eq_true p13; replace q13 := eq_true q13
          go_wp2_with (first | ((with_reducible refine gate_callee (f := 60) rfl ?_); refine goesL_ (some 29) rfl rfl Try.func60 (by kernel_rfl) rfl #[.int .u8 (bt a0 x22_2)] rfl (by (try simp only [List.map_toArray, List.map_cons, List.map_nil]); first | done | rfl | (simp only [List.length_drop, List.length_take]; rfl)) ?_; (with_reducible refine (chars_small.calls (bt a0 x22_2) true _ A14.out).mono ?_); rintro e w' ⟨rfl, ⟨nd, rfl⟩⟩; refine ⟨_, rfl, ?_⟩))
          go_roundg k2
          case measure => have := HJ2.out; have := HK2.out; omega
          case rel => exact ⟨(wrap64 (x22_2 + 1)), (by first | rfl | (simp; done) | (simp [*]; done)), H', ⟨by have := HJ2.out; have := HK2.out; omega⟩, by repeat (first | exact Drawn0.refl _ | apply Drawn0.step)⟩
         ·
          replace c15 := Bool.eq_false_iff.mpr c15; subst c15; have H1 : (if (bt a0 x22_2) < 48 then ((strings_IndexByte.f a1 (bt a0 x22_2)).bind fun t103 => (if t103 < 0 then (some false) else (chars_named.l0 k2 a0 a1 (a0.size : Int) (wrap64 (x22_2 + 1))))) else (if (bt a0 x22_2) > 57 then ((strings_IndexByte.f a1 (bt a0 x22_2)).bind fun t104 => (if t104 < 0 then (some false) else (chars_named.l0 k2 a0 a1 (a0.size : Int) (wrap64 (x22_2 + 1))))) else (chars_named.l0 k2 a0 a1 (a0.size : Int) (wrap64 (x22_2 + 1))))) = some r := by rw [if_neg (show ¬ (false = true) by decide)] at H; exact H
          clear H; have H := H1; clear H1
          by_cases c16 : (bt a0 x22_2) < 48
          ·
           rw [if_pos c16] at H
           have c16b0 : decide ((bt a0 x22_2) < 48) = true := decide_eq_true c16; clear c16; replace H := Option.bind_eq_some_iff.mp H; obtain ⟨t103, A170, H⟩ := H; replace H : (if t103 < 0 then (some false) else (chars_named.l0 k2 a0 a1 (a0.size : Int) (wrap64 (x22_2 + 1)))) = some r := H; have A17 := Aside0.mk A170; clear A170
           by_cases c18 : t103 < 0
           ·
            rw [if_pos c18] at H
            have c18b0 : decide (t103 < 0) = true := decide_eq_true c18; clear c18; obtain rfl := Option.some.inj H; have p13 : 0 ≤ (x22_2 : Int) := of_decide_eq_true (by assumption); have q13 : x22_2 < (a0.size : Int) := of_decide_eq_true (by assumption); have hx13 := bt_at a0 x22_2; replace p13 := eq_true p13; replace q13 := eq_true q13
            go_wp2_with (first | ((with_reducible refine gate_callee (f := 60) rfl ?_); refine goesL_ (some 29) rfl rfl Try.func60 (by kernel_rfl) rfl #[.int .u8 (bt a0 x22_2)] rfl (by (try simp only [List.map_toArray, List.map_cons, List.map_nil]); first | done | rfl | (simp only [List.length_drop, List.length_take]; rfl)) ?_; (with_reducible refine (chars_small.calls (bt a0 x22_2) false _ A14.out).mono ?_); rintro e w' ⟨rfl, ⟨nd, rfl⟩⟩; refine ⟨_, rfl, ?_⟩) | (go_at_call 61; (with_reducible refine (strings_IndexByte.calls a1 (bt a0 x22_2) t103 _ A17.out).mono ?_); rintro e w' ⟨rfl, ⟨nd, rfl⟩⟩))
            go_ret
            exact ⟨by first | rfl | (simp; done) | (simp [*]; done), by repeat (first | exact Drawn0.refl _ | apply Drawn0.step)⟩
           ·
            rw [if_neg c18] at H
            have c18b0 : decide (t103 < 0) = false := decide_eq_false c18; clear c18; have H' := Aside0.mk H; clear H; have p13 : 0 ≤ (x22_2 : Int) := of_decide_eq_true (by assumption); have q13 : x22_2 < (a0.size : Int) := of_decide_eq_true (by assumption); have hx13 := bt_at a0 x22_2; replace p13 := eq_true p13; replace q13 := eq_true q13
            go_wp2_with (first | ((with_reducible refine gate_callee (f := 60) rfl ?_); refine goesL_ (some 29) rfl rfl Try.func60 (by kernel_rfl) rfl #[.int .u8 (bt a0 x22_2)] rfl (by (try simp only [List.map_toArray, List.map_cons, List.map_nil]); first | done | rfl | (simp only [List.length_drop, List.length_take]; rfl)) ?_; (with_reducible refine (chars_small.calls (bt a0 x22_2) false _ A14.out).mono ?_); rintro e w' ⟨rfl, ⟨nd, rfl⟩⟩; refine ⟨_, rfl, ?_⟩) | (go_at_call 61; (with_reducible refine (strings_IndexByte.calls a1 (bt a0 x22_2) t103 _ A17.out).mono ?_); rintro e w' ⟨rfl, ⟨nd, rfl⟩⟩))
            go_roundg k2
            case measure => have := HJ2.out; have := HK2.out; omega
            case rel => exact ⟨(wrap64 (x22_2 + 1)), (by first | rfl | (simp; done) | (simp [*]; done)), H', ⟨by have := HJ2.out; have := HK2.out; omega⟩, by repeat (first | exact Drawn0.refl _ | apply Drawn0.step)⟩
          ·
           rw [if_neg c16] at H
           have c16b0 : decide ((bt a0 x22_2) < 48) = false := decide_eq_false c16; clear c16
           by_cases c19 : (bt a0 x22_2) > 57
           ·
            rw [if_pos c19] at H
            have c19b0 : decide (57 < (bt a0 x22_2)) = true := decide_eq_true c19; clear c19; replace H := Option.bind_eq_some_iff.mp H; obtain ⟨t104, A200, H⟩ := H; replace H : (if t104 < 0 then (some false) else (chars_named.l0 k2 a0 a1 (a0.size : Int) (wrap64 (x22_2 + 1)))) = some r := H; have A20 := Aside0.mk A200; clear A200
            by_cases c21 : t104 < 0
            ·
             rw [if_pos c21] at H
             have c21b0 : decide (t104 < 0) = true := decide_eq_true c21; clear c21; obtain rfl := Option.some.inj H; have p13 : 0 ≤ (x22_2 : Int) := of_decide_eq_true (by assumption); have q13 : x22_2 < (a0.size : Int) := of_decide_eq_true (by assumption); have hx13 := bt_at a0 x22_2; replace p13 := eq_true p13; replace q13 := eq_true q13
             go_wp2_with (first | ((with_reducible refine gate_callee (f := 60) rfl ?_); refine goesL_ (some 29) rfl rfl Try.func60 (by kernel_rfl) rfl #[.int .u8 (bt a0 x22_2)] rfl (by (try simp only [List.map_toArray, List.map_cons, List.map_nil]); first | done | rfl | (simp only [List.length_drop, List.length_take]; rfl)) ?_; (with_reducible refine (chars_small.calls (bt a0 x22_2) false _ A14.out).mono ?_); rintro e w' ⟨rfl, ⟨nd, rfl⟩⟩; refine ⟨_, rfl, ?_⟩) | (go_at_call 61; (with_reducible refine (strings_IndexByte.calls a1 (bt a0 x22_2) t104 _ A20.out).mono ?_); rintro e w' ⟨rfl, ⟨nd, rfl⟩⟩))
             go_ret
             exact ⟨by first | rfl | (simp; done) | (simp [*]; done), by repeat (first | exact Drawn0.refl _ | apply Drawn0.step)⟩
            ·
             rw [if_neg c21] at H
             have c21b0 : decide (t104 < 0) = false := decide_eq_false c21; clear c21; have H' := Aside0.mk H; clear H; have p13 : 0 ≤ (x22_2 : Int) := of_decide_eq_true (by assumption); have q13 : x22_2 < (a0.size : Int) := of_decide_eq_true (by assumption); have hx13 := bt_at a0 x22_2; replace p13 := eq_true p13; replace q13 := eq_true q13
             go_wp2_with (first | ((with_reducible refine gate_callee (f := 60) rfl ?_); refine goesL_ (some 29) rfl rfl Try.func60 (by kernel_rfl) rfl #[.int .u8 (bt a0 x22_2)] rfl (by (try simp only [List.map_toArray, List.map_cons, List.map_nil]); first | done | rfl | (simp only [List.length_drop, List.length_take]; rfl)) ?_; (with_reducible refine (chars_small.calls (bt a0 x22_2) false _ A14.out).mono ?_); rintro e w' ⟨rfl, ⟨nd, rfl⟩⟩; refine ⟨_, rfl, ?_⟩) | (go_at_call 61; (with_reducible refine (strings_IndexByte.calls a1 (bt a0 x22_2) t104 _ A20.out).mono ?_); rintro e w' ⟨rfl, ⟨nd, rfl⟩⟩))
             go_roundg k2
             case measure => have := HJ2.out; have := HK2.out; omega
             case rel => exact ⟨(wrap64 (x22_2 + 1)), (by first | rfl | (simp; done) | (simp [*]; done)), H', ⟨by have := HJ2.out; have := HK2.out; omega⟩, by repeat (first | exact Drawn0.refl _ | apply Drawn0.step)⟩
           ·
            rw [if_neg c19] at H
            have c19b0 : decide (57 < (bt a0 x22_2)) = false := decide_eq_false c19; clear c19; have H' := Aside0.mk H; clear H; have p13 : 0 ≤ (x22_2 : Int) := of_decide_eq_true (by assumption); have q13 : x22_2 < (a0.size : Int) := of_decide_eq_true (by assumption); have hx13 := bt_at a0 x22_2; replace p13 := eq_true p13; replace q13 := eq_true q13
            go_wp2_with (first | ((with_reducible refine gate_callee (f := 60) rfl ?_); refine goesL_ (some 29) rfl rfl Try.func60 (by kernel_rfl) rfl #[.int .u8 (bt a0 x22_2)] rfl (by (try simp only [List.map_toArray, List.map_cons, List.map_nil]); first | done | rfl | (simp only [List.length_drop, List.length_take]; rfl)) ?_; (with_reducible refine (chars_small.calls (bt a0 x22_2) false _ A14.out).mono ?_); rintro e w' ⟨rfl, ⟨nd, rfl⟩⟩; refine ⟨_, rfl, ?_⟩))
            go_roundg k2
            case measure => have := HJ2.out; have := HK2.out; omega
            case rel => exact ⟨(wrap64 (x22_2 + 1)), (by first | rfl | (simp; done) | (simp [*]; done)), H', ⟨by have := HJ2.out; have := HK2.out; omega⟩, by repeat (first | exact Drawn0.refl _ | apply Drawn0.step)⟩
        ·
         rw [if_neg c12] at H
         exact absurd H (by simp)
       ·
        rw [if_neg c11] at H
        exact absurd H (by simp)
      ·
       rw [if_neg c10] at H
       have c10b0 : decide (x22_2 < (a0.size : Int)) = false := decide_eq_false c10; clear c10; obtain rfl := Option.some.inj H
       go_wp2
       go_ret
       exact ⟨by first | rfl | (simp; done) | (simp [*]; done), by repeat (first | exact Drawn0.refl _ | apply Drawn0.step)⟩
/-! ### chars_Tag: function 55 -/
def chars_Tag.f (k : Nat) (a0 : ByteArray) : Option (Bool) := (chars_named.f k a0 (⟨#[45]⟩ : ByteArray)).bind fun t105 => (some t105)
theorem chars_Tag.mono : ∀ a0 k, LeO (chars_Tag.f k a0) (chars_Tag.f (k + 1) a0) := by
  intro a0 k
  unfold chars_Tag.f
  repeat' first
      | (with_reducible exact chars_named.mono _ _ _)
      | (with_reducible exact LeO.refl _)
      | (with_reducible exact LeO.none _)
      | (with_reducible refine LeO.ite ?_ ?_)
      | (with_reducible refine LeO.bind ?_ (fun _ => ?_))
set_option maxHeartbeats 8000000 in
set_option maxRecDepth 100000 in
theorem chars_Tag.calls (k : Nat) (a0 : ByteArray) (r : Bool) (w : World) (h : chars_Tag.f k a0 = some r) :
    Calls Try.prog 55 #[.string a0] w fun e w' => e = .returned (.bool r) ∧ Drawn0 w w' := by
  have H : ((chars_named.f k a0 (⟨#[45]⟩ : ByteArray)).bind fun t105 => (some t105)) = some r := h
  clear h
  replace H := Option.bind_eq_some_iff.mp H
  obtain ⟨t105, A20, H⟩ := H
  replace H : (some t105) = some r := H
  have A2 := Aside0.mk A20
  clear A20
  obtain rfl := Option.some.inj H
  go_enter Try.func55, Try.ntmps55
  go_wp2_with (first | ((with_reducible refine gate_callee (f := 58) rfl ?_); refine goesL_ (some 4) rfl rfl Try.func58 (by kernel_rfl) rfl #[.string a0, .string (⟨#[45]⟩ : ByteArray)] rfl (by (try simp only [List.map_toArray, List.map_cons, List.map_nil]); first | done | rfl | (simp only [List.length_drop, List.length_take]; rfl)) ?_; (with_reducible refine (chars_named.calls k a0 (⟨#[45]⟩ : ByteArray) t105 _ A2.out).mono ?_); rintro e w' ⟨rfl, ⟨nd, rfl⟩⟩; refine ⟨_, rfl, ?_⟩))
  go_ret
  exact ⟨by first | rfl | (simp; done) | (simp [*]; done), by repeat (first | exact Drawn0.refl _ | apply Drawn0.step)⟩
/-! ### chars_Fits: function 56 -/
def chars_Fits.f (a0 : ByteArray) : Option (Bool) := some (decide ((a0.size : Int) ≤ 65536))
set_option maxHeartbeats 8000000 in
set_option maxRecDepth 100000 in
theorem chars_Fits.calls (a0 : ByteArray) (r : Bool) (w : World) (h : chars_Fits.f a0 = some r) :
    Calls Try.prog 56 #[.string a0] w fun e w' => e = .returned (.bool r) ∧ Drawn0 w w' := by
  have H : (some (decide ((a0.size : Int) ≤ 65536))) = some r := h
  clear h
  obtain rfl := Option.some.inj H
  go_enter Try.func56, Try.ntmps56
  go_wp2
  go_ret
  exact ⟨by first | rfl | (simp; done) | (simp [*]; done), by repeat (first | exact Drawn0.refl _ | apply Drawn0.step)⟩
/-! ### chars_Name: function 59 -/
def chars_Name.f (k : Nat) (a0 : ByteArray) : Option (Bool) := (chars_named.f k a0 (⟨#[45, 58, 46]⟩ : ByteArray)).bind fun t106 => (some t106)
theorem chars_Name.mono : ∀ a0 k, LeO (chars_Name.f k a0) (chars_Name.f (k + 1) a0) := by
  intro a0 k
  unfold chars_Name.f
  repeat' first
      | (with_reducible exact chars_named.mono _ _ _)
      | (with_reducible exact LeO.refl _)
      | (with_reducible exact LeO.none _)
      | (with_reducible refine LeO.ite ?_ ?_)
      | (with_reducible refine LeO.bind ?_ (fun _ => ?_))
set_option maxHeartbeats 8000000 in
set_option maxRecDepth 100000 in
theorem chars_Name.calls (k : Nat) (a0 : ByteArray) (r : Bool) (w : World) (h : chars_Name.f k a0 = some r) :
    Calls Try.prog 59 #[.string a0] w fun e w' => e = .returned (.bool r) ∧ Drawn0 w w' := by
  have H : ((chars_named.f k a0 (⟨#[45, 58, 46]⟩ : ByteArray)).bind fun t106 => (some t106)) = some r := h
  clear h
  replace H := Option.bind_eq_some_iff.mp H
  obtain ⟨t106, A20, H⟩ := H
  replace H : (some t106) = some r := H
  have A2 := Aside0.mk A20
  clear A20
  obtain rfl := Option.some.inj H
  go_enter Try.func59, Try.ntmps59
  go_wp2_with (first | ((with_reducible refine gate_callee (f := 58) rfl ?_); refine goesL_ (some 4) rfl rfl Try.func58 (by kernel_rfl) rfl #[.string a0, .string (⟨#[45, 58, 46]⟩ : ByteArray)] rfl (by (try simp only [List.map_toArray, List.map_cons, List.map_nil]); first | done | rfl | (simp only [List.length_drop, List.length_take]; rfl)) ?_; (with_reducible refine (chars_named.calls k a0 (⟨#[45, 58, 46]⟩ : ByteArray) t106 _ A2.out).mono ?_); rintro e w' ⟨rfl, ⟨nd, rfl⟩⟩; refine ⟨_, rfl, ?_⟩))
  go_ret
  exact ⟨by first | rfl | (simp; done) | (simp [*]; done), by repeat (first | exact Drawn0.refl _ | apply Drawn0.step)⟩
end Go.Proofs.Ytcebfldagnjddaa.G
