/- What the claim LawFlatLooks rests on, part 4 of 7: the kit's words, the printed walks, the walks by hand, the plain laws. -/
import Derived.Test.YtcebfldagnjddaaB3
import Derived.Laws.EntriesVeiled
namespace Go.Proofs.Ytcebfldagnjddaa.G
open List renaming setIfInBounds_toArray → zt, set_cons_zero → zu, set_cons_succ → zv
open Bool renaming true → T, false → F
open Go.RowKit Go.Proofs.YtcebfldagnjddaaW.PrintWords Go.Proofs.YtcebfldagnjddaaW.PrintLast Go.Proofs.YtcebfldagnjddaaW.PrintMore
attribute [local go_sem] max2_int min2_int max_two min_two max_three min_three max_four min_four
set_option linter.unusedVariables false
set_option linter.unusedSimpArgs false
mutual
def r13_Check.l0 : Nat → List (S53) → Int → Int → Option (Int)
 | 0, _, _, _ => none
 | k + 1, x0, x10, x11 => if x11 < x10 then (if x11 = 4096 then (some 12) else ((r13_Depth.f k x0 (wrap64 (x11 + 1))).bind fun t367 => (if t367 > 64 then (some 11) else (if 0 ≤ x11 then (if x11 < (x0.length : Int) then ((r11_Alone.f k ((rd_T53 x0 x11).f2) ((rd_T53 x0 x11).f3) ((rd_T53 x0 x11).f4) ((rd_T53 x0 x11).f5) ([] : List (S25))).bind fun t372 => (if t372 = 0 then (r13_Check.l1 k x0 x11 x10 x11 x11 0) else (some t372))) else (none)) else (none))))) else (some 0)
def r13_Check.l1 : Nat → List (S53) → Int → Int → Int → Int → Int → Option (Int)
 | 0, _, _, _, _, _, _ => none
 | k + 1, x0, x3, x10, x11, x46, x47 => if x47 < x46 then (if 0 ≤ x3 then (if x3 < (x0.length : Int) then (if ((rd_T53 x0 x3).f3).toList = ([] : List UInt8) then (r13_Check.l1 k x0 x3 x10 x11 x46 (wrap64 (x47 + 1))) else (if 0 ≤ x47 then (if x47 < (x0.length : Int) then (if ((rd_T53 x0 x47).f1) = ((rd_T53 x0 x3).f1) then (if ((rd_T53 x0 x47).f3).toList = ((rd_T53 x0 x3).f3).toList then (some 10) else (r13_Check.l1 k x0 x3 x10 x11 x46 (wrap64 (x47 + 1)))) else (r13_Check.l1 k x0 x3 x10 x11 x46 (wrap64 (x47 + 1)))) else (none)) else (none))) else (none)) else (none)) else (r13_Check.l0 k x0 x10 (wrap64 (x11 + 1)))
end
def r13_Check.f (k : Nat) (l0 : List (S53)) : Option (Int) := (r13_Formed.f k l0).bind fun t366 => (if t366 = true then (r13_Check.l0 k l0 (l0.length : Int) 0) else (some 2))
def r13_Check.T10 : Bool × List (List Nat × List Nat) := (true, [([], []), ([], []), ([0, 1], [0, 1]), ([2], [2]), ([3], [3]), ([], []), ([], []), ([5, 6], [5, 6]), ([7], [7]), ([8], [8]), ([], []), ([], []), ([10, 11], [10, 11]), ([12], [12]), ([13], [13]), ([], []), ([], []), ([15, 16], [15, 16]), ([17], [17]), ([18], [18]), ([4, 9, 14, 19], [4, 9, 14, 19]), ([20], [20]), ([21, 21, 0, 1, 2, 3, 4, 5, 6, 7, 8, 9, 10, 11, 12, 13, 14, 15, 16, 17, 18, 19, 20, 21], [21])])
def r13_Check.B10 : List Nat := [0, 0, 3, 7, 15, 0, 0, 96, 224, 480, 0, 0, 3072, 7168, 15360, 0, 0, 98304, 229376, 491520, 1048575, 2097151, 4194303]
theorem r13_Check.tab10 : rtab .any (opsOf Try.f19 10) = r13_Check.T10 := by kernel_rfl
theorem r13_Check.bits10 : waitsOk r13_Check.T10.2 r13_Check.B10 = true := by kernel_rfl
def r13_Check.T16 : Bool × List (List Nat × List Nat) := (true, [([], []), ([], []), ([0, 1], [0, 1]), ([2], [2]), ([3], [3]), ([4], [4]), ([5], [5]), ([6], [6]), ([6], [6]), ([7, 8, 6], [6, 7, 8]), ([9, 6], [6, 9]), ([10, 6], [6, 10]), ([6], [6]), ([6], [6]), ([12, 13, 6], [6, 12, 13]), ([14, 6], [6, 14]), ([15, 6], [6, 15]), ([11, 16, 6], [6, 11, 16]), ([6, 17], [6, 17]), ([18, 6], [18]), ([19], [19]), ([19], [19]), ([20, 21, 19], [19, 20, 21]), ([22, 19], [19, 22]), ([23, 19], [19, 23]), ([19], [19]), ([19], [19]), ([25, 26, 19], [19, 25, 26]), ([27, 19], [19, 27]), ([28, 19], [19, 28]), ([24, 29, 19], [19, 24, 29]), ([19, 30], [19, 30])])
def r13_Check.B16 : List Nat := [0, 0, 3, 7, 15, 31, 63, 127, 127, 511, 1023, 2047, 127, 127, 12415, 28799, 61567, 131071, 262143, 524287, 1048575, 1048575, 4194303, 8388607, 16777215, 1048575, 1048575, 101711871, 235929599, 504365055, 1073741823, 2147483647]
theorem r13_Check.tab16 : rtab .any (opsOf Try.f19 16) = r13_Check.T16 := by kernel_rfl
theorem r13_Check.bits16 : waitsOk r13_Check.T16.2 r13_Check.B16 = true := by kernel_rfl
set_option maxHeartbeats 8000000 in
set_option maxRecDepth 100000 in
theorem r13_Check.calls (k : Nat) (A0 : Option Addr) (c0 : Nat) (l0 : List (S53)) (r : Int) (w : World) (hr0 : Kd.C k53 w A0 l0.length l0) (hc0 : l0.length ≤ c0) (h : r13_Check.f k l0 = some r) :
  Calls Try.prog 19 #[.slice A0 l0.length c0] w fun e w' => e = .returned (.int .i64 r) ∧ Below w.heap.size w w' := by
 have hu25 := Try.underlying25
 have HR0 := zk hr0
 have HC0 := zk hc0
 clear hr0 hc0
 have HB := zk (Below.refl w.heap.size w)
 have H : ((r13_Formed.f k l0).bind fun t366 => (if t366 = true then (r13_Check.l0 k l0 (l0.length : Int) 0) else (some 2))) = some r := h
 clear h
 replace H := Option.bind_eq_some_iff.mp H
 obtain ⟨t366, A20, H⟩ := H
 replace H : (if t366 = true then (r13_Check.l0 k l0 (l0.length : Int) 0) else (some 2)) = some r := H
 have A2 := zk A20
 clear A20
 by_cases c3 : t366 = true
 ·
  subst c3
  have H1 : (r13_Check.l0 k l0 (l0.length : Int) 0) = some r := by rw [if_pos rfl] at H; exact H
  clear H; have H := H1; clear H1; have H' := zk H; clear H
  go_enter Try.func19, Try.ntmps19
  go_wp2_with (first | ((with_reducible refine gk (f := 39) rfl ?_); refine gl (some 7) rfl rfl Try.func39 (by kernel_rfl) rfl #[.slice A0 l0.length c0] rfl (by (try simp only [List.map_toArray, List.map_cons, List.map_nil]); first | done | rfl | (simp only [List.length_drop, List.length_take]; rfl)) ?_; (with_reducible refine (r13_Formed.calls k _ _ l0 true _ ?side1 ?side2 A2.out).mono ?_); (case side1 => repeat (first | exact HR0.out | (with_reducible refine Kd.C_alloc ?_ _) | (with_reducible refine Kd.C_drewN ?_ _) | (with_reducible refine Kd.C_drew ?_))); (case side2 => exact HC0.out); rintro e w' ⟨rfl, ⟨nd, rfl⟩⟩; refine ⟨_, rfl, ?_⟩))
  go_loopg [11] k (fun kq v11 w' => ∃ (x11_1 : Int), v11 = .int .i64 x11_1 ∧ Aside0 (r13_Check.l0 kq l0 (l0.length : Int) x11_1 = some r) ∧ Aside0 (kq ≤ k) ∧ Aside0 (Below w.heap.size w w'))
  case atStart => exact ⟨(0), (by first | rfl | (simp; done) | (simp [*]; done)), H', ⟨Nat.le_refl _⟩, ⟨by with_reducible repeat first | exact HB.out | apply zA | apply zN | apply zD⟩⟩
  case round =>
   clear H'; (try clear c1); (try clear p2); (try clear c3); obtain ⟨x11_1, rfl, HA, HK1, HB⟩ := hrel
   cases gk with
   | zero => exact absurd HA.out (by simp [r13_Check.l0])
   | succ k1 =>
    have H := HA.out; clear HA; simp only [r13_Check.l0] at H
    by_cases c4 : x11_1 < (l0.length : Int)
    ·
     rw [if_pos c4] at H; have c4b0 := decide_eq_true c4; clear c4
     by_cases c5 : x11_1 = 4096
     ·
      rw [if_pos c5] at H; have c5b0 := beq_iff_eq.mpr c5; have c5b1 := bne_eq_false_iff_eq.mpr c5; clear c5; obtain rfl := Option.some.inj H; go_wp2; go_ret; exact ⟨by first | rfl | (simp [wN, wS] <;> rfl) | (simp [*, wN, wS] <;> rfl), by with_reducible repeat first | exact HB.out | apply zA | apply zN | apply zD⟩
     ·
      rw [if_neg c5] at H; have c5b0 := beq_eq_false_iff_ne.mpr c5; have c5b1 := bne_iff_ne.mpr c5; replace H := Option.bind_eq_some_iff.mp H; obtain ⟨t367, A60, H⟩ := H; replace H : (if t367 > 64 then (some 11) else (if 0 ≤ x11_1 then (if x11_1 < (l0.length : Int) then ((r11_Alone.f k1 ((rd_T53 l0 x11_1).f2) ((rd_T53 l0 x11_1).f3) ((rd_T53 l0 x11_1).f4) ((rd_T53 l0 x11_1).f5) ([] : List (S25))).bind fun t372 => (if t372 = 0 then (r13_Check.l1 k1 l0 x11_1 (l0.length : Int) x11_1 x11_1 0) else (some t372))) else (none)) else (none))) = some r := H; have A6 := zk A60; clear A60
      by_cases c7 : t367 > 64
      ·
       rw [if_pos c7] at H; have c7b0 : decide (64 < t367) = true := decide_eq_true c7; clear c7; obtain rfl := Option.some.inj H
       go_wp2_with (first | ((with_reducible refine gk (f := 40) rfl ?_); refine gl (some 19) rfl rfl Try.func40 (by kernel_rfl) rfl #[.slice A0 l0.length c0, .int .i64 (wrap64 (x11_1 + 1))] rfl (by (try simp only [List.map_toArray, List.map_cons, List.map_nil]); first | done | rfl | (simp only [List.length_drop, List.length_take]; rfl)) ?_; (with_reducible refine (r13_Depth.calls k1 _ _ l0 (wrap64 (x11_1 + 1)) t367 _ ?side1 ?side2 A6.out).mono ?_); (case side1 => repeat (first | exact (Kd.C_below HR0.out HB.out) | (with_reducible refine Kd.C_alloc ?_ _) | (with_reducible refine Kd.C_drewN ?_ _) | (with_reducible refine Kd.C_drew ?_))); (case side2 => exact HC0.out); rintro e w' ⟨rfl, ⟨nd, rfl⟩⟩; refine ⟨_, rfl, ?_⟩))
       go_ret; exact ⟨by first | rfl | (simp [wN, wS] <;> rfl) | (simp [*, wN, wS] <;> rfl), by with_reducible repeat first | exact HB.out | apply zA | apply zN | apply zD⟩
      ·
       rw [if_neg c7] at H; have c7b0 : decide (64 < t367) = false := decide_eq_false c7; clear c7
       by_cases c8 : 0 ≤ x11_1
       ·
        rw [if_pos c8] at H; have c8b0 := decide_eq_true c8; clear c8
        by_cases c9 : x11_1 < (l0.length : Int)
        ·
         rw [if_pos c9] at H; have c9b0 := decide_eq_true c9; clear c9; replace H := Option.bind_eq_some_iff.mp H; obtain ⟨t372, A100, H⟩ := H; replace H : (if t372 = 0 then (r13_Check.l1 k1 l0 x11_1 (l0.length : Int) x11_1 x11_1 0) else (some t372)) = some r := H; have A10 := zk A100; clear A100
         by_cases c11 : t372 = 0
         ·
          rw [if_pos c11] at H; have c11b0 := beq_iff_eq.mpr c11; have c11b1 := bne_eq_false_iff_eq.mpr c11; clear c11; have H' := zk H; clear H
          try go_wp2_with (first | ((with_reducible refine gk (f := 40) rfl ?_); refine gl (some 19) rfl rfl Try.func40 (by kernel_rfl) rfl #[.slice A0 l0.length c0, .int .i64 (wrap64 (x11_1 + 1))] rfl (by (try simp only [List.map_toArray, List.map_cons, List.map_nil]); first | done | rfl | (simp only [List.length_drop, List.length_take]; rfl)) ?_; (with_reducible refine (r13_Depth.calls k1 _ _ l0 (wrap64 (x11_1 + 1)) t367 _ ?side1 ?side2 A6.out).mono ?_); (case side1 => repeat (first | exact (Kd.C_below HR0.out HB.out) | (with_reducible refine Kd.C_alloc ?_ _) | (with_reducible refine Kd.C_drewN ?_ _) | (with_reducible refine Kd.C_drew ?_))); (case side2 => exact HC0.out); rintro e w' ⟨rfl, ⟨nd, rfl⟩⟩; refine ⟨_, rfl, ?_⟩))
          (try (rw [drewN_self wr]; generalize hq_ : World.drewN wr _ = wr; have n0_ : Aside0 (Below w.heap.size w wr) := ⟨by rw [← hq_]; exact (by with_reducible repeat first | exact HB.out | apply zA | apply zN | apply zD)⟩; clear HB hq_; have HB := n0_; clear n0_))
          have n0_ := zk (zD HB.out); clear HB; have HB := n0_; clear n0_; have p368 : 0 ≤ (x11_1 : Int) := zo (by assumption); have q368 : x11_1 < (l0.length : Int) := zo (by assumption); obtain ⟨ad368, A368_5, c368_5, e368, hx368_0, hx368_1, hx368_2, hx368_3, hx368_4, hx368_5, hl368_5, hi368_5⟩ := at_T53 HR0.out x11_1 p368 q368; have hw368_5 := hx368_5; have hw368_4 := hx368_4; have hw368_3 := hx368_3; have hw368_2 := hx368_2; have hw368_1 := hx368_1; have hw368_0 := hx368_0; cases e368; replace hx368_0 := zB HB hx368_0; replace hx368_1 := zB HB hx368_1; replace hx368_2 := zB HB hx368_2; replace hx368_3 := zB HB hx368_3; replace hx368_4 := zB HB hx368_4; replace hx368_5 := zB HB hx368_5; have HR368_5 := zk hi368_5; have HC368_5 := zk hl368_5; clear hi368_5 hl368_5; replace p368 := eq_true p368; replace q368 := eq_true q368; have p369 : 0 ≤ (x11_1 : Int) := zo (by assumption); have q369 : x11_1 < (l0.length : Int) := zo (by assumption); obtain ⟨ad369, A369_5, c369_5, e369, hx369_0, hx369_1, hx369_2, hx369_3, hx369_4, hx369_5, hl369_5, hi369_5⟩ := at_T53 HR0.out x11_1 p369 q369; have hw369_5 := hx369_5; have hw369_4 := hx369_4; have hw369_3 := hx369_3; have hw369_2 := hx369_2; have hw369_1 := hx369_1; have hw369_0 := hx369_0; obtain rfl : ad368 = ad369 := (by injection e369); replace hx369_0 := zB HB hx369_0; replace hx369_1 := zB HB hx369_1; replace hx369_2 := zB HB hx369_2; replace hx369_3 := zB HB hx369_3; replace hx369_4 := zB HB hx369_4; replace hx369_5 := zB HB hx369_5; have HR369_5 := zk hi369_5; have HC369_5 := zk hl369_5; clear hi369_5 hl369_5; replace p369 := eq_true p369; replace q369 := eq_true q369; have ea_ := Option.some.inj (hx368_5.symm.trans hx369_5); injection ea_ with ea_ en_ ec_; subst ea_; subst ec_; clear en_; have p370 : 0 ≤ (x11_1 : Int) := zo (by assumption); have q370 : x11_1 < (l0.length : Int) := zo (by assumption); obtain ⟨ad370, A370_5, c370_5, e370, hx370_0, hx370_1, hx370_2, hx370_3, hx370_4, hx370_5, hl370_5, hi370_5⟩ := at_T53 HR0.out x11_1 p370 q370; have hw370_5 := hx370_5; have hw370_4 := hx370_4; have hw370_3 := hx370_3; have hw370_2 := hx370_2; have hw370_1 := hx370_1; have hw370_0 := hx370_0; obtain rfl : ad368 = ad370 := (by injection e370); replace hx370_0 := zB HB hx370_0; replace hx370_1 := zB HB hx370_1; replace hx370_2 := zB HB hx370_2; replace hx370_3 := zB HB hx370_3; replace hx370_4 := zB HB hx370_4; replace hx370_5 := zB HB hx370_5; have HR370_5 := zk hi370_5; have HC370_5 := zk hl370_5; clear hi370_5 hl370_5; replace p370 := eq_true p370; replace q370 := eq_true q370; have ea_ := Option.some.inj (hx368_5.symm.trans hx370_5); injection ea_ with ea_ en_ ec_; subst ea_; subst ec_; clear en_; have p371 : 0 ≤ (x11_1 : Int) := zo (by assumption); have q371 : x11_1 < (l0.length : Int) := zo (by assumption); obtain ⟨ad371, A371_5, c371_5, e371, hx371_0, hx371_1, hx371_2, hx371_3, hx371_4, hx371_5, hl371_5, hi371_5⟩ := at_T53 HR0.out x11_1 p371 q371; have hw371_5 := hx371_5; have hw371_4 := hx371_4; have hw371_3 := hx371_3; have hw371_2 := hx371_2; have hw371_1 := hx371_1; have hw371_0 := hx371_0; obtain rfl : ad368 = ad371 := (by injection e371); replace hx371_0 := zB HB hx371_0; replace hx371_1 := zB HB hx371_1; replace hx371_2 := zB HB hx371_2; replace hx371_3 := zB HB hx371_3; replace hx371_4 := zB HB hx371_4; replace hx371_5 := zB HB hx371_5; have HR371_5 := zk hi371_5; have HC371_5 := zk hl371_5; clear hi371_5 hl371_5; replace p371 := eq_true p371; replace q371 := eq_true q371; have ea_ := Option.some.inj (hx368_5.symm.trans hx371_5); injection ea_ with ea_ en_ ec_; subst ea_; subst ec_; clear en_; refine start_ (n := 23) (S := fun w' => w'.cell? (ad368.add ((x11_1).toNat * 6)) = some (.int .i64 ((rd_T53 l0 x11_1).f0)) ∧ w'.cell? ⟨(ad368.add ((x11_1).toNat * 6)).block, (ad368.add ((x11_1).toNat * 6)).off + 1, none⟩ = some (.int .i64 ((rd_T53 l0 x11_1).f1)) ∧ w'.cell? ⟨(ad368.add ((x11_1).toNat * 6)).block, (ad368.add ((x11_1).toNat * 6)).off + 2, none⟩ = some (.string ((rd_T53 l0 x11_1).f2)) ∧ w'.cell? ⟨(ad368.add ((x11_1).toNat * 6)).block, (ad368.add ((x11_1).toNat * 6)).off + 3, none⟩ = some (.string ((rd_T53 l0 x11_1).f3)) ∧ w'.cell? ⟨(ad368.add ((x11_1).toNat * 6)).block, (ad368.add ((x11_1).toNat * 6)).off + 4, none⟩ = some (.string ((rd_T53 l0 x11_1).f4)) ∧ w'.cell? ⟨(ad368.add ((x11_1).toNat * 6)).block, (ad368.add ((x11_1).toNat * 6)).off + 5, none⟩ = some (.slice A368_5 ((rd_T53 l0 x11_1).f5).length c368_5) ∧ w'.cell? (ad368.add ((x11_1).toNat * 6)) = some (.int .i64 ((rd_T53 l0 x11_1).f0)) ∧ w'.cell? ⟨(ad368.add ((x11_1).toNat * 6)).block, (ad368.add ((x11_1).toNat * 6)).off + 1, none⟩ = some (.int .i64 ((rd_T53 l0 x11_1).f1)) ∧ w'.cell? ⟨(ad368.add ((x11_1).toNat * 6)).block, (ad368.add ((x11_1).toNat * 6)).off + 2, none⟩ = some (.string ((rd_T53 l0 x11_1).f2)) ∧ w'.cell? ⟨(ad368.add ((x11_1).toNat * 6)).block, (ad368.add ((x11_1).toNat * 6)).off + 3, none⟩ = some (.string ((rd_T53 l0 x11_1).f3)) ∧ w'.cell? ⟨(ad368.add ((x11_1).toNat * 6)).block, (ad368.add ((x11_1).toNat * 6)).off + 4, none⟩ = some (.string ((rd_T53 l0 x11_1).f4)) ∧ w'.cell? ⟨(ad368.add ((x11_1).toNat * 6)).block, (ad368.add ((x11_1).toNat * 6)).off + 5, none⟩ = some (.slice A368_5 ((rd_T53 l0 x11_1).f5).length c368_5) ∧ w'.cell? (ad368.add ((x11_1).toNat * 6)) = some (.int .i64 ((rd_T53 l0 x11_1).f0)) ∧ w'.cell? ⟨(ad368.add ((x11_1).toNat * 6)).block, (ad368.add ((x11_1).toNat * 6)).off + 1, none⟩ = some (.int .i64 ((rd_T53 l0 x11_1).f1)) ∧ w'.cell? ⟨(ad368.add ((x11_1).toNat * 6)).block, (ad368.add ((x11_1).toNat * 6)).off + 2, none⟩ = some (.string ((rd_T53 l0 x11_1).f2)) ∧ w'.cell? ⟨(ad368.add ((x11_1).toNat * 6)).block, (ad368.add ((x11_1).toNat * 6)).off + 3, none⟩ = some (.string ((rd_T53 l0 x11_1).f3)) ∧ w'.cell? ⟨(ad368.add ((x11_1).toNat * 6)).block, (ad368.add ((x11_1).toNat * 6)).off + 4, none⟩ = some (.string ((rd_T53 l0 x11_1).f4)) ∧ w'.cell? ⟨(ad368.add ((x11_1).toNat * 6)).block, (ad368.add ((x11_1).toNat * 6)).off + 5, none⟩ = some (.slice A368_5 ((rd_T53 l0 x11_1).f5).length c368_5) ∧ w'.cell? (ad368.add ((x11_1).toNat * 6)) = some (.int .i64 ((rd_T53 l0 x11_1).f0)) ∧ w'.cell? ⟨(ad368.add ((x11_1).toNat * 6)).block, (ad368.add ((x11_1).toNat * 6)).off + 1, none⟩ = some (.int .i64 ((rd_T53 l0 x11_1).f1)) ∧ w'.cell? ⟨(ad368.add ((x11_1).toNat * 6)).block, (ad368.add ((x11_1).toNat * 6)).off + 2, none⟩ = some (.string ((rd_T53 l0 x11_1).f2)) ∧ w'.cell? ⟨(ad368.add ((x11_1).toNat * 6)).block, (ad368.add ((x11_1).toNat * 6)).off + 3, none⟩ = some (.string ((rd_T53 l0 x11_1).f3)) ∧ w'.cell? ⟨(ad368.add ((x11_1).toNat * 6)).block, (ad368.add ((x11_1).toNat * 6)).off + 4, none⟩ = some (.string ((rd_T53 l0 x11_1).f4)) ∧ w'.cell? ⟨(ad368.add ((x11_1).toNat * 6)).block, (ad368.add ((x11_1).toNat * 6)).off + 5, none⟩ = some (.slice A368_5 ((rd_T53 l0 x11_1).f5).length c368_5)) (ds := []) #[F,F,F,F,F,F,F,F,F,F,F,F,F,F,F,F,F,F,F,F,F,F,F] (by kernel_rfl) rfl rfl ⟨(zB HB hw368_0), (zB HB hw368_1), (zB HB hw368_2), (zB HB hw368_3), (zB HB hw368_4), (zB HB hw368_5), (zB HB hw369_0), (zB HB hw369_1), (zB HB hw369_2), (zB HB hw369_3), (zB HB hw369_4), (zB HB hw369_5), (zB HB hw370_0), (zB HB hw370_1), (zB HB hw370_2), (zB HB hw370_3), (zB HB hw370_4), (zB HB hw370_5), (zB HB hw371_0), (zB HB hw371_1), (zB HB hw371_2), (zB HB hw371_3), (zB HB hw371_4), (zB HB hw371_5)⟩ (fun hHeld => ?_); refine with_tabW r13_Check.tab10 r13_Check.bits10 (fun HT_ HW_ => ?_); generalize wr.drew = w12 at HB HR368_5 HR369_5 HR370_5 HR371_5 hx368_0 hx368_1 hx368_2 hx368_3 hx368_4 hx368_5 hx369_0 hx369_1 hx369_2 hx369_3 hx369_4 hx369_5 hx370_0 hx370_1 hx370_2 hx370_3 hx370_4 hx370_5 hx371_0 hx371_1 hx371_2 hx371_3 hx371_4 hx371_5 hHeld ⊢; refine pure_ (i := 0) (N := some 21) (v := ?_) (a' := ?_) #[T,F,F,F,F,F,F,F,F,F,F,F,F,F,F,F,F,F,F,F,F,F,F] rfl rfl (any_of HT_.out (by kernel_rfl)) (fun _ _ _ h => h) (Or.inl ⟨by rfl, ?_⟩) ?_ ?_; rotate_left; (intro w'; go_simp; (with_reducible rfl)); rotate_left; (simp only [Act.put, zt, zu, zv, i64_w, i32_w]; rfl); refine pure_ (i := 1) (N := some 22) (v := ?_) (a' := ?_) #[T,T,F,F,F,F,F,F,F,F,F,F,F,F,F,F,F,F,F,F,F,F,F] rfl rfl (any_of HT_.out (by kernel_rfl)) (fun _ _ _ h => h) (Or.inl ⟨by rfl, ?_⟩) ?_ ?_; rotate_left; (intro w'; go_simp; (with_reducible rfl)); rotate_left; (simp only [Act.put, zt, zu, zv, i64_w, i32_w]; rfl); refine pure_ (i := 2) (N := some 23) (v := ?_) (a' := ?_) #[T,T,T,F,F,F,F,F,F,F,F,F,F,F,F,F,F,F,F,F,F,F,F] rfl rfl (any_of HT_.out (by kernel_rfl)) (fun _ _ _ h => h) (Or.inl ⟨by rfl, ?_⟩) ?_ ?_; rotate_left; (intro w'; go_simp; (with_reducible rfl)); rotate_left; (simp only [Act.put, zt, zu, zv, i64_w, i32_w]; rfl); refine pure_ (i := 3) (N := some 24) (v := ?_) (a' := ?_) #[T,T,T,T,F,F,F,F,F,F,F,F,F,F,F,F,F,F,F,F,F,F,F] rfl rfl (any_of HT_.out (by kernel_rfl)) (fun _ _ _ h => h) (Or.inl ⟨by rfl, ?_⟩) ?_ ?_; rotate_left; (intro w'; go_simp; (with_reducible rfl)); rotate_left; (simp only [Act.put, zt, zu, zv, i64_w, i32_w]; rfl); refine pure_ (i := 5) (N := some 26) (v := ?_) (a' := ?_) #[T,T,T,T,F,T,F,F,F,F,F,F,F,F,F,F,F,F,F,F,F,F,F] rfl rfl (any_of HT_.out (by kernel_rfl)) (fun _ _ _ h => h) (Or.inl ⟨by rfl, ?_⟩) ?_ ?_; rotate_left; (intro w'; go_simp; (with_reducible rfl)); rotate_left; (simp only [Act.put, zt, zu, zv, i64_w, i32_w]; rfl); refine pure_ (i := 6) (N := some 27) (v := ?_) (a' := ?_) #[T,T,T,T,F,T,T,F,F,F,F,F,F,F,F,F,F,F,F,F,F,F,F] rfl rfl (any_of HT_.out (by kernel_rfl)) (fun _ _ _ h => h) (Or.inl ⟨by rfl, ?_⟩) ?_ ?_; rotate_left; (intro w'; go_simp; (with_reducible rfl)); rotate_left; (simp only [Act.put, zt, zu, zv, i64_w, i32_w]; rfl); refine pure_ (i := 7) (N := some 28) (v := ?_) (a' := ?_) #[T,T,T,T,F,T,T,T,F,F,F,F,F,F,F,F,F,F,F,F,F,F,F] rfl rfl (any_of HT_.out (by kernel_rfl)) (fun _ _ _ h => h) (Or.inl ⟨by rfl, ?_⟩) ?_ ?_; rotate_left; (intro w'; go_simp; (with_reducible rfl)); rotate_left; (simp only [Act.put, zt, zu, zv, i64_w, i32_w]; rfl); refine pure_ (i := 8) (N := some 29) (v := ?_) (a' := ?_) #[T,T,T,T,F,T,T,T,T,F,F,F,F,F,F,F,F,F,F,F,F,F,F] rfl rfl (any_of HT_.out (by kernel_rfl)) (fun _ _ _ h => h) (Or.inl ⟨by rfl, ?_⟩) ?_ ?_; rotate_left; (intro w'; go_simp; (with_reducible rfl)); rotate_left; (simp only [Act.put, zt, zu, zv, i64_w, i32_w]; rfl); refine pure_ (i := 10) (N := some 31) (v := ?_) (a' := ?_) #[T,T,T,T,F,T,T,T,T,F,T,F,F,F,F,F,F,F,F,F,F,F,F] rfl rfl (any_of HT_.out (by kernel_rfl)) (fun _ _ _ h => h) (Or.inl ⟨by rfl, ?_⟩) ?_ ?_; rotate_left; (intro w'; go_simp; (with_reducible rfl)); rotate_left; (simp only [Act.put, zt, zu, zv, i64_w, i32_w]; rfl); refine pure_ (i := 11) (N := some 32) (v := ?_) (a' := ?_) #[T,T,T,T,F,T,T,T,T,F,T,T,F,F,F,F,F,F,F,F,F,F,F] rfl rfl (any_of HT_.out (by kernel_rfl)) (fun _ _ _ h => h) (Or.inl ⟨by rfl, ?_⟩) ?_ ?_; rotate_left; (intro w'; go_simp; (with_reducible rfl)); rotate_left; (simp only [Act.put, zt, zu, zv, i64_w, i32_w]; rfl); refine pure_ (i := 12) (N := some 33) (v := ?_) (a' := ?_) #[T,T,T,T,F,T,T,T,T,F,T,T,T,F,F,F,F,F,F,F,F,F,F] rfl rfl (any_of HT_.out (by kernel_rfl)) (fun _ _ _ h => h) (Or.inl ⟨by rfl, ?_⟩) ?_ ?_; rotate_left; (intro w'; go_simp; (with_reducible rfl)); rotate_left; (simp only [Act.put, zt, zu, zv, i64_w, i32_w]; rfl); refine pure_ (i := 13) (N := some 34) (v := ?_) (a' := ?_) #[T,T,T,T,F,T,T,T,T,F,T,T,T,T,F,F,F,F,F,F,F,F,F] rfl rfl (any_of HT_.out (by kernel_rfl)) (fun _ _ _ h => h) (Or.inl ⟨by rfl, ?_⟩) ?_ ?_; rotate_left; (intro w'; go_simp; (with_reducible rfl)); rotate_left; (simp only [Act.put, zt, zu, zv, i64_w, i32_w]; rfl); refine pure_ (i := 15) (N := some 36) (v := ?_) (a' := ?_) #[T,T,T,T,F,T,T,T,T,F,T,T,T,T,F,T,F,F,F,F,F,F,F] rfl rfl (any_of HT_.out (by kernel_rfl)) (fun _ _ _ h => h) (Or.inl ⟨by rfl, ?_⟩) ?_ ?_; rotate_left; (intro w'; go_simp; (with_reducible rfl)); rotate_left; (simp only [Act.put, zt, zu, zv, i64_w, i32_w]; rfl); refine pure_ (i := 16) (N := some 37) (v := ?_) (a' := ?_) #[T,T,T,T,F,T,T,T,T,F,T,T,T,T,F,T,T,F,F,F,F,F,F] rfl rfl (any_of HT_.out (by kernel_rfl)) (fun _ _ _ h => h) (Or.inl ⟨by rfl, ?_⟩) ?_ ?_; rotate_left; (intro w'; go_simp; (with_reducible rfl)); rotate_left; (simp only [Act.put, zt, zu, zv, i64_w, i32_w]; rfl); refine pure_ (i := 17) (N := some 38) (v := ?_) (a' := ?_) #[T,T,T,T,F,T,T,T,T,F,T,T,T,T,F,T,T,T,F,F,F,F,F] rfl rfl (any_of HT_.out (by kernel_rfl)) (fun _ _ _ h => h) (Or.inl ⟨by rfl, ?_⟩) ?_ ?_; rotate_left; (intro w'; go_simp; (with_reducible rfl)); rotate_left; (simp only [Act.put, zt, zu, zv, i64_w, i32_w]; rfl); refine pure_ (i := 18) (N := some 39) (v := ?_) (a' := ?_) #[T,T,T,T,F,T,T,T,T,F,T,T,T,T,F,T,T,T,T,F,F,F,F] rfl rfl (any_of HT_.out (by kernel_rfl)) (fun _ _ _ h => h) (Or.inl ⟨by rfl, ?_⟩) ?_ ?_; rotate_left; (intro w'; go_simp; (with_reducible rfl)); rotate_left; (simp only [Act.put, zt, zu, zv, i64_w, i32_w]; rfl); refine take_ (i := 4) (N := some 25) (v := ?_) (a' := ?_) #[T,T,T,T,T,T,T,T,T,F,T,T,T,T,F,T,T,T,T,F,F,F,F] rfl rfl (take_ofW HT_.out HW_.out (by kernel_rfl)) (fun _ _ _ h => h) (Or.inl ⟨by rfl, ?_⟩) hHeld ?_ ?_; rotate_left; (rintro w' ⟨s0, s1, s2, s3, s4, s5, s6, s7, s8, s9, s10, s11, s12, s13, s14, s15, s16, s17, s18, s19, s20, s21, s22, s23⟩; go_simp; (with_reducible rfl)); rotate_left; (simp only [Act.put, zt, zu, zv, i64_w, i32_w]; rfl); refine take_ (i := 9) (N := some 30) (v := ?_) (a' := ?_) #[T,T,T,T,T,T,T,T,T,T,T,T,T,T,F,T,T,T,T,F,F,F,F] rfl rfl (take_ofW HT_.out HW_.out (by kernel_rfl)) (fun _ _ _ h => h) (Or.inl ⟨by rfl, ?_⟩) hHeld ?_ ?_; rotate_left; (rintro w' ⟨s0, s1, s2, s3, s4, s5, s6, s7, s8, s9, s10, s11, s12, s13, s14, s15, s16, s17, s18, s19, s20, s21, s22, s23⟩; go_simp; (with_reducible rfl)); rotate_left; (simp only [Act.put, zt, zu, zv, i64_w, i32_w]; rfl); refine take_ (i := 14) (N := some 35) (v := ?_) (a' := ?_) #[T,T,T,T,T,T,T,T,T,T,T,T,T,T,T,T,T,T,T,F,F,F,F] rfl rfl (take_ofW HT_.out HW_.out (by kernel_rfl)) (fun _ _ _ h => h) (Or.inl ⟨by rfl, ?_⟩) hHeld ?_ ?_; rotate_left; (rintro w' ⟨s0, s1, s2, s3, s4, s5, s6, s7, s8, s9, s10, s11, s12, s13, s14, s15, s16, s17, s18, s19, s20, s21, s22, s23⟩; go_simp; (with_reducible rfl)); rotate_left; (simp only [Act.put, zt, zu, zv, i64_w, i32_w]; rfl); refine take_ (i := 19) (N := some 40) (v := ?_) (a' := ?_) #[T,T,T,T,T,T,T,T,T,T,T,T,T,T,T,T,T,T,T,T,F,F,F] rfl rfl (take_ofW HT_.out HW_.out (by kernel_rfl)) (fun _ _ _ h => h) (Or.inl ⟨by rfl, ?_⟩) hHeld ?_ ?_; rotate_left; (rintro w' ⟨s0, s1, s2, s3, s4, s5, s6, s7, s8, s9, s10, s11, s12, s13, s14, s15, s16, s17, s18, s19, s20, s21, s22, s23⟩; go_simp; (with_reducible rfl)); rotate_left; (simp only [Act.put, zt, zu, zv, i64_w, i32_w]; rfl); refine pure_ (i := 20) (N := some 41) (v := ?_) (a' := ?_) #[T,T,T,T,T,T,T,T,T,T,T,T,T,T,T,T,T,T,T,T,T,F,F] rfl rfl (any_of HT_.out (by kernel_rfl)) (fun _ _ _ h => h) (Or.inl ⟨by rfl, ?_⟩) ?_ ?_; rotate_left; (intro w'; go_simp; (with_reducible rfl)); rotate_left; (simp only [Act.put, zt, zu, zv, i64_w, i32_w]; rfl); refine one_ (i := 21) (N := some 42) #[T,T,T,T,T,T,T,T,T,T,T,T,T,T,T,T,T,T,T,T,T,T,F] rfl rfl (one_of HT_.out (by kernel_rfl)) (by decide) (fun K hK => ?_); refine goes_ Try.func41 (by kernel_rfl) rfl #[.agg #[.string ((rd_T53 l0 x11_1).f2), .string ((rd_T53 l0 x11_1).f3), .string ((rd_T53 l0 x11_1).f4), .slice A368_5 ((rd_T53 l0 x11_1).f5).length c368_5, .slice none 0 0]] (by rfl) rfl rfl (by (try simp only [List.map_toArray, List.map_cons, List.map_nil]); first | done | rfl | (simp only [List.length_drop, List.length_take]; rfl)) ?_; refine (r11_Alone.calls k1 ((rd_T53 l0 x11_1).f2) ((rd_T53 l0 x11_1).f3) ((rd_T53 l0 x11_1).f4) _ _ ((rd_T53 l0 x11_1).f5) _ _ ([] : List (S25)) t372 _ ?side1 ?side2 ?side3 ?side4 A10.out).mono ?_
          (case side1 => repeat (first | exact (Kd.C_below HR371_5.out HB.out) | (with_reducible refine Kd.C_alloc ?_ _) | (with_reducible refine Kd.C_drewN ?_ _) | (with_reducible refine Kd.C_drew ?_)))
          (case side2 => exact HC371_5.out)
          (case side3 => exact Kd.C_nil _ _)
          (case side4 => exact Nat.le_refl _)
          rintro e w13 ⟨rfl, hb⟩; refine ⟨_, rfl, ?_⟩; have n0_ := zk (zs (by with_reducible repeat first | exact HB.out | apply zA | apply zN | apply zD) hb); clear HB; have HB := n0_; clear n0_
          (try clear hb)
          (try clear hb2)
          (try clear hk)
          (try clear hi)
          refine hK.out _ _ ⟨(zB HB hw368_0), (zB HB hw368_1), (zB HB hw368_2), (zB HB hw368_3), (zB HB hw368_4), (zB HB hw368_5), (zB HB hw369_0), (zB HB hw369_1), (zB HB hw369_2), (zB HB hw369_3), (zB HB hw369_4), (zB HB hw369_5), (zB HB hw370_0), (zB HB hw370_1), (zB HB hw370_2), (zB HB hw370_3), (zB HB hw370_4), (zB HB hw370_5), (zB HB hw371_0), (zB HB hw371_1), (zB HB hw371_2), (zB HB hw371_3), (zB HB hw371_4), (zB HB hw371_5)⟩ (fun hHeld => ?_); clear hK K; refine norm_ (a' := ?_) ?_ ?_; rotate_left
          ·
           show Act.put _ (some 42) _ = _
           simp only [Act.put, zt, zu, zv, i64_w, i32_w]; rfl
          refine pure_ (i := 22) (N := some 4) (v := ?_) (a' := ?_) #[T,T,T,T,T,T,T,T,T,T,T,T,T,T,T,T,T,T,T,T,T,T,T] rfl rfl (any_of HT_.out (by kernel_rfl)) (fun _ _ _ h => h) (Or.inl ⟨by rfl, ?_⟩) ?_ ?_; rotate_left; (intro w'; go_simp; (with_reducible rfl)); rotate_left; (simp only [Act.put, zt, zu, zv, i64_w, i32_w]; rfl); refine done_ (done_of HT_.out (by kernel_rfl)) ?_
          try go_wp2
          go_loopg [47] k1 (fun kq v47 w' => ∃ (x47_2 : Int), v47 = .int .i64 x47_2 ∧ Aside0 (r13_Check.l1 kq l0 x11_1 (l0.length : Int) x11_1 x11_1 x47_2 = some r) ∧ Aside0 (kq ≤ k1) ∧ Aside0 (Below w.heap.size w w'))
          case atStart => exact ⟨(0), (by first | rfl | (simp; done) | (simp [*]; done)), H', ⟨Nat.le_refl _⟩, ⟨by with_reducible repeat first | exact HB.out | apply zA | apply zN | apply zD⟩⟩
          case round =>
           clear H'; (try clear c1); (try clear p2); (try clear c3); (try clear p3); (try clear q3); (try clear hx3); (try clear c4); (try clear c4b0); (try clear c5); (try clear c5b0); (try clear c5b1); (try clear p6); (try clear c7); (try clear c7b0); (try clear c8); (try clear c8b0); (try clear c9); (try clear c9b0); (try clear c11); (try clear c11b0); (try clear c11b1); (try clear hx368_0); (try clear hx368_1); (try clear hx368_2); (try clear hx368_3); (try clear hx368_4); (try clear hx368_5); (try clear hx369_0); (try clear hx369_1); (try clear hx369_2); (try clear hx369_3); (try clear hx369_4); (try clear hx369_5); (try clear hx370_0); (try clear hx370_1); (try clear hx370_2); (try clear hx370_3); (try clear hx370_4); (try clear hx370_5); (try clear hx371_0); (try clear hx371_1); (try clear hx371_2); (try clear hx371_3); (try clear hx371_4); (try clear hx371_5); (try clear p2); (try clear p368); (try clear p369); (try clear p370); (try clear p371); (try clear q368); (try clear q369); (try clear q370); (try clear q371); obtain ⟨x47_2, rfl, HA, HK2, HB⟩ := hrel
           cases gk with
           | zero => exact absurd HA.out (by simp [r13_Check.l1])
           | succ k2 =>
            have H := HA.out; clear HA; simp only [r13_Check.l1] at H
            by_cases c14 : x47_2 < x11_1
            ·
             rw [if_pos c14] at H; have c14b0 := decide_eq_true c14; clear c14
             by_cases c15 : 0 ≤ x11_1
             ·
              rw [if_pos c15] at H; have c15b0 := decide_eq_true c15; clear c15
              by_cases c16 : x11_1 < (l0.length : Int)
              ·
               rw [if_pos c16] at H; have c16b0 := decide_eq_true c16; clear c16
               by_cases c17 : ((rd_T53 l0 x11_1).f3).toList = ([] : List UInt8)
               ·
                rw [if_pos c17] at H; have c17b0 := beq_iff_eq.mpr c17; have c17b1 := bne_eq_false_iff_eq.mpr c17; clear c17; have H' := zk H; clear H
                try go_wp2
                have n0_ := zk (zD HB.out); clear HB; have HB := n0_; clear n0_; have p373 : 0 ≤ (x11_1 : Int) := zo (by assumption); have q373 : x11_1 < (l0.length : Int) := zo (by assumption); obtain ⟨ad373, A373_5, c373_5, e373, hx373_0, hx373_1, hx373_2, hx373_3, hx373_4, hx373_5, hl373_5, hi373_5⟩ := at_T53 HR0.out x11_1 p373 q373; have hw373_5 := hx373_5; have hw373_4 := hx373_4; have hw373_3 := hx373_3; have hw373_2 := hx373_2; have hw373_1 := hx373_1; have hw373_0 := hx373_0; obtain rfl : ad368 = ad373 := (by injection e373); replace hx373_0 := zB HB hx373_0; replace hx373_1 := zB HB hx373_1; replace hx373_2 := zB HB hx373_2; replace hx373_3 := zB HB hx373_3; replace hx373_4 := zB HB hx373_4; replace hx373_5 := zB HB hx373_5; have HR373_5 := zk hi373_5; have HC373_5 := zk hl373_5; clear hi373_5 hl373_5; replace p373 := eq_true p373; replace q373 := eq_true q373; refine start_ (n := 32) (S := fun w' => w'.cell? (ad368.add ((x11_1).toNat * 6)) = some (.int .i64 ((rd_T53 l0 x11_1).f0)) ∧ w'.cell? ⟨(ad368.add ((x11_1).toNat * 6)).block, (ad368.add ((x11_1).toNat * 6)).off + 1, none⟩ = some (.int .i64 ((rd_T53 l0 x11_1).f1)) ∧ w'.cell? ⟨(ad368.add ((x11_1).toNat * 6)).block, (ad368.add ((x11_1).toNat * 6)).off + 2, none⟩ = some (.string ((rd_T53 l0 x11_1).f2)) ∧ w'.cell? ⟨(ad368.add ((x11_1).toNat * 6)).block, (ad368.add ((x11_1).toNat * 6)).off + 3, none⟩ = some (.string ((rd_T53 l0 x11_1).f3)) ∧ w'.cell? ⟨(ad368.add ((x11_1).toNat * 6)).block, (ad368.add ((x11_1).toNat * 6)).off + 4, none⟩ = some (.string ((rd_T53 l0 x11_1).f4)) ∧ w'.cell? ⟨(ad368.add ((x11_1).toNat * 6)).block, (ad368.add ((x11_1).toNat * 6)).off + 5, none⟩ = some (.slice A373_5 ((rd_T53 l0 x11_1).f5).length c373_5)) (ds := []) #[F,F,F,F,F,F,F,F,F,F,F,F,F,F,F,F,F,F,F,F,F,F,F,F,F,F,F,F,F,F,F,F] (by kernel_rfl) rfl rfl ⟨(zB HB hw373_0), (zB HB hw373_1), (zB HB hw373_2), (zB HB hw373_3), (zB HB hw373_4), (zB HB hw373_5)⟩ (fun hHeld => ?_); refine with_tabW r13_Check.tab16 r13_Check.bits16 (fun HT_ HW_ => ?_); generalize wr.drew = w18 at HB HR373_5 hx373_0 hx373_1 hx373_2 hx373_3 hx373_4 hx373_5 hHeld ⊢; refine pure_ (i := 0) (N := some 50) (v := ?_) (a' := ?_) #[T,F,F,F,F,F,F,F,F,F,F,F,F,F,F,F,F,F,F,F,F,F,F,F,F,F,F,F,F,F,F,F] rfl rfl (any_of HT_.out (by kernel_rfl)) (fun _ _ _ h => h) (Or.inl ⟨by rfl, ?_⟩) ?_ ?_; rotate_left; (intro w'; go_simp; (with_reducible rfl)); rotate_left; (simp only [Act.put, zt, zu, zv, i64_w, i32_w]; rfl); refine pure_ (i := 1) (N := some 51) (v := ?_) (a' := ?_) #[T,T,F,F,F,F,F,F,F,F,F,F,F,F,F,F,F,F,F,F,F,F,F,F,F,F,F,F,F,F,F,F] rfl rfl (any_of HT_.out (by kernel_rfl)) (fun _ _ _ h => h) (Or.inl ⟨by rfl, ?_⟩) ?_ ?_; rotate_left; (intro w'; go_simp; (with_reducible rfl)); rotate_left; (simp only [Act.put, zt, zu, zv, i64_w, i32_w]; rfl); refine pure_ (i := 2) (N := some 52) (v := ?_) (a' := ?_) #[T,T,T,F,F,F,F,F,F,F,F,F,F,F,F,F,F,F,F,F,F,F,F,F,F,F,F,F,F,F,F,F] rfl rfl (any_of HT_.out (by kernel_rfl)) (fun _ _ _ h => h) (Or.inl ⟨by rfl, ?_⟩) ?_ ?_; rotate_left; (intro w'; go_simp; (with_reducible rfl)); rotate_left; (simp only [Act.put, zt, zu, zv, i64_w, i32_w]; rfl); refine pure_ (i := 3) (N := some 53) (v := ?_) (a' := ?_) #[T,T,T,T,F,F,F,F,F,F,F,F,F,F,F,F,F,F,F,F,F,F,F,F,F,F,F,F,F,F,F,F] rfl rfl (any_of HT_.out (by kernel_rfl)) (fun _ _ _ h => h) (Or.inl ⟨by rfl, ?_⟩) ?_ ?_; rotate_left; (intro w'; go_simp; (with_reducible rfl)); rotate_left; (simp only [Act.put, zt, zu, zv, i64_w, i32_w]; rfl); refine take_ (i := 4) (N := some 54) (v := ?_) (a' := ?_) #[T,T,T,T,T,F,F,F,F,F,F,F,F,F,F,F,F,F,F,F,F,F,F,F,F,F,F,F,F,F,F,F] rfl rfl (take_ofW HT_.out HW_.out (by kernel_rfl)) (fun _ _ _ h => h) (Or.inl ⟨by rfl, ?_⟩) hHeld ?_ ?_; rotate_left; (rintro w' ⟨s0, s1, s2, s3, s4, s5⟩; go_simp; (with_reducible rfl)); rotate_left; (simp only [Act.put, zt, zu, zv, i64_w, i32_w]; rfl); refine pure_ (i := 5) (N := some 55) (v := ?_) (a' := ?_) #[T,T,T,T,T,T,F,F,F,F,F,F,F,F,F,F,F,F,F,F,F,F,F,F,F,F,F,F,F,F,F,F] rfl rfl (any_of HT_.out (by kernel_rfl)) (fun _ _ _ h => h) (Or.inl ⟨by rfl, ?_⟩) ?_ ?_; rotate_left; (intro w'; go_simp; (with_reducible rfl)); rotate_left; (simp only [Act.put, zt, zu, zv, i64_w, i32_w]; rfl); refine pure_ (i := 6) (N := some 56) (v := ?_) (a' := ?_) #[T,T,T,T,T,T,T,F,F,F,F,F,F,F,F,F,F,F,F,F,F,F,F,F,F,F,F,F,F,F,F,F] rfl rfl (any_of HT_.out (by kernel_rfl)) (fun _ _ _ h => h) (Or.inl ⟨by rfl, ?_⟩) ?_ ?_; rotate_left; (intro w'; go_simp; (with_reducible rfl)); rotate_left; (simp only [Act.put, zt, zu, zv, i64_w, i32_w]; rfl); refine pure_ (i := 7) (N := some 57) (v := undef) (a' := ?_) #[T,T,T,T,T,T,T,T,F,F,F,F,F,F,F,F,F,F,F,F,F,F,F,F,F,F,F,F,F,F,F,F] rfl rfl (any_of HT_.out (by kernel_rfl)) (fun _ _ _ h => h) (Or.inr ⟨by rfl, rfl⟩) ?_ ?_; rotate_left; (simp only [Act.put, zt, zu, zv, i64_w, i32_w]; rfl); refine pure_ (i := 8) (N := some 58) (v := undef) (a' := ?_) #[T,T,T,T,T,T,T,T,T,F,F,F,F,F,F,F,F,F,F,F,F,F,F,F,F,F,F,F,F,F,F,F] rfl rfl (any_of HT_.out (by kernel_rfl)) (fun _ _ _ h => h) (Or.inr ⟨by rfl, rfl⟩) ?_ ?_; rotate_left; (simp only [Act.put, zt, zu, zv, i64_w, i32_w]; rfl); refine pure_ (i := 9) (N := some 59) (v := undef) (a' := ?_) #[T,T,T,T,T,T,T,T,T,T,F,F,F,F,F,F,F,F,F,F,F,F,F,F,F,F,F,F,F,F,F,F] rfl rfl (any_of HT_.out (by kernel_rfl)) (fun _ _ _ h => h) (Or.inr ⟨by rfl, rfl⟩) ?_ ?_; rotate_left; (simp only [Act.put, zt, zu, zv, i64_w, i32_w]; rfl); refine pure_ (i := 10) (N := some 60) (v := undef) (a' := ?_) #[T,T,T,T,T,T,T,T,T,T,T,F,F,F,F,F,F,F,F,F,F,F,F,F,F,F,F,F,F,F,F,F] rfl rfl (any_of HT_.out (by kernel_rfl)) (fun _ _ _ h => h) (Or.inr ⟨by rfl, rfl⟩) ?_ ?_; rotate_left; (simp only [Act.put, zt, zu, zv, i64_w, i32_w]; rfl); refine pure_ (i := 11) (N := some 61) (v := undef) (a' := ?_) #[T,T,T,T,T,T,T,T,T,T,T,T,F,F,F,F,F,F,F,F,F,F,F,F,F,F,F,F,F,F,F,F] rfl rfl (any_of HT_.out (by kernel_rfl)) (fun _ _ _ h => h) (Or.inr ⟨by rfl, rfl⟩) ?_ ?_; rotate_left; (simp only [Act.put, zt, zu, zv, i64_w, i32_w]; rfl); refine pure_ (i := 12) (N := some 62) (v := undef) (a' := ?_) #[T,T,T,T,T,T,T,T,T,T,T,T,T,F,F,F,F,F,F,F,F,F,F,F,F,F,F,F,F,F,F,F] rfl rfl (any_of HT_.out (by kernel_rfl)) (fun _ _ _ h => h) (Or.inr ⟨by rfl, rfl⟩) ?_ ?_; rotate_left; (simp only [Act.put, zt, zu, zv, i64_w, i32_w]; rfl); refine pure_ (i := 13) (N := some 63) (v := undef) (a' := ?_) #[T,T,T,T,T,T,T,T,T,T,T,T,T,T,F,F,F,F,F,F,F,F,F,F,F,F,F,F,F,F,F,F] rfl rfl (any_of HT_.out (by kernel_rfl)) (fun _ _ _ h => h) (Or.inr ⟨by rfl, rfl⟩) ?_ ?_; rotate_left; (simp only [Act.put, zt, zu, zv, i64_w, i32_w]; rfl); refine pure_ (i := 14) (N := some 64) (v := undef) (a' := ?_) #[T,T,T,T,T,T,T,T,T,T,T,T,T,T,T,F,F,F,F,F,F,F,F,F,F,F,F,F,F,F,F,F] rfl rfl (any_of HT_.out (by kernel_rfl)) (fun _ _ _ h => h) (Or.inr ⟨by rfl, rfl⟩) ?_ ?_; rotate_left; (simp only [Act.put, zt, zu, zv, i64_w, i32_w]; rfl); refine pure_ (i := 15) (N := some 65) (v := undef) (a' := ?_) #[T,T,T,T,T,T,T,T,T,T,T,T,T,T,T,T,F,F,F,F,F,F,F,F,F,F,F,F,F,F,F,F] rfl rfl (any_of HT_.out (by kernel_rfl)) (fun _ _ _ h => h) (Or.inr ⟨by rfl, rfl⟩) ?_ ?_; rotate_left; (simp only [Act.put, zt, zu, zv, i64_w, i32_w]; rfl); refine pure_ (i := 16) (N := some 66) (v := undef) (a' := ?_) #[T,T,T,T,T,T,T,T,T,T,T,T,T,T,T,T,T,F,F,F,F,F,F,F,F,F,F,F,F,F,F,F] rfl rfl (any_of HT_.out (by kernel_rfl)) (fun _ _ _ h => h) (Or.inr ⟨by rfl, rfl⟩) ?_ ?_; rotate_left; (simp only [Act.put, zt, zu, zv, i64_w, i32_w]; rfl); refine pure_ (i := 17) (N := some 67) (v := undef) (a' := ?_) #[T,T,T,T,T,T,T,T,T,T,T,T,T,T,T,T,T,T,F,F,F,F,F,F,F,F,F,F,F,F,F,F] rfl rfl (any_of HT_.out (by kernel_rfl)) (fun _ _ _ h => h) (Or.inr ⟨by rfl, rfl⟩) ?_ ?_; rotate_left; (simp only [Act.put, zt, zu, zv, i64_w, i32_w]; rfl); refine pure_ (i := 18) (N := some 68) (v := ?_) (a' := ?_) #[T,T,T,T,T,T,T,T,T,T,T,T,T,T,T,T,T,T,T,F,F,F,F,F,F,F,F,F,F,F,F,F] rfl rfl (any_of HT_.out (by kernel_rfl)) (fun _ _ _ h => h) (Or.inl ⟨by rfl, ?_⟩) ?_ ?_; rotate_left; (intro w'; go_simp; (with_reducible rfl)); rotate_left; (simp only [Act.put, zt, zu, zv, i64_w, i32_w]; rfl); refine pure_ (i := 19) (N := some 69) (v := ?_) (a' := ?_) #[T,T,T,T,T,T,T,T,T,T,T,T,T,T,T,T,T,T,T,T,F,F,F,F,F,F,F,F,F,F,F,F] rfl rfl (any_of HT_.out (by kernel_rfl)) (fun _ _ _ h => h) (Or.inl ⟨by rfl, ?_⟩) ?_ ?_; rotate_left; (intro w'; go_simp; (with_reducible rfl)); rotate_left; (simp only [Act.put, zt, zu, zv, i64_w, i32_w]; rfl); refine pure_ (i := 20) (N := some 70) (v := undef) (a' := ?_) #[T,T,T,T,T,T,T,T,T,T,T,T,T,T,T,T,T,T,T,T,T,F,F,F,F,F,F,F,F,F,F,F] rfl rfl (any_of HT_.out (by kernel_rfl)) (fun _ _ _ h => h) (Or.inr ⟨by rfl, rfl⟩) ?_ ?_; rotate_left; (simp only [Act.put, zt, zu, zv, i64_w, i32_w]; rfl); refine pure_ (i := 21) (N := some 71) (v := undef) (a' := ?_) #[T,T,T,T,T,T,T,T,T,T,T,T,T,T,T,T,T,T,T,T,T,T,F,F,F,F,F,F,F,F,F,F] rfl rfl (any_of HT_.out (by kernel_rfl)) (fun _ _ _ h => h) (Or.inr ⟨by rfl, rfl⟩) ?_ ?_; rotate_left; (simp only [Act.put, zt, zu, zv, i64_w, i32_w]; rfl); refine pure_ (i := 22) (N := some 72) (v := undef) (a' := ?_) #[T,T,T,T,T,T,T,T,T,T,T,T,T,T,T,T,T,T,T,T,T,T,T,F,F,F,F,F,F,F,F,F] rfl rfl (any_of HT_.out (by kernel_rfl)) (fun _ _ _ h => h) (Or.inr ⟨by rfl, rfl⟩) ?_ ?_; rotate_left; (simp only [Act.put, zt, zu, zv, i64_w, i32_w]; rfl); refine pure_ (i := 23) (N := some 73) (v := undef) (a' := ?_) #[T,T,T,T,T,T,T,T,T,T,T,T,T,T,T,T,T,T,T,T,T,T,T,T,F,F,F,F,F,F,F,F] rfl rfl (any_of HT_.out (by kernel_rfl)) (fun _ _ _ h => h) (Or.inr ⟨by rfl, rfl⟩) ?_ ?_; rotate_left; (simp only [Act.put, zt, zu, zv, i64_w, i32_w]; rfl); refine pure_ (i := 24) (N := some 74) (v := undef) (a' := ?_) #[T,T,T,T,T,T,T,T,T,T,T,T,T,T,T,T,T,T,T,T,T,T,T,T,T,F,F,F,F,F,F,F] rfl rfl (any_of HT_.out (by kernel_rfl)) (fun _ _ _ h => h) (Or.inr ⟨by rfl, rfl⟩) ?_ ?_; rotate_left; (simp only [Act.put, zt, zu, zv, i64_w, i32_w]; rfl); refine pure_ (i := 25) (N := some 75) (v := undef) (a' := ?_) #[T,T,T,T,T,T,T,T,T,T,T,T,T,T,T,T,T,T,T,T,T,T,T,T,T,T,F,F,F,F,F,F] rfl rfl (any_of HT_.out (by kernel_rfl)) (fun _ _ _ h => h) (Or.inr ⟨by rfl, rfl⟩) ?_ ?_; rotate_left; (simp only [Act.put, zt, zu, zv, i64_w, i32_w]; rfl); refine pure_ (i := 26) (N := some 76) (v := undef) (a' := ?_) #[T,T,T,T,T,T,T,T,T,T,T,T,T,T,T,T,T,T,T,T,T,T,T,T,T,T,T,F,F,F,F,F] rfl rfl (any_of HT_.out (by kernel_rfl)) (fun _ _ _ h => h) (Or.inr ⟨by rfl, rfl⟩) ?_ ?_; rotate_left; (simp only [Act.put, zt, zu, zv, i64_w, i32_w]; rfl); refine pure_ (i := 27) (N := some 77) (v := undef) (a' := ?_) #[T,T,T,T,T,T,T,T,T,T,T,T,T,T,T,T,T,T,T,T,T,T,T,T,T,T,T,T,F,F,F,F] rfl rfl (any_of HT_.out (by kernel_rfl)) (fun _ _ _ h => h) (Or.inr ⟨by rfl, rfl⟩) ?_ ?_; rotate_left; (simp only [Act.put, zt, zu, zv, i64_w, i32_w]; rfl); refine pure_ (i := 28) (N := some 78) (v := undef) (a' := ?_) #[T,T,T,T,T,T,T,T,T,T,T,T,T,T,T,T,T,T,T,T,T,T,T,T,T,T,T,T,T,F,F,F] rfl rfl (any_of HT_.out (by kernel_rfl)) (fun _ _ _ h => h) (Or.inr ⟨by rfl, rfl⟩) ?_ ?_; rotate_left; (simp only [Act.put, zt, zu, zv, i64_w, i32_w]; rfl); refine pure_ (i := 29) (N := some 79) (v := undef) (a' := ?_) #[T,T,T,T,T,T,T,T,T,T,T,T,T,T,T,T,T,T,T,T,T,T,T,T,T,T,T,T,T,T,F,F] rfl rfl (any_of HT_.out (by kernel_rfl)) (fun _ _ _ h => h) (Or.inr ⟨by rfl, rfl⟩) ?_ ?_; rotate_left; (simp only [Act.put, zt, zu, zv, i64_w, i32_w]; rfl); refine pure_ (i := 30) (N := some 80) (v := undef) (a' := ?_) #[T,T,T,T,T,T,T,T,T,T,T,T,T,T,T,T,T,T,T,T,T,T,T,T,T,T,T,T,T,T,T,F] rfl rfl (any_of HT_.out (by kernel_rfl)) (fun _ _ _ h => h) (Or.inr ⟨by rfl, rfl⟩) ?_ ?_; rotate_left; (simp only [Act.put, zt, zu, zv, i64_w, i32_w]; rfl); refine pure_ (i := 31) (N := some 81) (v := ?_) (a' := ?_) #[T,T,T,T,T,T,T,T,T,T,T,T,T,T,T,T,T,T,T,T,T,T,T,T,T,T,T,T,T,T,T,T] rfl rfl (any_of HT_.out (by kernel_rfl)) (fun _ _ _ h => h) (Or.inl ⟨by rfl, ?_⟩) ?_ ?_; rotate_left; (intro w'; go_simp; (with_reducible rfl)); rotate_left; (simp only [Act.put, zt, zu, zv, i64_w, i32_w]; rfl); refine done_ (done_of HT_.out (by kernel_rfl)) ?_
                try go_wp2
                go_roundg k2
                case measure => have := HK1.out; have := HK2.out; omega
                case rel => exact ⟨(wrap64 (x47_2 + 1)), (by first | rfl | (simp; done) | (simp [*]; done)), H', ⟨by have := HK1.out; have := HK2.out; omega⟩, ⟨by with_reducible repeat first | exact HB.out | apply zA | apply zN | apply zD⟩⟩
               ·
                rw [if_neg c17] at H; have c17b0 := beq_eq_false_iff_ne.mpr c17; have c17b1 := bne_iff_ne.mpr c17
                by_cases c19 : 0 ≤ x47_2
                ·
                 rw [if_pos c19] at H; have c19b0 := decide_eq_true c19; clear c19
                 by_cases c20 : x47_2 < (l0.length : Int)
                 ·
                  rw [if_pos c20] at H; have c20b0 := decide_eq_true c20; clear c20
                  by_cases c21 : ((rd_T53 l0 x47_2).f1) = ((rd_T53 l0 x11_1).f1)
                  ·
                   rw [if_pos c21] at H; have c21b0 := beq_iff_eq.mpr c21; have c21b1 := bne_eq_false_iff_eq.mpr c21; clear c21
                   by_cases c22 : ((rd_T53 l0 x47_2).f3).toList = ((rd_T53 l0 x11_1).f3).toList
                   ·
                    rw [if_pos c22] at H; have c22b0 := beq_iff_eq.mpr c22; have c22b1 := bne_eq_false_iff_eq.mpr c22; clear c22; obtain rfl := Option.some.inj H
                    try go_wp2
                    have n0_ := zk (zD HB.out); clear HB; have HB := n0_; clear n0_; have p373 : 0 ≤ (x11_1 : Int) := zo (by assumption); have q373 : x11_1 < (l0.length : Int) := zo (by assumption); obtain ⟨ad373, A373_5, c373_5, e373, hx373_0, hx373_1, hx373_2, hx373_3, hx373_4, hx373_5, hl373_5, hi373_5⟩ := at_T53 HR0.out x11_1 p373 q373; have hw373_5 := hx373_5; have hw373_4 := hx373_4; have hw373_3 := hx373_3; have hw373_2 := hx373_2; have hw373_1 := hx373_1; have hw373_0 := hx373_0; obtain rfl : ad368 = ad373 := (by injection e373); replace hx373_0 := zB HB hx373_0; replace hx373_1 := zB HB hx373_1; replace hx373_2 := zB HB hx373_2; replace hx373_3 := zB HB hx373_3; replace hx373_4 := zB HB hx373_4; replace hx373_5 := zB HB hx373_5; have HR373_5 := zk hi373_5; have HC373_5 := zk hl373_5; clear hi373_5 hl373_5; replace p373 := eq_true p373; replace q373 := eq_true q373; have p374 : 0 ≤ (x47_2 : Int) := zo (by assumption); have q374 : x47_2 < (l0.length : Int) := zo (by assumption); obtain ⟨ad374, A374_5, c374_5, e374, hx374_0, hx374_1, hx374_2, hx374_3, hx374_4, hx374_5, hl374_5, hi374_5⟩ := at_T53 HR0.out x47_2 p374 q374; have hw374_5 := hx374_5; have hw374_4 := hx374_4; have hw374_3 := hx374_3; have hw374_2 := hx374_2; have hw374_1 := hx374_1; have hw374_0 := hx374_0; obtain rfl : ad368 = ad374 := (by injection e374); replace hx374_0 := zB HB hx374_0; replace hx374_1 := zB HB hx374_1; replace hx374_2 := zB HB hx374_2; replace hx374_3 := zB HB hx374_3; replace hx374_4 := zB HB hx374_4; replace hx374_5 := zB HB hx374_5; have HR374_5 := zk hi374_5; have HC374_5 := zk hl374_5; clear hi374_5 hl374_5; replace p374 := eq_true p374; replace q374 := eq_true q374; have p375 : 0 ≤ (x11_1 : Int) := zo (by assumption); have q375 : x11_1 < (l0.length : Int) := zo (by assumption); obtain ⟨ad375, A375_5, c375_5, e375, hx375_0, hx375_1, hx375_2, hx375_3, hx375_4, hx375_5, hl375_5, hi375_5⟩ := at_T53 HR0.out x11_1 p375 q375; have hw375_5 := hx375_5; have hw375_4 := hx375_4; have hw375_3 := hx375_3; have hw375_2 := hx375_2; have hw375_1 := hx375_1; have hw375_0 := hx375_0; obtain rfl : ad368 = ad375 := (by injection e375); replace hx375_0 := zB HB hx375_0; replace hx375_1 := zB HB hx375_1; replace hx375_2 := zB HB hx375_2; replace hx375_3 := zB HB hx375_3; replace hx375_4 := zB HB hx375_4; replace hx375_5 := zB HB hx375_5; have HR375_5 := zk hi375_5; have HC375_5 := zk hl375_5; clear hi375_5 hl375_5; replace p375 := eq_true p375; replace q375 := eq_true q375; have ea_ := Option.some.inj (hx373_5.symm.trans hx375_5); injection ea_ with ea_ en_ ec_; subst ea_; subst ec_; clear en_; have p376 : 0 ≤ (x47_2 : Int) := zo (by assumption); have q376 : x47_2 < (l0.length : Int) := zo (by assumption); obtain ⟨ad376, A376_5, c376_5, e376, hx376_0, hx376_1, hx376_2, hx376_3, hx376_4, hx376_5, hl376_5, hi376_5⟩ := at_T53 HR0.out x47_2 p376 q376; have hw376_5 := hx376_5; have hw376_4 := hx376_4; have hw376_3 := hx376_3; have hw376_2 := hx376_2; have hw376_1 := hx376_1; have hw376_0 := hx376_0; obtain rfl : ad368 = ad376 := (by injection e376); replace hx376_0 := zB HB hx376_0; replace hx376_1 := zB HB hx376_1; replace hx376_2 := zB HB hx376_2; replace hx376_3 := zB HB hx376_3; replace hx376_4 := zB HB hx376_4; replace hx376_5 := zB HB hx376_5; have HR376_5 := zk hi376_5; have HC376_5 := zk hl376_5; clear hi376_5 hl376_5; replace p376 := eq_true p376; replace q376 := eq_true q376; have ea_ := Option.some.inj (hx374_5.symm.trans hx376_5); injection ea_ with ea_ en_ ec_; subst ea_; subst ec_; clear en_; have p377 : 0 ≤ (x11_1 : Int) := zo (by assumption); have q377 : x11_1 < (l0.length : Int) := zo (by assumption); obtain ⟨ad377, A377_5, c377_5, e377, hx377_0, hx377_1, hx377_2, hx377_3, hx377_4, hx377_5, hl377_5, hi377_5⟩ := at_T53 HR0.out x11_1 p377 q377; have hw377_5 := hx377_5; have hw377_4 := hx377_4; have hw377_3 := hx377_3; have hw377_2 := hx377_2; have hw377_1 := hx377_1; have hw377_0 := hx377_0; obtain rfl : ad368 = ad377 := (by injection e377); replace hx377_0 := zB HB hx377_0; replace hx377_1 := zB HB hx377_1; replace hx377_2 := zB HB hx377_2; replace hx377_3 := zB HB hx377_3; replace hx377_4 := zB HB hx377_4; replace hx377_5 := zB HB hx377_5; have HR377_5 := zk hi377_5; have HC377_5 := zk hl377_5; clear hi377_5 hl377_5; replace p377 := eq_true p377; replace q377 := eq_true q377; have ea_ := Option.some.inj (hx373_5.symm.trans hx377_5); injection ea_ with ea_ en_ ec_; subst ea_; subst ec_; clear en_; refine start_ (n := 32) (S := fun w' => w'.cell? (ad368.add ((x11_1).toNat * 6)) = some (.int .i64 ((rd_T53 l0 x11_1).f0)) ∧ w'.cell? ⟨(ad368.add ((x11_1).toNat * 6)).block, (ad368.add ((x11_1).toNat * 6)).off + 1, none⟩ = some (.int .i64 ((rd_T53 l0 x11_1).f1)) ∧ w'.cell? ⟨(ad368.add ((x11_1).toNat * 6)).block, (ad368.add ((x11_1).toNat * 6)).off + 2, none⟩ = some (.string ((rd_T53 l0 x11_1).f2)) ∧ w'.cell? ⟨(ad368.add ((x11_1).toNat * 6)).block, (ad368.add ((x11_1).toNat * 6)).off + 3, none⟩ = some (.string ((rd_T53 l0 x11_1).f3)) ∧ w'.cell? ⟨(ad368.add ((x11_1).toNat * 6)).block, (ad368.add ((x11_1).toNat * 6)).off + 4, none⟩ = some (.string ((rd_T53 l0 x11_1).f4)) ∧ w'.cell? ⟨(ad368.add ((x11_1).toNat * 6)).block, (ad368.add ((x11_1).toNat * 6)).off + 5, none⟩ = some (.slice A373_5 ((rd_T53 l0 x11_1).f5).length c373_5) ∧ w'.cell? (ad368.add ((x47_2).toNat * 6)) = some (.int .i64 ((rd_T53 l0 x47_2).f0)) ∧ w'.cell? ⟨(ad368.add ((x47_2).toNat * 6)).block, (ad368.add ((x47_2).toNat * 6)).off + 1, none⟩ = some (.int .i64 ((rd_T53 l0 x47_2).f1)) ∧ w'.cell? ⟨(ad368.add ((x47_2).toNat * 6)).block, (ad368.add ((x47_2).toNat * 6)).off + 2, none⟩ = some (.string ((rd_T53 l0 x47_2).f2)) ∧ w'.cell? ⟨(ad368.add ((x47_2).toNat * 6)).block, (ad368.add ((x47_2).toNat * 6)).off + 3, none⟩ = some (.string ((rd_T53 l0 x47_2).f3)) ∧ w'.cell? ⟨(ad368.add ((x47_2).toNat * 6)).block, (ad368.add ((x47_2).toNat * 6)).off + 4, none⟩ = some (.string ((rd_T53 l0 x47_2).f4)) ∧ w'.cell? ⟨(ad368.add ((x47_2).toNat * 6)).block, (ad368.add ((x47_2).toNat * 6)).off + 5, none⟩ = some (.slice A374_5 ((rd_T53 l0 x47_2).f5).length c374_5) ∧ w'.cell? (ad368.add ((x11_1).toNat * 6)) = some (.int .i64 ((rd_T53 l0 x11_1).f0)) ∧ w'.cell? ⟨(ad368.add ((x11_1).toNat * 6)).block, (ad368.add ((x11_1).toNat * 6)).off + 1, none⟩ = some (.int .i64 ((rd_T53 l0 x11_1).f1)) ∧ w'.cell? ⟨(ad368.add ((x11_1).toNat * 6)).block, (ad368.add ((x11_1).toNat * 6)).off + 2, none⟩ = some (.string ((rd_T53 l0 x11_1).f2)) ∧ w'.cell? ⟨(ad368.add ((x11_1).toNat * 6)).block, (ad368.add ((x11_1).toNat * 6)).off + 3, none⟩ = some (.string ((rd_T53 l0 x11_1).f3)) ∧ w'.cell? ⟨(ad368.add ((x11_1).toNat * 6)).block, (ad368.add ((x11_1).toNat * 6)).off + 4, none⟩ = some (.string ((rd_T53 l0 x11_1).f4)) ∧ w'.cell? ⟨(ad368.add ((x11_1).toNat * 6)).block, (ad368.add ((x11_1).toNat * 6)).off + 5, none⟩ = some (.slice A373_5 ((rd_T53 l0 x11_1).f5).length c373_5) ∧ w'.cell? (ad368.add ((x47_2).toNat * 6)) = some (.int .i64 ((rd_T53 l0 x47_2).f0)) ∧ w'.cell? ⟨(ad368.add ((x47_2).toNat * 6)).block, (ad368.add ((x47_2).toNat * 6)).off + 1, none⟩ = some (.int .i64 ((rd_T53 l0 x47_2).f1)) ∧ w'.cell? ⟨(ad368.add ((x47_2).toNat * 6)).block, (ad368.add ((x47_2).toNat * 6)).off + 2, none⟩ = some (.string ((rd_T53 l0 x47_2).f2)) ∧ w'.cell? ⟨(ad368.add ((x47_2).toNat * 6)).block, (ad368.add ((x47_2).toNat * 6)).off + 3, none⟩ = some (.string ((rd_T53 l0 x47_2).f3)) ∧ w'.cell? ⟨(ad368.add ((x47_2).toNat * 6)).block, (ad368.add ((x47_2).toNat * 6)).off + 4, none⟩ = some (.string ((rd_T53 l0 x47_2).f4)) ∧ w'.cell? ⟨(ad368.add ((x47_2).toNat * 6)).block, (ad368.add ((x47_2).toNat * 6)).off + 5, none⟩ = some (.slice A374_5 ((rd_T53 l0 x47_2).f5).length c374_5) ∧ w'.cell? (ad368.add ((x11_1).toNat * 6)) = some (.int .i64 ((rd_T53 l0 x11_1).f0)) ∧ w'.cell? ⟨(ad368.add ((x11_1).toNat * 6)).block, (ad368.add ((x11_1).toNat * 6)).off + 1, none⟩ = some (.int .i64 ((rd_T53 l0 x11_1).f1)) ∧ w'.cell? ⟨(ad368.add ((x11_1).toNat * 6)).block, (ad368.add ((x11_1).toNat * 6)).off + 2, none⟩ = some (.string ((rd_T53 l0 x11_1).f2)) ∧ w'.cell? ⟨(ad368.add ((x11_1).toNat * 6)).block, (ad368.add ((x11_1).toNat * 6)).off + 3, none⟩ = some (.string ((rd_T53 l0 x11_1).f3)) ∧ w'.cell? ⟨(ad368.add ((x11_1).toNat * 6)).block, (ad368.add ((x11_1).toNat * 6)).off + 4, none⟩ = some (.string ((rd_T53 l0 x11_1).f4)) ∧ w'.cell? ⟨(ad368.add ((x11_1).toNat * 6)).block, (ad368.add ((x11_1).toNat * 6)).off + 5, none⟩ = some (.slice A373_5 ((rd_T53 l0 x11_1).f5).length c373_5)) (ds := []) #[F,F,F,F,F,F,F,F,F,F,F,F,F,F,F,F,F,F,F,F,F,F,F,F,F,F,F,F,F,F,F,F] (by kernel_rfl) rfl rfl ⟨(zB HB hw373_0), (zB HB hw373_1), (zB HB hw373_2), (zB HB hw373_3), (zB HB hw373_4), (zB HB hw373_5), (zB HB hw374_0), (zB HB hw374_1), (zB HB hw374_2), (zB HB hw374_3), (zB HB hw374_4), (zB HB hw374_5), (zB HB hw375_0), (zB HB hw375_1), (zB HB hw375_2), (zB HB hw375_3), (zB HB hw375_4), (zB HB hw375_5), (zB HB hw376_0), (zB HB hw376_1), (zB HB hw376_2), (zB HB hw376_3), (zB HB hw376_4), (zB HB hw376_5), (zB HB hw377_0), (zB HB hw377_1), (zB HB hw377_2), (zB HB hw377_3), (zB HB hw377_4), (zB HB hw377_5)⟩ (fun hHeld => ?_); refine with_tabW r13_Check.tab16 r13_Check.bits16 (fun HT_ HW_ => ?_); generalize wr.drew = w23 at HB HR373_5 HR374_5 HR375_5 HR376_5 HR377_5 hx373_0 hx373_1 hx373_2 hx373_3 hx373_4 hx373_5 hx374_0 hx374_1 hx374_2 hx374_3 hx374_4 hx374_5 hx375_0 hx375_1 hx375_2 hx375_3 hx375_4 hx375_5 hx376_0 hx376_1 hx376_2 hx376_3 hx376_4 hx376_5 hx377_0 hx377_1 hx377_2 hx377_3 hx377_4 hx377_5 hHeld ⊢; refine pure_ (i := 0) (N := some 50) (v := ?_) (a' := ?_) #[T,F,F,F,F,F,F,F,F,F,F,F,F,F,F,F,F,F,F,F,F,F,F,F,F,F,F,F,F,F,F,F] rfl rfl (any_of HT_.out (by kernel_rfl)) (fun _ _ _ h => h) (Or.inl ⟨by rfl, ?_⟩) ?_ ?_; rotate_left; (intro w'; go_simp; (with_reducible rfl)); rotate_left; (simp only [Act.put, zt, zu, zv, i64_w, i32_w]; rfl); refine pure_ (i := 1) (N := some 51) (v := ?_) (a' := ?_) #[T,T,F,F,F,F,F,F,F,F,F,F,F,F,F,F,F,F,F,F,F,F,F,F,F,F,F,F,F,F,F,F] rfl rfl (any_of HT_.out (by kernel_rfl)) (fun _ _ _ h => h) (Or.inl ⟨by rfl, ?_⟩) ?_ ?_; rotate_left; (intro w'; go_simp; (with_reducible rfl)); rotate_left; (simp only [Act.put, zt, zu, zv, i64_w, i32_w]; rfl); refine pure_ (i := 2) (N := some 52) (v := ?_) (a' := ?_) #[T,T,T,F,F,F,F,F,F,F,F,F,F,F,F,F,F,F,F,F,F,F,F,F,F,F,F,F,F,F,F,F] rfl rfl (any_of HT_.out (by kernel_rfl)) (fun _ _ _ h => h) (Or.inl ⟨by rfl, ?_⟩) ?_ ?_; rotate_left; (intro w'; go_simp; (with_reducible rfl)); rotate_left; (simp only [Act.put, zt, zu, zv, i64_w, i32_w]; rfl); refine pure_ (i := 3) (N := some 53) (v := ?_) (a' := ?_) #[T,T,T,T,F,F,F,F,F,F,F,F,F,F,F,F,F,F,F,F,F,F,F,F,F,F,F,F,F,F,F,F] rfl rfl (any_of HT_.out (by kernel_rfl)) (fun _ _ _ h => h) (Or.inl ⟨by rfl, ?_⟩) ?_ ?_; rotate_left; (intro w'; go_simp; (with_reducible rfl)); rotate_left; (simp only [Act.put, zt, zu, zv, i64_w, i32_w]; rfl); refine take_ (i := 4) (N := some 54) (v := ?_) (a' := ?_) #[T,T,T,T,T,F,F,F,F,F,F,F,F,F,F,F,F,F,F,F,F,F,F,F,F,F,F,F,F,F,F,F] rfl rfl (take_ofW HT_.out HW_.out (by kernel_rfl)) (fun _ _ _ h => h) (Or.inl ⟨by rfl, ?_⟩) hHeld ?_ ?_; rotate_left; (rintro w' ⟨s0, s1, s2, s3, s4, s5, s6, s7, s8, s9, s10, s11, s12, s13, s14, s15, s16, s17, s18, s19, s20, s21, s22, s23, s24, s25, s26, s27, s28, s29⟩; go_simp; (with_reducible rfl)); rotate_left; (simp only [Act.put, zt, zu, zv, i64_w, i32_w]; rfl); refine pure_ (i := 5) (N := some 55) (v := ?_) (a' := ?_) #[T,T,T,T,T,T,F,F,F,F,F,F,F,F,F,F,F,F,F,F,F,F,F,F,F,F,F,F,F,F,F,F] rfl rfl (any_of HT_.out (by kernel_rfl)) (fun _ _ _ h => h) (Or.inl ⟨by rfl, ?_⟩) ?_ ?_; rotate_left; (intro w'; go_simp; (with_reducible rfl)); rotate_left; (simp only [Act.put, zt, zu, zv, i64_w, i32_w]; rfl); refine pure_ (i := 6) (N := some 56) (v := ?_) (a' := ?_) #[T,T,T,T,T,T,T,F,F,F,F,F,F,F,F,F,F,F,F,F,F,F,F,F,F,F,F,F,F,F,F,F] rfl rfl (any_of HT_.out (by kernel_rfl)) (fun _ _ _ h => h) (Or.inl ⟨by rfl, ?_⟩) ?_ ?_; rotate_left; (intro w'; go_simp; (with_reducible rfl)); rotate_left; (simp only [Act.put, zt, zu, zv, i64_w, i32_w]; rfl); refine pure_ (i := 7) (N := some 57) (v := ?_) (a' := ?_) #[T,T,T,T,T,T,T,T,F,F,F,F,F,F,F,F,F,F,F,F,F,F,F,F,F,F,F,F,F,F,F,F] rfl rfl (any_of HT_.out (by kernel_rfl)) (fun _ _ _ h => h) (Or.inl ⟨by rfl, ?_⟩) ?_ ?_; rotate_left; (intro w'; go_simp; (with_reducible rfl)); rotate_left; (simp only [Act.put, zt, zu, zv, i64_w, i32_w]; rfl); refine pure_ (i := 8) (N := some 58) (v := ?_) (a' := ?_) #[T,T,T,T,T,T,T,T,T,F,F,F,F,F,F,F,F,F,F,F,F,F,F,F,F,F,F,F,F,F,F,F] rfl rfl (any_of HT_.out (by kernel_rfl)) (fun _ _ _ h => h) (Or.inl ⟨by rfl, ?_⟩) ?_ ?_; rotate_left; (intro w'; go_simp; (with_reducible rfl)); rotate_left; (simp only [Act.put, zt, zu, zv, i64_w, i32_w]; rfl); refine pure_ (i := 9) (N := some 59) (v := ?_) (a' := ?_) #[T,T,T,T,T,T,T,T,T,T,F,F,F,F,F,F,F,F,F,F,F,F,F,F,F,F,F,F,F,F,F,F] rfl rfl (any_of HT_.out (by kernel_rfl)) (fun _ _ _ h => h) (Or.inl ⟨by rfl, ?_⟩) ?_ ?_; rotate_left; (intro w'; go_simp; (with_reducible rfl)); rotate_left; (simp only [Act.put, zt, zu, zv, i64_w, i32_w]; rfl); refine pure_ (i := 10) (N := some 60) (v := ?_) (a' := ?_) #[T,T,T,T,T,T,T,T,T,T,T,F,F,F,F,F,F,F,F,F,F,F,F,F,F,F,F,F,F,F,F,F] rfl rfl (any_of HT_.out (by kernel_rfl)) (fun _ _ _ h => h) (Or.inl ⟨by rfl, ?_⟩) ?_ ?_; rotate_left; (intro w'; go_simp; (with_reducible rfl)); rotate_left; (simp only [Act.put, zt, zu, zv, i64_w, i32_w]; rfl); refine pure_ (i := 12) (N := some 62) (v := ?_) (a' := ?_) #[T,T,T,T,T,T,T,T,T,T,T,F,T,F,F,F,F,F,F,F,F,F,F,F,F,F,F,F,F,F,F,F] rfl rfl (any_of HT_.out (by kernel_rfl)) (fun _ _ _ h => h) (Or.inl ⟨by rfl, ?_⟩) ?_ ?_; rotate_left; (intro w'; go_simp; (with_reducible rfl)); rotate_left; (simp only [Act.put, zt, zu, zv, i64_w, i32_w]; rfl); refine pure_ (i := 13) (N := some 63) (v := ?_) (a' := ?_) #[T,T,T,T,T,T,T,T,T,T,T,F,T,T,F,F,F,F,F,F,F,F,F,F,F,F,F,F,F,F,F,F] rfl rfl (any_of HT_.out (by kernel_rfl)) (fun _ _ _ h => h) (Or.inl ⟨by rfl, ?_⟩) ?_ ?_; rotate_left; (intro w'; go_simp; (with_reducible rfl)); rotate_left; (simp only [Act.put, zt, zu, zv, i64_w, i32_w]; rfl); refine pure_ (i := 14) (N := some 64) (v := ?_) (a' := ?_) #[T,T,T,T,T,T,T,T,T,T,T,F,T,T,T,F,F,F,F,F,F,F,F,F,F,F,F,F,F,F,F,F] rfl rfl (any_of HT_.out (by kernel_rfl)) (fun _ _ _ h => h) (Or.inl ⟨by rfl, ?_⟩) ?_ ?_; rotate_left; (intro w'; go_simp; (with_reducible rfl)); rotate_left; (simp only [Act.put, zt, zu, zv, i64_w, i32_w]; rfl); refine pure_ (i := 15) (N := some 65) (v := ?_) (a' := ?_) #[T,T,T,T,T,T,T,T,T,T,T,F,T,T,T,T,F,F,F,F,F,F,F,F,F,F,F,F,F,F,F,F] rfl rfl (any_of HT_.out (by kernel_rfl)) (fun _ _ _ h => h) (Or.inl ⟨by rfl, ?_⟩) ?_ ?_; rotate_left; (intro w'; go_simp; (with_reducible rfl)); rotate_left; (simp only [Act.put, zt, zu, zv, i64_w, i32_w]; rfl); refine take_ (i := 11) (N := some 61) (v := ?_) (a' := ?_) #[T,T,T,T,T,T,T,T,T,T,T,T,T,T,T,T,F,F,F,F,F,F,F,F,F,F,F,F,F,F,F,F] rfl rfl (take_ofW HT_.out HW_.out (by kernel_rfl)) (fun _ _ _ h => h) (Or.inl ⟨by rfl, ?_⟩) hHeld ?_ ?_; rotate_left; (rintro w' ⟨s0, s1, s2, s3, s4, s5, s6, s7, s8, s9, s10, s11, s12, s13, s14, s15, s16, s17, s18, s19, s20, s21, s22, s23, s24, s25, s26, s27, s28, s29⟩; go_simp; (with_reducible rfl)); rotate_left; (simp only [Act.put, zt, zu, zv, i64_w, i32_w]; rfl); refine take_ (i := 16) (N := some 66) (v := ?_) (a' := ?_) #[T,T,T,T,T,T,T,T,T,T,T,T,T,T,T,T,T,F,F,F,F,F,F,F,F,F,F,F,F,F,F,F] rfl rfl (take_ofW HT_.out HW_.out (by kernel_rfl)) (fun _ _ _ h => h) (Or.inl ⟨by rfl, ?_⟩) hHeld ?_ ?_; rotate_left; (rintro w' ⟨s0, s1, s2, s3, s4, s5, s6, s7, s8, s9, s10, s11, s12, s13, s14, s15, s16, s17, s18, s19, s20, s21, s22, s23, s24, s25, s26, s27, s28, s29⟩; go_simp; (with_reducible rfl)); rotate_left; (simp only [Act.put, zt, zu, zv, i64_w, i32_w]; rfl); refine pure_ (i := 17) (N := some 67) (v := ?_) (a' := ?_) #[T,T,T,T,T,T,T,T,T,T,T,T,T,T,T,T,T,T,F,F,F,F,F,F,F,F,F,F,F,F,F,F] rfl rfl (any_of HT_.out (by kernel_rfl)) (fun _ _ _ h => h) (Or.inl ⟨by rfl, ?_⟩) ?_ ?_; rotate_left; (intro w'; go_simp; (with_reducible rfl)); rotate_left; (simp only [Act.put, zt, zu, zv, i64_w, i32_w]; rfl); refine pure_ (i := 18) (N := some 68) (v := ?_) (a' := ?_) #[T,T,T,T,T,T,T,T,T,T,T,T,T,T,T,T,T,T,T,F,F,F,F,F,F,F,F,F,F,F,F,F] rfl rfl (any_of HT_.out (by kernel_rfl)) (fun _ _ _ h => h) (Or.inl ⟨by rfl, ?_⟩) ?_ ?_; rotate_left; (intro w'; go_simp; (with_reducible rfl)); rotate_left; (simp only [Act.put, zt, zu, zv, i64_w, i32_w]; rfl); refine pure_ (i := 19) (N := some 69) (v := ?_) (a' := ?_) #[T,T,T,T,T,T,T,T,T,T,T,T,T,T,T,T,T,T,T,T,F,F,F,F,F,F,F,F,F,F,F,F] rfl rfl (any_of HT_.out (by kernel_rfl)) (fun _ _ _ h => h) (Or.inl ⟨by rfl, ?_⟩) ?_ ?_; rotate_left; (intro w'; go_simp; (with_reducible rfl)); rotate_left; (simp only [Act.put, zt, zu, zv, i64_w, i32_w]; rfl); refine pure_ (i := 20) (N := some 70) (v := ?_) (a' := ?_) #[T,T,T,T,T,T,T,T,T,T,T,T,T,T,T,T,T,T,T,T,T,F,F,F,F,F,F,F,F,F,F,F] rfl rfl (any_of HT_.out (by kernel_rfl)) (fun _ _ _ h => h) (Or.inl ⟨by rfl, ?_⟩) ?_ ?_; rotate_left; (intro w'; go_simp; (with_reducible rfl)); rotate_left; (simp only [Act.put, zt, zu, zv, i64_w, i32_w]; rfl); refine pure_ (i := 21) (N := some 71) (v := ?_) (a' := ?_) #[T,T,T,T,T,T,T,T,T,T,T,T,T,T,T,T,T,T,T,T,T,T,F,F,F,F,F,F,F,F,F,F] rfl rfl (any_of HT_.out (by kernel_rfl)) (fun _ _ _ h => h) (Or.inl ⟨by rfl, ?_⟩) ?_ ?_; rotate_left; (intro w'; go_simp; (with_reducible rfl)); rotate_left; (simp only [Act.put, zt, zu, zv, i64_w, i32_w]; rfl); refine pure_ (i := 22) (N := some 72) (v := ?_) (a' := ?_) #[T,T,T,T,T,T,T,T,T,T,T,T,T,T,T,T,T,T,T,T,T,T,T,F,F,F,F,F,F,F,F,F] rfl rfl (any_of HT_.out (by kernel_rfl)) (fun _ _ _ h => h) (Or.inl ⟨by rfl, ?_⟩) ?_ ?_; rotate_left; (intro w'; go_simp; (with_reducible rfl)); rotate_left; (simp only [Act.put, zt, zu, zv, i64_w, i32_w]; rfl); refine pure_ (i := 23) (N := some 73) (v := ?_) (a' := ?_) #[T,T,T,T,T,T,T,T,T,T,T,T,T,T,T,T,T,T,T,T,T,T,T,T,F,F,F,F,F,F,F,F] rfl rfl (any_of HT_.out (by kernel_rfl)) (fun _ _ _ h => h) (Or.inl ⟨by rfl, ?_⟩) ?_ ?_; rotate_left; (intro w'; go_simp; (with_reducible rfl)); rotate_left; (simp only [Act.put, zt, zu, zv, i64_w, i32_w]; rfl); refine pure_ (i := 25) (N := some 75) (v := ?_) (a' := ?_) #[T,T,T,T,T,T,T,T,T,T,T,T,T,T,T,T,T,T,T,T,T,T,T,T,F,T,F,F,F,F,F,F] rfl rfl (any_of HT_.out (by kernel_rfl)) (fun _ _ _ h => h) (Or.inl ⟨by rfl, ?_⟩) ?_ ?_; rotate_left; (intro w'; go_simp; (with_reducible rfl)); rotate_left; (simp only [Act.put, zt, zu, zv, i64_w, i32_w]; rfl); refine pure_ (i := 26) (N := some 76) (v := ?_) (a' := ?_) #[T,T,T,T,T,T,T,T,T,T,T,T,T,T,T,T,T,T,T,T,T,T,T,T,F,T,T,F,F,F,F,F] rfl rfl (any_of HT_.out (by kernel_rfl)) (fun _ _ _ h => h) (Or.inl ⟨by rfl, ?_⟩) ?_ ?_; rotate_left; (intro w'; go_simp; (with_reducible rfl)); rotate_left; (simp only [Act.put, zt, zu, zv, i64_w, i32_w]; rfl); refine pure_ (i := 27) (N := some 77) (v := ?_) (a' := ?_) #[T,T,T,T,T,T,T,T,T,T,T,T,T,T,T,T,T,T,T,T,T,T,T,T,F,T,T,T,F,F,F,F] rfl rfl (any_of HT_.out (by kernel_rfl)) (fun _ _ _ h => h) (Or.inl ⟨by rfl, ?_⟩) ?_ ?_; rotate_left; (intro w'; go_simp; (with_reducible rfl)); rotate_left; (simp only [Act.put, zt, zu, zv, i64_w, i32_w]; rfl); refine pure_ (i := 28) (N := some 78) (v := ?_) (a' := ?_) #[T,T,T,T,T,T,T,T,T,T,T,T,T,T,T,T,T,T,T,T,T,T,T,T,F,T,T,T,T,F,F,F] rfl rfl (any_of HT_.out (by kernel_rfl)) (fun _ _ _ h => h) (Or.inl ⟨by rfl, ?_⟩) ?_ ?_; rotate_left; (intro w'; go_simp; (with_reducible rfl)); rotate_left; (simp only [Act.put, zt, zu, zv, i64_w, i32_w]; rfl); refine take_ (i := 24) (N := some 74) (v := ?_) (a' := ?_) #[T,T,T,T,T,T,T,T,T,T,T,T,T,T,T,T,T,T,T,T,T,T,T,T,T,T,T,T,T,F,F,F] rfl rfl (take_ofW HT_.out HW_.out (by kernel_rfl)) (fun _ _ _ h => h) (Or.inl ⟨by rfl, ?_⟩) hHeld ?_ ?_; rotate_left; (rintro w' ⟨s0, s1, s2, s3, s4, s5, s6, s7, s8, s9, s10, s11, s12, s13, s14, s15, s16, s17, s18, s19, s20, s21, s22, s23, s24, s25, s26, s27, s28, s29⟩; go_simp; (with_reducible rfl)); rotate_left; (simp only [Act.put, zt, zu, zv, i64_w, i32_w]; rfl); refine take_ (i := 29) (N := some 79) (v := ?_) (a' := ?_) #[T,T,T,T,T,T,T,T,T,T,T,T,T,T,T,T,T,T,T,T,T,T,T,T,T,T,T,T,T,T,F,F] rfl rfl (take_ofW HT_.out HW_.out (by kernel_rfl)) (fun _ _ _ h => h) (Or.inl ⟨by rfl, ?_⟩) hHeld ?_ ?_; rotate_left; (rintro w' ⟨s0, s1, s2, s3, s4, s5, s6, s7, s8, s9, s10, s11, s12, s13, s14, s15, s16, s17, s18, s19, s20, s21, s22, s23, s24, s25, s26, s27, s28, s29⟩; go_simp; (with_reducible rfl)); rotate_left; (simp only [Act.put, zt, zu, zv, i64_w, i32_w]; rfl); refine pure_ (i := 30) (N := some 80) (v := ?_) (a' := ?_) #[T,T,T,T,T,T,T,T,T,T,T,T,T,T,T,T,T,T,T,T,T,T,T,T,T,T,T,T,T,T,T,F] rfl rfl (any_of HT_.out (by kernel_rfl)) (fun _ _ _ h => h) (Or.inl ⟨by rfl, ?_⟩) ?_ ?_; rotate_left; (intro w'; go_simp; (with_reducible rfl)); rotate_left; (simp only [Act.put, zt, zu, zv, i64_w, i32_w]; rfl); refine pure_ (i := 31) (N := some 81) (v := ?_) (a' := ?_) #[T,T,T,T,T,T,T,T,T,T,T,T,T,T,T,T,T,T,T,T,T,T,T,T,T,T,T,T,T,T,T,T] rfl rfl (any_of HT_.out (by kernel_rfl)) (fun _ _ _ h => h) (Or.inl ⟨by rfl, ?_⟩) ?_ ?_; rotate_left; (intro w'; go_simp; (with_reducible rfl)); rotate_left; (simp only [Act.put, zt, zu, zv, i64_w, i32_w]; rfl); refine done_ (done_of HT_.out (by kernel_rfl)) ?_
                    try go_wp2
                    go_ret; exact ⟨by first | rfl | (simp [wN, wS] <;> rfl) | (simp [*, wN, wS] <;> rfl), by with_reducible repeat first | exact HB.out | apply zA | apply zN | apply zD⟩
                   ·
                    rw [if_neg c22] at H; have c22b0 := beq_eq_false_iff_ne.mpr c22; have c22b1 := bne_iff_ne.mpr c22; have H' := zk H; clear H
                    try go_wp2
                    have n0_ := zk (zD HB.out); clear HB; have HB := n0_; clear n0_; have p373 : 0 ≤ (x11_1 : Int) := zo (by assumption); have q373 : x11_1 < (l0.length : Int) := zo (by assumption); obtain ⟨ad373, A373_5, c373_5, e373, hx373_0, hx373_1, hx373_2, hx373_3, hx373_4, hx373_5, hl373_5, hi373_5⟩ := at_T53 HR0.out x11_1 p373 q373; have hw373_5 := hx373_5; have hw373_4 := hx373_4; have hw373_3 := hx373_3; have hw373_2 := hx373_2; have hw373_1 := hx373_1; have hw373_0 := hx373_0; obtain rfl : ad368 = ad373 := (by injection e373); replace hx373_0 := zB HB hx373_0; replace hx373_1 := zB HB hx373_1; replace hx373_2 := zB HB hx373_2; replace hx373_3 := zB HB hx373_3; replace hx373_4 := zB HB hx373_4; replace hx373_5 := zB HB hx373_5; have HR373_5 := zk hi373_5; have HC373_5 := zk hl373_5; clear hi373_5 hl373_5; replace p373 := eq_true p373; replace q373 := eq_true q373; have p374 : 0 ≤ (x47_2 : Int) := zo (by assumption); have q374 : x47_2 < (l0.length : Int) := zo (by assumption); obtain ⟨ad374, A374_5, c374_5, e374, hx374_0, hx374_1, hx374_2, hx374_3, hx374_4, hx374_5, hl374_5, hi374_5⟩ := at_T53 HR0.out x47_2 p374 q374; have hw374_5 := hx374_5; have hw374_4 := hx374_4; have hw374_3 := hx374_3; have hw374_2 := hx374_2; have hw374_1 := hx374_1; have hw374_0 := hx374_0; obtain rfl : ad368 = ad374 := (by injection e374); replace hx374_0 := zB HB hx374_0; replace hx374_1 := zB HB hx374_1; replace hx374_2 := zB HB hx374_2; replace hx374_3 := zB HB hx374_3; replace hx374_4 := zB HB hx374_4; replace hx374_5 := zB HB hx374_5; have HR374_5 := zk hi374_5; have HC374_5 := zk hl374_5; clear hi374_5 hl374_5; replace p374 := eq_true p374; replace q374 := eq_true q374; have p375 : 0 ≤ (x11_1 : Int) := zo (by assumption); have q375 : x11_1 < (l0.length : Int) := zo (by assumption); obtain ⟨ad375, A375_5, c375_5, e375, hx375_0, hx375_1, hx375_2, hx375_3, hx375_4, hx375_5, hl375_5, hi375_5⟩ := at_T53 HR0.out x11_1 p375 q375; have hw375_5 := hx375_5; have hw375_4 := hx375_4; have hw375_3 := hx375_3; have hw375_2 := hx375_2; have hw375_1 := hx375_1; have hw375_0 := hx375_0; obtain rfl : ad368 = ad375 := (by injection e375); replace hx375_0 := zB HB hx375_0; replace hx375_1 := zB HB hx375_1; replace hx375_2 := zB HB hx375_2; replace hx375_3 := zB HB hx375_3; replace hx375_4 := zB HB hx375_4; replace hx375_5 := zB HB hx375_5; have HR375_5 := zk hi375_5; have HC375_5 := zk hl375_5; clear hi375_5 hl375_5; replace p375 := eq_true p375; replace q375 := eq_true q375; have ea_ := Option.some.inj (hx373_5.symm.trans hx375_5); injection ea_ with ea_ en_ ec_; subst ea_; subst ec_; clear en_; have p376 : 0 ≤ (x47_2 : Int) := zo (by assumption); have q376 : x47_2 < (l0.length : Int) := zo (by assumption); obtain ⟨ad376, A376_5, c376_5, e376, hx376_0, hx376_1, hx376_2, hx376_3, hx376_4, hx376_5, hl376_5, hi376_5⟩ := at_T53 HR0.out x47_2 p376 q376; have hw376_5 := hx376_5; have hw376_4 := hx376_4; have hw376_3 := hx376_3; have hw376_2 := hx376_2; have hw376_1 := hx376_1; have hw376_0 := hx376_0; obtain rfl : ad368 = ad376 := (by injection e376); replace hx376_0 := zB HB hx376_0; replace hx376_1 := zB HB hx376_1; replace hx376_2 := zB HB hx376_2; replace hx376_3 := zB HB hx376_3; replace hx376_4 := zB HB hx376_4; replace hx376_5 := zB HB hx376_5; have HR376_5 := zk hi376_5; have HC376_5 := zk hl376_5; clear hi376_5 hl376_5; replace p376 := eq_true p376; replace q376 := eq_true q376; have ea_ := Option.some.inj (hx374_5.symm.trans hx376_5); injection ea_ with ea_ en_ ec_; subst ea_; subst ec_; clear en_; have p377 : 0 ≤ (x11_1 : Int) := zo (by assumption); have q377 : x11_1 < (l0.length : Int) := zo (by assumption); obtain ⟨ad377, A377_5, c377_5, e377, hx377_0, hx377_1, hx377_2, hx377_3, hx377_4, hx377_5, hl377_5, hi377_5⟩ := at_T53 HR0.out x11_1 p377 q377; have hw377_5 := hx377_5; have hw377_4 := hx377_4; have hw377_3 := hx377_3; have hw377_2 := hx377_2; have hw377_1 := hx377_1; have hw377_0 := hx377_0; obtain rfl : ad368 = ad377 := (by injection e377); replace hx377_0 := zB HB hx377_0; replace hx377_1 := zB HB hx377_1; replace hx377_2 := zB HB hx377_2; replace hx377_3 := zB HB hx377_3; replace hx377_4 := zB HB hx377_4; replace hx377_5 := zB HB hx377_5; have HR377_5 := zk hi377_5; have HC377_5 := zk hl377_5; clear hi377_5 hl377_5; replace p377 := eq_true p377; replace q377 := eq_true q377; have ea_ := Option.some.inj (hx373_5.symm.trans hx377_5); injection ea_ with ea_ en_ ec_; subst ea_; subst ec_; clear en_; refine start_ (n := 32) (S := fun w' => w'.cell? (ad368.add ((x11_1).toNat * 6)) = some (.int .i64 ((rd_T53 l0 x11_1).f0)) ∧ w'.cell? ⟨(ad368.add ((x11_1).toNat * 6)).block, (ad368.add ((x11_1).toNat * 6)).off + 1, none⟩ = some (.int .i64 ((rd_T53 l0 x11_1).f1)) ∧ w'.cell? ⟨(ad368.add ((x11_1).toNat * 6)).block, (ad368.add ((x11_1).toNat * 6)).off + 2, none⟩ = some (.string ((rd_T53 l0 x11_1).f2)) ∧ w'.cell? ⟨(ad368.add ((x11_1).toNat * 6)).block, (ad368.add ((x11_1).toNat * 6)).off + 3, none⟩ = some (.string ((rd_T53 l0 x11_1).f3)) ∧ w'.cell? ⟨(ad368.add ((x11_1).toNat * 6)).block, (ad368.add ((x11_1).toNat * 6)).off + 4, none⟩ = some (.string ((rd_T53 l0 x11_1).f4)) ∧ w'.cell? ⟨(ad368.add ((x11_1).toNat * 6)).block, (ad368.add ((x11_1).toNat * 6)).off + 5, none⟩ = some (.slice A373_5 ((rd_T53 l0 x11_1).f5).length c373_5) ∧ w'.cell? (ad368.add ((x47_2).toNat * 6)) = some (.int .i64 ((rd_T53 l0 x47_2).f0)) ∧ w'.cell? ⟨(ad368.add ((x47_2).toNat * 6)).block, (ad368.add ((x47_2).toNat * 6)).off + 1, none⟩ = some (.int .i64 ((rd_T53 l0 x47_2).f1)) ∧ w'.cell? ⟨(ad368.add ((x47_2).toNat * 6)).block, (ad368.add ((x47_2).toNat * 6)).off + 2, none⟩ = some (.string ((rd_T53 l0 x47_2).f2)) ∧ w'.cell? ⟨(ad368.add ((x47_2).toNat * 6)).block, (ad368.add ((x47_2).toNat * 6)).off + 3, none⟩ = some (.string ((rd_T53 l0 x47_2).f3)) ∧ w'.cell? ⟨(ad368.add ((x47_2).toNat * 6)).block, (ad368.add ((x47_2).toNat * 6)).off + 4, none⟩ = some (.string ((rd_T53 l0 x47_2).f4)) ∧ w'.cell? ⟨(ad368.add ((x47_2).toNat * 6)).block, (ad368.add ((x47_2).toNat * 6)).off + 5, none⟩ = some (.slice A374_5 ((rd_T53 l0 x47_2).f5).length c374_5) ∧ w'.cell? (ad368.add ((x11_1).toNat * 6)) = some (.int .i64 ((rd_T53 l0 x11_1).f0)) ∧ w'.cell? ⟨(ad368.add ((x11_1).toNat * 6)).block, (ad368.add ((x11_1).toNat * 6)).off + 1, none⟩ = some (.int .i64 ((rd_T53 l0 x11_1).f1)) ∧ w'.cell? ⟨(ad368.add ((x11_1).toNat * 6)).block, (ad368.add ((x11_1).toNat * 6)).off + 2, none⟩ = some (.string ((rd_T53 l0 x11_1).f2)) ∧ w'.cell? ⟨(ad368.add ((x11_1).toNat * 6)).block, (ad368.add ((x11_1).toNat * 6)).off + 3, none⟩ = some (.string ((rd_T53 l0 x11_1).f3)) ∧ w'.cell? ⟨(ad368.add ((x11_1).toNat * 6)).block, (ad368.add ((x11_1).toNat * 6)).off + 4, none⟩ = some (.string ((rd_T53 l0 x11_1).f4)) ∧ w'.cell? ⟨(ad368.add ((x11_1).toNat * 6)).block, (ad368.add ((x11_1).toNat * 6)).off + 5, none⟩ = some (.slice A373_5 ((rd_T53 l0 x11_1).f5).length c373_5) ∧ w'.cell? (ad368.add ((x47_2).toNat * 6)) = some (.int .i64 ((rd_T53 l0 x47_2).f0)) ∧ w'.cell? ⟨(ad368.add ((x47_2).toNat * 6)).block, (ad368.add ((x47_2).toNat * 6)).off + 1, none⟩ = some (.int .i64 ((rd_T53 l0 x47_2).f1)) ∧ w'.cell? ⟨(ad368.add ((x47_2).toNat * 6)).block, (ad368.add ((x47_2).toNat * 6)).off + 2, none⟩ = some (.string ((rd_T53 l0 x47_2).f2)) ∧ w'.cell? ⟨(ad368.add ((x47_2).toNat * 6)).block, (ad368.add ((x47_2).toNat * 6)).off + 3, none⟩ = some (.string ((rd_T53 l0 x47_2).f3)) ∧ w'.cell? ⟨(ad368.add ((x47_2).toNat * 6)).block, (ad368.add ((x47_2).toNat * 6)).off + 4, none⟩ = some (.string ((rd_T53 l0 x47_2).f4)) ∧ w'.cell? ⟨(ad368.add ((x47_2).toNat * 6)).block, (ad368.add ((x47_2).toNat * 6)).off + 5, none⟩ = some (.slice A374_5 ((rd_T53 l0 x47_2).f5).length c374_5) ∧ w'.cell? (ad368.add ((x11_1).toNat * 6)) = some (.int .i64 ((rd_T53 l0 x11_1).f0)) ∧ w'.cell? ⟨(ad368.add ((x11_1).toNat * 6)).block, (ad368.add ((x11_1).toNat * 6)).off + 1, none⟩ = some (.int .i64 ((rd_T53 l0 x11_1).f1)) ∧ w'.cell? ⟨(ad368.add ((x11_1).toNat * 6)).block, (ad368.add ((x11_1).toNat * 6)).off + 2, none⟩ = some (.string ((rd_T53 l0 x11_1).f2)) ∧ w'.cell? ⟨(ad368.add ((x11_1).toNat * 6)).block, (ad368.add ((x11_1).toNat * 6)).off + 3, none⟩ = some (.string ((rd_T53 l0 x11_1).f3)) ∧ w'.cell? ⟨(ad368.add ((x11_1).toNat * 6)).block, (ad368.add ((x11_1).toNat * 6)).off + 4, none⟩ = some (.string ((rd_T53 l0 x11_1).f4)) ∧ w'.cell? ⟨(ad368.add ((x11_1).toNat * 6)).block, (ad368.add ((x11_1).toNat * 6)).off + 5, none⟩ = some (.slice A373_5 ((rd_T53 l0 x11_1).f5).length c373_5)) (ds := []) #[F,F,F,F,F,F,F,F,F,F,F,F,F,F,F,F,F,F,F,F,F,F,F,F,F,F,F,F,F,F,F,F] (by kernel_rfl) rfl rfl ⟨(zB HB hw373_0), (zB HB hw373_1), (zB HB hw373_2), (zB HB hw373_3), (zB HB hw373_4), (zB HB hw373_5), (zB HB hw374_0), (zB HB hw374_1), (zB HB hw374_2), (zB HB hw374_3), (zB HB hw374_4), (zB HB hw374_5), (zB HB hw375_0), (zB HB hw375_1), (zB HB hw375_2), (zB HB hw375_3), (zB HB hw375_4), (zB HB hw375_5), (zB HB hw376_0), (zB HB hw376_1), (zB HB hw376_2), (zB HB hw376_3), (zB HB hw376_4), (zB HB hw376_5), (zB HB hw377_0), (zB HB hw377_1), (zB HB hw377_2), (zB HB hw377_3), (zB HB hw377_4), (zB HB hw377_5)⟩ (fun hHeld => ?_); refine with_tabW r13_Check.tab16 r13_Check.bits16 (fun HT_ HW_ => ?_); generalize wr.drew = w24 at HB HR373_5 HR374_5 HR375_5 HR376_5 HR377_5 hx373_0 hx373_1 hx373_2 hx373_3 hx373_4 hx373_5 hx374_0 hx374_1 hx374_2 hx374_3 hx374_4 hx374_5 hx375_0 hx375_1 hx375_2 hx375_3 hx375_4 hx375_5 hx376_0 hx376_1 hx376_2 hx376_3 hx376_4 hx376_5 hx377_0 hx377_1 hx377_2 hx377_3 hx377_4 hx377_5 hHeld ⊢; refine pure_ (i := 0) (N := some 50) (v := ?_) (a' := ?_) #[T,F,F,F,F,F,F,F,F,F,F,F,F,F,F,F,F,F,F,F,F,F,F,F,F,F,F,F,F,F,F,F] rfl rfl (any_of HT_.out (by kernel_rfl)) (fun _ _ _ h => h) (Or.inl ⟨by rfl, ?_⟩) ?_ ?_; rotate_left; (intro w'; go_simp; (with_reducible rfl)); rotate_left; (simp only [Act.put, zt, zu, zv, i64_w, i32_w]; rfl); refine pure_ (i := 1) (N := some 51) (v := ?_) (a' := ?_) #[T,T,F,F,F,F,F,F,F,F,F,F,F,F,F,F,F,F,F,F,F,F,F,F,F,F,F,F,F,F,F,F] rfl rfl (any_of HT_.out (by kernel_rfl)) (fun _ _ _ h => h) (Or.inl ⟨by rfl, ?_⟩) ?_ ?_; rotate_left; (intro w'; go_simp; (with_reducible rfl)); rotate_left; (simp only [Act.put, zt, zu, zv, i64_w, i32_w]; rfl); refine pure_ (i := 2) (N := some 52) (v := ?_) (a' := ?_) #[T,T,T,F,F,F,F,F,F,F,F,F,F,F,F,F,F,F,F,F,F,F,F,F,F,F,F,F,F,F,F,F] rfl rfl (any_of HT_.out (by kernel_rfl)) (fun _ _ _ h => h) (Or.inl ⟨by rfl, ?_⟩) ?_ ?_; rotate_left; (intro w'; go_simp; (with_reducible rfl)); rotate_left; (simp only [Act.put, zt, zu, zv, i64_w, i32_w]; rfl); refine pure_ (i := 3) (N := some 53) (v := ?_) (a' := ?_) #[T,T,T,T,F,F,F,F,F,F,F,F,F,F,F,F,F,F,F,F,F,F,F,F,F,F,F,F,F,F,F,F] rfl rfl (any_of HT_.out (by kernel_rfl)) (fun _ _ _ h => h) (Or.inl ⟨by rfl, ?_⟩) ?_ ?_; rotate_left; (intro w'; go_simp; (with_reducible rfl)); rotate_left; (simp only [Act.put, zt, zu, zv, i64_w, i32_w]; rfl); refine take_ (i := 4) (N := some 54) (v := ?_) (a' := ?_) #[T,T,T,T,T,F,F,F,F,F,F,F,F,F,F,F,F,F,F,F,F,F,F,F,F,F,F,F,F,F,F,F] rfl rfl (take_ofW HT_.out HW_.out (by kernel_rfl)) (fun _ _ _ h => h) (Or.inl ⟨by rfl, ?_⟩) hHeld ?_ ?_; rotate_left; (rintro w' ⟨s0, s1, s2, s3, s4, s5, s6, s7, s8, s9, s10, s11, s12, s13, s14, s15, s16, s17, s18, s19, s20, s21, s22, s23, s24, s25, s26, s27, s28, s29⟩; go_simp; (with_reducible rfl)); rotate_left; (simp only [Act.put, zt, zu, zv, i64_w, i32_w]; rfl); refine pure_ (i := 5) (N := some 55) (v := ?_) (a' := ?_) #[T,T,T,T,T,T,F,F,F,F,F,F,F,F,F,F,F,F,F,F,F,F,F,F,F,F,F,F,F,F,F,F] rfl rfl (any_of HT_.out (by kernel_rfl)) (fun _ _ _ h => h) (Or.inl ⟨by rfl, ?_⟩) ?_ ?_; rotate_left; (intro w'; go_simp; (with_reducible rfl)); rotate_left; (simp only [Act.put, zt, zu, zv, i64_w, i32_w]; rfl); refine pure_ (i := 6) (N := some 56) (v := ?_) (a' := ?_) #[T,T,T,T,T,T,T,F,F,F,F,F,F,F,F,F,F,F,F,F,F,F,F,F,F,F,F,F,F,F,F,F] rfl rfl (any_of HT_.out (by kernel_rfl)) (fun _ _ _ h => h) (Or.inl ⟨by rfl, ?_⟩) ?_ ?_; rotate_left; (intro w'; go_simp; (with_reducible rfl)); rotate_left; (simp only [Act.put, zt, zu, zv, i64_w, i32_w]; rfl); refine pure_ (i := 7) (N := some 57) (v := ?_) (a' := ?_) #[T,T,T,T,T,T,T,T,F,F,F,F,F,F,F,F,F,F,F,F,F,F,F,F,F,F,F,F,F,F,F,F] rfl rfl (any_of HT_.out (by kernel_rfl)) (fun _ _ _ h => h) (Or.inl ⟨by rfl, ?_⟩) ?_ ?_; rotate_left; (intro w'; go_simp; (with_reducible rfl)); rotate_left; (simp only [Act.put, zt, zu, zv, i64_w, i32_w]; rfl); refine pure_ (i := 8) (N := some 58) (v := ?_) (a' := ?_) #[T,T,T,T,T,T,T,T,T,F,F,F,F,F,F,F,F,F,F,F,F,F,F,F,F,F,F,F,F,F,F,F] rfl rfl (any_of HT_.out (by kernel_rfl)) (fun _ _ _ h => h) (Or.inl ⟨by rfl, ?_⟩) ?_ ?_; rotate_left; (intro w'; go_simp; (with_reducible rfl)); rotate_left; (simp only [Act.put, zt, zu, zv, i64_w, i32_w]; rfl); refine pure_ (i := 9) (N := some 59) (v := ?_) (a' := ?_) #[T,T,T,T,T,T,T,T,T,T,F,F,F,F,F,F,F,F,F,F,F,F,F,F,F,F,F,F,F,F,F,F] rfl rfl (any_of HT_.out (by kernel_rfl)) (fun _ _ _ h => h) (Or.inl ⟨by rfl, ?_⟩) ?_ ?_; rotate_left; (intro w'; go_simp; (with_reducible rfl)); rotate_left; (simp only [Act.put, zt, zu, zv, i64_w, i32_w]; rfl); refine pure_ (i := 10) (N := some 60) (v := ?_) (a' := ?_) #[T,T,T,T,T,T,T,T,T,T,T,F,F,F,F,F,F,F,F,F,F,F,F,F,F,F,F,F,F,F,F,F] rfl rfl (any_of HT_.out (by kernel_rfl)) (fun _ _ _ h => h) (Or.inl ⟨by rfl, ?_⟩) ?_ ?_; rotate_left; (intro w'; go_simp; (with_reducible rfl)); rotate_left; (simp only [Act.put, zt, zu, zv, i64_w, i32_w]; rfl); refine pure_ (i := 12) (N := some 62) (v := ?_) (a' := ?_) #[T,T,T,T,T,T,T,T,T,T,T,F,T,F,F,F,F,F,F,F,F,F,F,F,F,F,F,F,F,F,F,F] rfl rfl (any_of HT_.out (by kernel_rfl)) (fun _ _ _ h => h) (Or.inl ⟨by rfl, ?_⟩) ?_ ?_; rotate_left; (intro w'; go_simp; (with_reducible rfl)); rotate_left; (simp only [Act.put, zt, zu, zv, i64_w, i32_w]; rfl); refine pure_ (i := 13) (N := some 63) (v := ?_) (a' := ?_) #[T,T,T,T,T,T,T,T,T,T,T,F,T,T,F,F,F,F,F,F,F,F,F,F,F,F,F,F,F,F,F,F] rfl rfl (any_of HT_.out (by kernel_rfl)) (fun _ _ _ h => h) (Or.inl ⟨by rfl, ?_⟩) ?_ ?_; rotate_left; (intro w'; go_simp; (with_reducible rfl)); rotate_left; (simp only [Act.put, zt, zu, zv, i64_w, i32_w]; rfl); refine pure_ (i := 14) (N := some 64) (v := ?_) (a' := ?_) #[T,T,T,T,T,T,T,T,T,T,T,F,T,T,T,F,F,F,F,F,F,F,F,F,F,F,F,F,F,F,F,F] rfl rfl (any_of HT_.out (by kernel_rfl)) (fun _ _ _ h => h) (Or.inl ⟨by rfl, ?_⟩) ?_ ?_; rotate_left; (intro w'; go_simp; (with_reducible rfl)); rotate_left; (simp only [Act.put, zt, zu, zv, i64_w, i32_w]; rfl); refine pure_ (i := 15) (N := some 65) (v := ?_) (a' := ?_) #[T,T,T,T,T,T,T,T,T,T,T,F,T,T,T,T,F,F,F,F,F,F,F,F,F,F,F,F,F,F,F,F] rfl rfl (any_of HT_.out (by kernel_rfl)) (fun _ _ _ h => h) (Or.inl ⟨by rfl, ?_⟩) ?_ ?_; rotate_left; (intro w'; go_simp; (with_reducible rfl)); rotate_left; (simp only [Act.put, zt, zu, zv, i64_w, i32_w]; rfl); refine take_ (i := 11) (N := some 61) (v := ?_) (a' := ?_) #[T,T,T,T,T,T,T,T,T,T,T,T,T,T,T,T,F,F,F,F,F,F,F,F,F,F,F,F,F,F,F,F] rfl rfl (take_ofW HT_.out HW_.out (by kernel_rfl)) (fun _ _ _ h => h) (Or.inl ⟨by rfl, ?_⟩) hHeld ?_ ?_; rotate_left; (rintro w' ⟨s0, s1, s2, s3, s4, s5, s6, s7, s8, s9, s10, s11, s12, s13, s14, s15, s16, s17, s18, s19, s20, s21, s22, s23, s24, s25, s26, s27, s28, s29⟩; go_simp; (with_reducible rfl)); rotate_left; (simp only [Act.put, zt, zu, zv, i64_w, i32_w]; rfl); refine take_ (i := 16) (N := some 66) (v := ?_) (a' := ?_) #[T,T,T,T,T,T,T,T,T,T,T,T,T,T,T,T,T,F,F,F,F,F,F,F,F,F,F,F,F,F,F,F] rfl rfl (take_ofW HT_.out HW_.out (by kernel_rfl)) (fun _ _ _ h => h) (Or.inl ⟨by rfl, ?_⟩) hHeld ?_ ?_; rotate_left; (rintro w' ⟨s0, s1, s2, s3, s4, s5, s6, s7, s8, s9, s10, s11, s12, s13, s14, s15, s16, s17, s18, s19, s20, s21, s22, s23, s24, s25, s26, s27, s28, s29⟩; go_simp; (with_reducible rfl)); rotate_left; (simp only [Act.put, zt, zu, zv, i64_w, i32_w]; rfl); refine pure_ (i := 17) (N := some 67) (v := ?_) (a' := ?_) #[T,T,T,T,T,T,T,T,T,T,T,T,T,T,T,T,T,T,F,F,F,F,F,F,F,F,F,F,F,F,F,F] rfl rfl (any_of HT_.out (by kernel_rfl)) (fun _ _ _ h => h) (Or.inl ⟨by rfl, ?_⟩) ?_ ?_; rotate_left; (intro w'; go_simp; (with_reducible rfl)); rotate_left; (simp only [Act.put, zt, zu, zv, i64_w, i32_w]; rfl); refine pure_ (i := 18) (N := some 68) (v := ?_) (a' := ?_) #[T,T,T,T,T,T,T,T,T,T,T,T,T,T,T,T,T,T,T,F,F,F,F,F,F,F,F,F,F,F,F,F] rfl rfl (any_of HT_.out (by kernel_rfl)) (fun _ _ _ h => h) (Or.inl ⟨by rfl, ?_⟩) ?_ ?_; rotate_left; (intro w'; go_simp; (with_reducible rfl)); rotate_left; (simp only [Act.put, zt, zu, zv, i64_w, i32_w]; rfl); refine pure_ (i := 19) (N := some 69) (v := ?_) (a' := ?_) #[T,T,T,T,T,T,T,T,T,T,T,T,T,T,T,T,T,T,T,T,F,F,F,F,F,F,F,F,F,F,F,F] rfl rfl (any_of HT_.out (by kernel_rfl)) (fun _ _ _ h => h) (Or.inl ⟨by rfl, ?_⟩) ?_ ?_; rotate_left; (intro w'; go_simp; (with_reducible rfl)); rotate_left; (simp only [Act.put, zt, zu, zv, i64_w, i32_w]; rfl); refine pure_ (i := 20) (N := some 70) (v := ?_) (a' := ?_) #[T,T,T,T,T,T,T,T,T,T,T,T,T,T,T,T,T,T,T,T,T,F,F,F,F,F,F,F,F,F,F,F] rfl rfl (any_of HT_.out (by kernel_rfl)) (fun _ _ _ h => h) (Or.inl ⟨by rfl, ?_⟩) ?_ ?_; rotate_left; (intro w'; go_simp; (with_reducible rfl)); rotate_left; (simp only [Act.put, zt, zu, zv, i64_w, i32_w]; rfl); refine pure_ (i := 21) (N := some 71) (v := ?_) (a' := ?_) #[T,T,T,T,T,T,T,T,T,T,T,T,T,T,T,T,T,T,T,T,T,T,F,F,F,F,F,F,F,F,F,F] rfl rfl (any_of HT_.out (by kernel_rfl)) (fun _ _ _ h => h) (Or.inl ⟨by rfl, ?_⟩) ?_ ?_; rotate_left; (intro w'; go_simp; (with_reducible rfl)); rotate_left; (simp only [Act.put, zt, zu, zv, i64_w, i32_w]; rfl); refine pure_ (i := 22) (N := some 72) (v := ?_) (a' := ?_) #[T,T,T,T,T,T,T,T,T,T,T,T,T,T,T,T,T,T,T,T,T,T,T,F,F,F,F,F,F,F,F,F] rfl rfl (any_of HT_.out (by kernel_rfl)) (fun _ _ _ h => h) (Or.inl ⟨by rfl, ?_⟩) ?_ ?_; rotate_left; (intro w'; go_simp; (with_reducible rfl)); rotate_left; (simp only [Act.put, zt, zu, zv, i64_w, i32_w]; rfl); refine pure_ (i := 23) (N := some 73) (v := ?_) (a' := ?_) #[T,T,T,T,T,T,T,T,T,T,T,T,T,T,T,T,T,T,T,T,T,T,T,T,F,F,F,F,F,F,F,F] rfl rfl (any_of HT_.out (by kernel_rfl)) (fun _ _ _ h => h) (Or.inl ⟨by rfl, ?_⟩) ?_ ?_; rotate_left; (intro w'; go_simp; (with_reducible rfl)); rotate_left; (simp only [Act.put, zt, zu, zv, i64_w, i32_w]; rfl); refine pure_ (i := 25) (N := some 75) (v := ?_) (a' := ?_) #[T,T,T,T,T,T,T,T,T,T,T,T,T,T,T,T,T,T,T,T,T,T,T,T,F,T,F,F,F,F,F,F] rfl rfl (any_of HT_.out (by kernel_rfl)) (fun _ _ _ h => h) (Or.inl ⟨by rfl, ?_⟩) ?_ ?_; rotate_left; (intro w'; go_simp; (with_reducible rfl)); rotate_left; (simp only [Act.put, zt, zu, zv, i64_w, i32_w]; rfl); refine pure_ (i := 26) (N := some 76) (v := ?_) (a' := ?_) #[T,T,T,T,T,T,T,T,T,T,T,T,T,T,T,T,T,T,T,T,T,T,T,T,F,T,T,F,F,F,F,F] rfl rfl (any_of HT_.out (by kernel_rfl)) (fun _ _ _ h => h) (Or.inl ⟨by rfl, ?_⟩) ?_ ?_; rotate_left; (intro w'; go_simp; (with_reducible rfl)); rotate_left; (simp only [Act.put, zt, zu, zv, i64_w, i32_w]; rfl); refine pure_ (i := 27) (N := some 77) (v := ?_) (a' := ?_) #[T,T,T,T,T,T,T,T,T,T,T,T,T,T,T,T,T,T,T,T,T,T,T,T,F,T,T,T,F,F,F,F] rfl rfl (any_of HT_.out (by kernel_rfl)) (fun _ _ _ h => h) (Or.inl ⟨by rfl, ?_⟩) ?_ ?_; rotate_left; (intro w'; go_simp; (with_reducible rfl)); rotate_left; (simp only [Act.put, zt, zu, zv, i64_w, i32_w]; rfl); refine pure_ (i := 28) (N := some 78) (v := ?_) (a' := ?_) #[T,T,T,T,T,T,T,T,T,T,T,T,T,T,T,T,T,T,T,T,T,T,T,T,F,T,T,T,T,F,F,F] rfl rfl (any_of HT_.out (by kernel_rfl)) (fun _ _ _ h => h) (Or.inl ⟨by rfl, ?_⟩) ?_ ?_; rotate_left; (intro w'; go_simp; (with_reducible rfl)); rotate_left; (simp only [Act.put, zt, zu, zv, i64_w, i32_w]; rfl); refine take_ (i := 24) (N := some 74) (v := ?_) (a' := ?_) #[T,T,T,T,T,T,T,T,T,T,T,T,T,T,T,T,T,T,T,T,T,T,T,T,T,T,T,T,T,F,F,F] rfl rfl (take_ofW HT_.out HW_.out (by kernel_rfl)) (fun _ _ _ h => h) (Or.inl ⟨by rfl, ?_⟩) hHeld ?_ ?_; rotate_left; (rintro w' ⟨s0, s1, s2, s3, s4, s5, s6, s7, s8, s9, s10, s11, s12, s13, s14, s15, s16, s17, s18, s19, s20, s21, s22, s23, s24, s25, s26, s27, s28, s29⟩; go_simp; (with_reducible rfl)); rotate_left; (simp only [Act.put, zt, zu, zv, i64_w, i32_w]; rfl); refine take_ (i := 29) (N := some 79) (v := ?_) (a' := ?_) #[T,T,T,T,T,T,T,T,T,T,T,T,T,T,T,T,T,T,T,T,T,T,T,T,T,T,T,T,T,T,F,F] rfl rfl (take_ofW HT_.out HW_.out (by kernel_rfl)) (fun _ _ _ h => h) (Or.inl ⟨by rfl, ?_⟩) hHeld ?_ ?_; rotate_left; (rintro w' ⟨s0, s1, s2, s3, s4, s5, s6, s7, s8, s9, s10, s11, s12, s13, s14, s15, s16, s17, s18, s19, s20, s21, s22, s23, s24, s25, s26, s27, s28, s29⟩; go_simp; (with_reducible rfl)); rotate_left; (simp only [Act.put, zt, zu, zv, i64_w, i32_w]; rfl); refine pure_ (i := 30) (N := some 80) (v := ?_) (a' := ?_) #[T,T,T,T,T,T,T,T,T,T,T,T,T,T,T,T,T,T,T,T,T,T,T,T,T,T,T,T,T,T,T,F] rfl rfl (any_of HT_.out (by kernel_rfl)) (fun _ _ _ h => h) (Or.inl ⟨by rfl, ?_⟩) ?_ ?_; rotate_left; (intro w'; go_simp; (with_reducible rfl)); rotate_left; (simp only [Act.put, zt, zu, zv, i64_w, i32_w]; rfl); refine pure_ (i := 31) (N := some 81) (v := ?_) (a' := ?_) #[T,T,T,T,T,T,T,T,T,T,T,T,T,T,T,T,T,T,T,T,T,T,T,T,T,T,T,T,T,T,T,T] rfl rfl (any_of HT_.out (by kernel_rfl)) (fun _ _ _ h => h) (Or.inl ⟨by rfl, ?_⟩) ?_ ?_; rotate_left; (intro w'; go_simp; (with_reducible rfl)); rotate_left; (simp only [Act.put, zt, zu, zv, i64_w, i32_w]; rfl); refine done_ (done_of HT_.out (by kernel_rfl)) ?_
                    try go_wp2
                    go_roundg k2
                    case measure => have := HK1.out; have := HK2.out; omega
                    case rel => exact ⟨(wrap64 (x47_2 + 1)), (by first | rfl | (simp; done) | (simp [*]; done)), H', ⟨by have := HK1.out; have := HK2.out; omega⟩, ⟨by with_reducible repeat first | exact HB.out | apply zA | apply zN | apply zD⟩⟩
                  ·
                   rw [if_neg c21] at H; have c21b0 := beq_eq_false_iff_ne.mpr c21; have c21b1 := bne_iff_ne.mpr c21; have H' := zk H; clear H
                   try go_wp2
                   have n0_ := zk (zD HB.out); clear HB; have HB := n0_; clear n0_; have p373 : 0 ≤ (x11_1 : Int) := zo (by assumption); have q373 : x11_1 < (l0.length : Int) := zo (by assumption); obtain ⟨ad373, A373_5, c373_5, e373, hx373_0, hx373_1, hx373_2, hx373_3, hx373_4, hx373_5, hl373_5, hi373_5⟩ := at_T53 HR0.out x11_1 p373 q373; have hw373_5 := hx373_5; have hw373_4 := hx373_4; have hw373_3 := hx373_3; have hw373_2 := hx373_2; have hw373_1 := hx373_1; have hw373_0 := hx373_0; obtain rfl : ad368 = ad373 := (by injection e373); replace hx373_0 := zB HB hx373_0; replace hx373_1 := zB HB hx373_1; replace hx373_2 := zB HB hx373_2; replace hx373_3 := zB HB hx373_3; replace hx373_4 := zB HB hx373_4; replace hx373_5 := zB HB hx373_5; have HR373_5 := zk hi373_5; have HC373_5 := zk hl373_5; clear hi373_5 hl373_5; replace p373 := eq_true p373; replace q373 := eq_true q373; have p374 : 0 ≤ (x47_2 : Int) := zo (by assumption); have q374 : x47_2 < (l0.length : Int) := zo (by assumption); obtain ⟨ad374, A374_5, c374_5, e374, hx374_0, hx374_1, hx374_2, hx374_3, hx374_4, hx374_5, hl374_5, hi374_5⟩ := at_T53 HR0.out x47_2 p374 q374; have hw374_5 := hx374_5; have hw374_4 := hx374_4; have hw374_3 := hx374_3; have hw374_2 := hx374_2; have hw374_1 := hx374_1; have hw374_0 := hx374_0; obtain rfl : ad368 = ad374 := (by injection e374); replace hx374_0 := zB HB hx374_0; replace hx374_1 := zB HB hx374_1; replace hx374_2 := zB HB hx374_2; replace hx374_3 := zB HB hx374_3; replace hx374_4 := zB HB hx374_4; replace hx374_5 := zB HB hx374_5; have HR374_5 := zk hi374_5; have HC374_5 := zk hl374_5; clear hi374_5 hl374_5; replace p374 := eq_true p374; replace q374 := eq_true q374; have p375 : 0 ≤ (x11_1 : Int) := zo (by assumption); have q375 : x11_1 < (l0.length : Int) := zo (by assumption); obtain ⟨ad375, A375_5, c375_5, e375, hx375_0, hx375_1, hx375_2, hx375_3, hx375_4, hx375_5, hl375_5, hi375_5⟩ := at_T53 HR0.out x11_1 p375 q375; have hw375_5 := hx375_5; have hw375_4 := hx375_4; have hw375_3 := hx375_3; have hw375_2 := hx375_2; have hw375_1 := hx375_1; have hw375_0 := hx375_0; obtain rfl : ad368 = ad375 := (by injection e375); replace hx375_0 := zB HB hx375_0; replace hx375_1 := zB HB hx375_1; replace hx375_2 := zB HB hx375_2; replace hx375_3 := zB HB hx375_3; replace hx375_4 := zB HB hx375_4; replace hx375_5 := zB HB hx375_5; have HR375_5 := zk hi375_5; have HC375_5 := zk hl375_5; clear hi375_5 hl375_5; replace p375 := eq_true p375; replace q375 := eq_true q375; have ea_ := Option.some.inj (hx373_5.symm.trans hx375_5); injection ea_ with ea_ en_ ec_; subst ea_; subst ec_; clear en_; refine start_ (n := 32) (S := fun w' => w'.cell? (ad368.add ((x11_1).toNat * 6)) = some (.int .i64 ((rd_T53 l0 x11_1).f0)) ∧ w'.cell? ⟨(ad368.add ((x11_1).toNat * 6)).block, (ad368.add ((x11_1).toNat * 6)).off + 1, none⟩ = some (.int .i64 ((rd_T53 l0 x11_1).f1)) ∧ w'.cell? ⟨(ad368.add ((x11_1).toNat * 6)).block, (ad368.add ((x11_1).toNat * 6)).off + 2, none⟩ = some (.string ((rd_T53 l0 x11_1).f2)) ∧ w'.cell? ⟨(ad368.add ((x11_1).toNat * 6)).block, (ad368.add ((x11_1).toNat * 6)).off + 3, none⟩ = some (.string ((rd_T53 l0 x11_1).f3)) ∧ w'.cell? ⟨(ad368.add ((x11_1).toNat * 6)).block, (ad368.add ((x11_1).toNat * 6)).off + 4, none⟩ = some (.string ((rd_T53 l0 x11_1).f4)) ∧ w'.cell? ⟨(ad368.add ((x11_1).toNat * 6)).block, (ad368.add ((x11_1).toNat * 6)).off + 5, none⟩ = some (.slice A373_5 ((rd_T53 l0 x11_1).f5).length c373_5) ∧ w'.cell? (ad368.add ((x47_2).toNat * 6)) = some (.int .i64 ((rd_T53 l0 x47_2).f0)) ∧ w'.cell? ⟨(ad368.add ((x47_2).toNat * 6)).block, (ad368.add ((x47_2).toNat * 6)).off + 1, none⟩ = some (.int .i64 ((rd_T53 l0 x47_2).f1)) ∧ w'.cell? ⟨(ad368.add ((x47_2).toNat * 6)).block, (ad368.add ((x47_2).toNat * 6)).off + 2, none⟩ = some (.string ((rd_T53 l0 x47_2).f2)) ∧ w'.cell? ⟨(ad368.add ((x47_2).toNat * 6)).block, (ad368.add ((x47_2).toNat * 6)).off + 3, none⟩ = some (.string ((rd_T53 l0 x47_2).f3)) ∧ w'.cell? ⟨(ad368.add ((x47_2).toNat * 6)).block, (ad368.add ((x47_2).toNat * 6)).off + 4, none⟩ = some (.string ((rd_T53 l0 x47_2).f4)) ∧ w'.cell? ⟨(ad368.add ((x47_2).toNat * 6)).block, (ad368.add ((x47_2).toNat * 6)).off + 5, none⟩ = some (.slice A374_5 ((rd_T53 l0 x47_2).f5).length c374_5) ∧ w'.cell? (ad368.add ((x11_1).toNat * 6)) = some (.int .i64 ((rd_T53 l0 x11_1).f0)) ∧ w'.cell? ⟨(ad368.add ((x11_1).toNat * 6)).block, (ad368.add ((x11_1).toNat * 6)).off + 1, none⟩ = some (.int .i64 ((rd_T53 l0 x11_1).f1)) ∧ w'.cell? ⟨(ad368.add ((x11_1).toNat * 6)).block, (ad368.add ((x11_1).toNat * 6)).off + 2, none⟩ = some (.string ((rd_T53 l0 x11_1).f2)) ∧ w'.cell? ⟨(ad368.add ((x11_1).toNat * 6)).block, (ad368.add ((x11_1).toNat * 6)).off + 3, none⟩ = some (.string ((rd_T53 l0 x11_1).f3)) ∧ w'.cell? ⟨(ad368.add ((x11_1).toNat * 6)).block, (ad368.add ((x11_1).toNat * 6)).off + 4, none⟩ = some (.string ((rd_T53 l0 x11_1).f4)) ∧ w'.cell? ⟨(ad368.add ((x11_1).toNat * 6)).block, (ad368.add ((x11_1).toNat * 6)).off + 5, none⟩ = some (.slice A373_5 ((rd_T53 l0 x11_1).f5).length c373_5)) (ds := []) #[F,F,F,F,F,F,F,F,F,F,F,F,F,F,F,F,F,F,F,F,F,F,F,F,F,F,F,F,F,F,F,F] (by kernel_rfl) rfl rfl ⟨(zB HB hw373_0), (zB HB hw373_1), (zB HB hw373_2), (zB HB hw373_3), (zB HB hw373_4), (zB HB hw373_5), (zB HB hw374_0), (zB HB hw374_1), (zB HB hw374_2), (zB HB hw374_3), (zB HB hw374_4), (zB HB hw374_5), (zB HB hw375_0), (zB HB hw375_1), (zB HB hw375_2), (zB HB hw375_3), (zB HB hw375_4), (zB HB hw375_5)⟩ (fun hHeld => ?_); refine with_tabW r13_Check.tab16 r13_Check.bits16 (fun HT_ HW_ => ?_); generalize wr.drew = w25 at HB HR373_5 HR374_5 HR375_5 hx373_0 hx373_1 hx373_2 hx373_3 hx373_4 hx373_5 hx374_0 hx374_1 hx374_2 hx374_3 hx374_4 hx374_5 hx375_0 hx375_1 hx375_2 hx375_3 hx375_4 hx375_5 hHeld ⊢; refine pure_ (i := 0) (N := some 50) (v := ?_) (a' := ?_) #[T,F,F,F,F,F,F,F,F,F,F,F,F,F,F,F,F,F,F,F,F,F,F,F,F,F,F,F,F,F,F,F] rfl rfl (any_of HT_.out (by kernel_rfl)) (fun _ _ _ h => h) (Or.inl ⟨by rfl, ?_⟩) ?_ ?_; rotate_left; (intro w'; go_simp; (with_reducible rfl)); rotate_left; (simp only [Act.put, zt, zu, zv, i64_w, i32_w]; rfl); refine pure_ (i := 1) (N := some 51) (v := ?_) (a' := ?_) #[T,T,F,F,F,F,F,F,F,F,F,F,F,F,F,F,F,F,F,F,F,F,F,F,F,F,F,F,F,F,F,F] rfl rfl (any_of HT_.out (by kernel_rfl)) (fun _ _ _ h => h) (Or.inl ⟨by rfl, ?_⟩) ?_ ?_; rotate_left; (intro w'; go_simp; (with_reducible rfl)); rotate_left; (simp only [Act.put, zt, zu, zv, i64_w, i32_w]; rfl); refine pure_ (i := 2) (N := some 52) (v := ?_) (a' := ?_) #[T,T,T,F,F,F,F,F,F,F,F,F,F,F,F,F,F,F,F,F,F,F,F,F,F,F,F,F,F,F,F,F] rfl rfl (any_of HT_.out (by kernel_rfl)) (fun _ _ _ h => h) (Or.inl ⟨by rfl, ?_⟩) ?_ ?_; rotate_left; (intro w'; go_simp; (with_reducible rfl)); rotate_left; (simp only [Act.put, zt, zu, zv, i64_w, i32_w]; rfl); refine pure_ (i := 3) (N := some 53) (v := ?_) (a' := ?_) #[T,T,T,T,F,F,F,F,F,F,F,F,F,F,F,F,F,F,F,F,F,F,F,F,F,F,F,F,F,F,F,F] rfl rfl (any_of HT_.out (by kernel_rfl)) (fun _ _ _ h => h) (Or.inl ⟨by rfl, ?_⟩) ?_ ?_; rotate_left; (intro w'; go_simp; (with_reducible rfl)); rotate_left; (simp only [Act.put, zt, zu, zv, i64_w, i32_w]; rfl); refine take_ (i := 4) (N := some 54) (v := ?_) (a' := ?_) #[T,T,T,T,T,F,F,F,F,F,F,F,F,F,F,F,F,F,F,F,F,F,F,F,F,F,F,F,F,F,F,F] rfl rfl (take_ofW HT_.out HW_.out (by kernel_rfl)) (fun _ _ _ h => h) (Or.inl ⟨by rfl, ?_⟩) hHeld ?_ ?_; rotate_left; (rintro w' ⟨s0, s1, s2, s3, s4, s5, s6, s7, s8, s9, s10, s11, s12, s13, s14, s15, s16, s17⟩; go_simp; (with_reducible rfl)); rotate_left; (simp only [Act.put, zt, zu, zv, i64_w, i32_w]; rfl); refine pure_ (i := 5) (N := some 55) (v := ?_) (a' := ?_) #[T,T,T,T,T,T,F,F,F,F,F,F,F,F,F,F,F,F,F,F,F,F,F,F,F,F,F,F,F,F,F,F] rfl rfl (any_of HT_.out (by kernel_rfl)) (fun _ _ _ h => h) (Or.inl ⟨by rfl, ?_⟩) ?_ ?_; rotate_left; (intro w'; go_simp; (with_reducible rfl)); rotate_left; (simp only [Act.put, zt, zu, zv, i64_w, i32_w]; rfl); refine pure_ (i := 6) (N := some 56) (v := ?_) (a' := ?_) #[T,T,T,T,T,T,T,F,F,F,F,F,F,F,F,F,F,F,F,F,F,F,F,F,F,F,F,F,F,F,F,F] rfl rfl (any_of HT_.out (by kernel_rfl)) (fun _ _ _ h => h) (Or.inl ⟨by rfl, ?_⟩) ?_ ?_; rotate_left; (intro w'; go_simp; (with_reducible rfl)); rotate_left; (simp only [Act.put, zt, zu, zv, i64_w, i32_w]; rfl); refine pure_ (i := 7) (N := some 57) (v := ?_) (a' := ?_) #[T,T,T,T,T,T,T,T,F,F,F,F,F,F,F,F,F,F,F,F,F,F,F,F,F,F,F,F,F,F,F,F] rfl rfl (any_of HT_.out (by kernel_rfl)) (fun _ _ _ h => h) (Or.inl ⟨by rfl, ?_⟩) ?_ ?_; rotate_left; (intro w'; go_simp; (with_reducible rfl)); rotate_left; (simp only [Act.put, zt, zu, zv, i64_w, i32_w]; rfl); refine pure_ (i := 8) (N := some 58) (v := ?_) (a' := ?_) #[T,T,T,T,T,T,T,T,T,F,F,F,F,F,F,F,F,F,F,F,F,F,F,F,F,F,F,F,F,F,F,F] rfl rfl (any_of HT_.out (by kernel_rfl)) (fun _ _ _ h => h) (Or.inl ⟨by rfl, ?_⟩) ?_ ?_; rotate_left; (intro w'; go_simp; (with_reducible rfl)); rotate_left; (simp only [Act.put, zt, zu, zv, i64_w, i32_w]; rfl); refine pure_ (i := 9) (N := some 59) (v := ?_) (a' := ?_) #[T,T,T,T,T,T,T,T,T,T,F,F,F,F,F,F,F,F,F,F,F,F,F,F,F,F,F,F,F,F,F,F] rfl rfl (any_of HT_.out (by kernel_rfl)) (fun _ _ _ h => h) (Or.inl ⟨by rfl, ?_⟩) ?_ ?_; rotate_left; (intro w'; go_simp; (with_reducible rfl)); rotate_left; (simp only [Act.put, zt, zu, zv, i64_w, i32_w]; rfl); refine pure_ (i := 10) (N := some 60) (v := ?_) (a' := ?_) #[T,T,T,T,T,T,T,T,T,T,T,F,F,F,F,F,F,F,F,F,F,F,F,F,F,F,F,F,F,F,F,F] rfl rfl (any_of HT_.out (by kernel_rfl)) (fun _ _ _ h => h) (Or.inl ⟨by rfl, ?_⟩) ?_ ?_; rotate_left; (intro w'; go_simp; (with_reducible rfl)); rotate_left; (simp only [Act.put, zt, zu, zv, i64_w, i32_w]; rfl); refine pure_ (i := 12) (N := some 62) (v := ?_) (a' := ?_) #[T,T,T,T,T,T,T,T,T,T,T,F,T,F,F,F,F,F,F,F,F,F,F,F,F,F,F,F,F,F,F,F] rfl rfl (any_of HT_.out (by kernel_rfl)) (fun _ _ _ h => h) (Or.inl ⟨by rfl, ?_⟩) ?_ ?_; rotate_left; (intro w'; go_simp; (with_reducible rfl)); rotate_left; (simp only [Act.put, zt, zu, zv, i64_w, i32_w]; rfl); refine pure_ (i := 13) (N := some 63) (v := ?_) (a' := ?_) #[T,T,T,T,T,T,T,T,T,T,T,F,T,T,F,F,F,F,F,F,F,F,F,F,F,F,F,F,F,F,F,F] rfl rfl (any_of HT_.out (by kernel_rfl)) (fun _ _ _ h => h) (Or.inl ⟨by rfl, ?_⟩) ?_ ?_; rotate_left; (intro w'; go_simp; (with_reducible rfl)); rotate_left; (simp only [Act.put, zt, zu, zv, i64_w, i32_w]; rfl); refine pure_ (i := 14) (N := some 64) (v := ?_) (a' := ?_) #[T,T,T,T,T,T,T,T,T,T,T,F,T,T,T,F,F,F,F,F,F,F,F,F,F,F,F,F,F,F,F,F] rfl rfl (any_of HT_.out (by kernel_rfl)) (fun _ _ _ h => h) (Or.inl ⟨by rfl, ?_⟩) ?_ ?_; rotate_left; (intro w'; go_simp; (with_reducible rfl)); rotate_left; (simp only [Act.put, zt, zu, zv, i64_w, i32_w]; rfl); refine pure_ (i := 15) (N := some 65) (v := ?_) (a' := ?_) #[T,T,T,T,T,T,T,T,T,T,T,F,T,T,T,T,F,F,F,F,F,F,F,F,F,F,F,F,F,F,F,F] rfl rfl (any_of HT_.out (by kernel_rfl)) (fun _ _ _ h => h) (Or.inl ⟨by rfl, ?_⟩) ?_ ?_; rotate_left; (intro w'; go_simp; (with_reducible rfl)); rotate_left; (simp only [Act.put, zt, zu, zv, i64_w, i32_w]; rfl); refine take_ (i := 11) (N := some 61) (v := ?_) (a' := ?_) #[T,T,T,T,T,T,T,T,T,T,T,T,T,T,T,T,F,F,F,F,F,F,F,F,F,F,F,F,F,F,F,F] rfl rfl (take_ofW HT_.out HW_.out (by kernel_rfl)) (fun _ _ _ h => h) (Or.inl ⟨by rfl, ?_⟩) hHeld ?_ ?_; rotate_left; (rintro w' ⟨s0, s1, s2, s3, s4, s5, s6, s7, s8, s9, s10, s11, s12, s13, s14, s15, s16, s17⟩; go_simp; (with_reducible rfl)); rotate_left; (simp only [Act.put, zt, zu, zv, i64_w, i32_w]; rfl); refine take_ (i := 16) (N := some 66) (v := ?_) (a' := ?_) #[T,T,T,T,T,T,T,T,T,T,T,T,T,T,T,T,T,F,F,F,F,F,F,F,F,F,F,F,F,F,F,F] rfl rfl (take_ofW HT_.out HW_.out (by kernel_rfl)) (fun _ _ _ h => h) (Or.inl ⟨by rfl, ?_⟩) hHeld ?_ ?_; rotate_left; (rintro w' ⟨s0, s1, s2, s3, s4, s5, s6, s7, s8, s9, s10, s11, s12, s13, s14, s15, s16, s17⟩; go_simp; (with_reducible rfl)); rotate_left; (simp only [Act.put, zt, zu, zv, i64_w, i32_w]; rfl); refine pure_ (i := 17) (N := some 67) (v := ?_) (a' := ?_) #[T,T,T,T,T,T,T,T,T,T,T,T,T,T,T,T,T,T,F,F,F,F,F,F,F,F,F,F,F,F,F,F] rfl rfl (any_of HT_.out (by kernel_rfl)) (fun _ _ _ h => h) (Or.inl ⟨by rfl, ?_⟩) ?_ ?_; rotate_left; (intro w'; go_simp; (with_reducible rfl)); rotate_left; (simp only [Act.put, zt, zu, zv, i64_w, i32_w]; rfl); refine pure_ (i := 18) (N := some 68) (v := ?_) (a' := ?_) #[T,T,T,T,T,T,T,T,T,T,T,T,T,T,T,T,T,T,T,F,F,F,F,F,F,F,F,F,F,F,F,F] rfl rfl (any_of HT_.out (by kernel_rfl)) (fun _ _ _ h => h) (Or.inl ⟨by rfl, ?_⟩) ?_ ?_; rotate_left; (intro w'; go_simp; (with_reducible rfl)); rotate_left; (simp only [Act.put, zt, zu, zv, i64_w, i32_w]; rfl); refine pure_ (i := 19) (N := some 69) (v := ?_) (a' := ?_) #[T,T,T,T,T,T,T,T,T,T,T,T,T,T,T,T,T,T,T,T,F,F,F,F,F,F,F,F,F,F,F,F] rfl rfl (any_of HT_.out (by kernel_rfl)) (fun _ _ _ h => h) (Or.inl ⟨by rfl, ?_⟩) ?_ ?_; rotate_left; (intro w'; go_simp; (with_reducible rfl)); rotate_left; (simp only [Act.put, zt, zu, zv, i64_w, i32_w]; rfl); refine pure_ (i := 20) (N := some 70) (v := undef) (a' := ?_) #[T,T,T,T,T,T,T,T,T,T,T,T,T,T,T,T,T,T,T,T,T,F,F,F,F,F,F,F,F,F,F,F] rfl rfl (any_of HT_.out (by kernel_rfl)) (fun _ _ _ h => h) (Or.inr ⟨by rfl, rfl⟩) ?_ ?_; rotate_left; (simp only [Act.put, zt, zu, zv, i64_w, i32_w]; rfl); refine pure_ (i := 21) (N := some 71) (v := undef) (a' := ?_) #[T,T,T,T,T,T,T,T,T,T,T,T,T,T,T,T,T,T,T,T,T,T,F,F,F,F,F,F,F,F,F,F] rfl rfl (any_of HT_.out (by kernel_rfl)) (fun _ _ _ h => h) (Or.inr ⟨by rfl, rfl⟩) ?_ ?_; rotate_left; (simp only [Act.put, zt, zu, zv, i64_w, i32_w]; rfl); refine pure_ (i := 22) (N := some 72) (v := undef) (a' := ?_) #[T,T,T,T,T,T,T,T,T,T,T,T,T,T,T,T,T,T,T,T,T,T,T,F,F,F,F,F,F,F,F,F] rfl rfl (any_of HT_.out (by kernel_rfl)) (fun _ _ _ h => h) (Or.inr ⟨by rfl, rfl⟩) ?_ ?_; rotate_left; (simp only [Act.put, zt, zu, zv, i64_w, i32_w]; rfl); refine pure_ (i := 23) (N := some 73) (v := undef) (a' := ?_) #[T,T,T,T,T,T,T,T,T,T,T,T,T,T,T,T,T,T,T,T,T,T,T,T,F,F,F,F,F,F,F,F] rfl rfl (any_of HT_.out (by kernel_rfl)) (fun _ _ _ h => h) (Or.inr ⟨by rfl, rfl⟩) ?_ ?_; rotate_left; (simp only [Act.put, zt, zu, zv, i64_w, i32_w]; rfl); refine pure_ (i := 24) (N := some 74) (v := undef) (a' := ?_) #[T,T,T,T,T,T,T,T,T,T,T,T,T,T,T,T,T,T,T,T,T,T,T,T,T,F,F,F,F,F,F,F] rfl rfl (any_of HT_.out (by kernel_rfl)) (fun _ _ _ h => h) (Or.inr ⟨by rfl, rfl⟩) ?_ ?_; rotate_left; (simp only [Act.put, zt, zu, zv, i64_w, i32_w]; rfl); refine pure_ (i := 25) (N := some 75) (v := undef) (a' := ?_) #[T,T,T,T,T,T,T,T,T,T,T,T,T,T,T,T,T,T,T,T,T,T,T,T,T,T,F,F,F,F,F,F] rfl rfl (any_of HT_.out (by kernel_rfl)) (fun _ _ _ h => h) (Or.inr ⟨by rfl, rfl⟩) ?_ ?_; rotate_left; (simp only [Act.put, zt, zu, zv, i64_w, i32_w]; rfl); refine pure_ (i := 26) (N := some 76) (v := undef) (a' := ?_) #[T,T,T,T,T,T,T,T,T,T,T,T,T,T,T,T,T,T,T,T,T,T,T,T,T,T,T,F,F,F,F,F] rfl rfl (any_of HT_.out (by kernel_rfl)) (fun _ _ _ h => h) (Or.inr ⟨by rfl, rfl⟩) ?_ ?_; rotate_left; (simp only [Act.put, zt, zu, zv, i64_w, i32_w]; rfl); refine pure_ (i := 27) (N := some 77) (v := undef) (a' := ?_) #[T,T,T,T,T,T,T,T,T,T,T,T,T,T,T,T,T,T,T,T,T,T,T,T,T,T,T,T,F,F,F,F] rfl rfl (any_of HT_.out (by kernel_rfl)) (fun _ _ _ h => h) (Or.inr ⟨by rfl, rfl⟩) ?_ ?_; rotate_left; (simp only [Act.put, zt, zu, zv, i64_w, i32_w]; rfl); refine pure_ (i := 28) (N := some 78) (v := undef) (a' := ?_) #[T,T,T,T,T,T,T,T,T,T,T,T,T,T,T,T,T,T,T,T,T,T,T,T,T,T,T,T,T,F,F,F] rfl rfl (any_of HT_.out (by kernel_rfl)) (fun _ _ _ h => h) (Or.inr ⟨by rfl, rfl⟩) ?_ ?_; rotate_left; (simp only [Act.put, zt, zu, zv, i64_w, i32_w]; rfl); refine pure_ (i := 29) (N := some 79) (v := undef) (a' := ?_) #[T,T,T,T,T,T,T,T,T,T,T,T,T,T,T,T,T,T,T,T,T,T,T,T,T,T,T,T,T,T,F,F] rfl rfl (any_of HT_.out (by kernel_rfl)) (fun _ _ _ h => h) (Or.inr ⟨by rfl, rfl⟩) ?_ ?_; rotate_left; (simp only [Act.put, zt, zu, zv, i64_w, i32_w]; rfl); refine pure_ (i := 30) (N := some 80) (v := undef) (a' := ?_) #[T,T,T,T,T,T,T,T,T,T,T,T,T,T,T,T,T,T,T,T,T,T,T,T,T,T,T,T,T,T,T,F] rfl rfl (any_of HT_.out (by kernel_rfl)) (fun _ _ _ h => h) (Or.inr ⟨by rfl, rfl⟩) ?_ ?_; rotate_left; (simp only [Act.put, zt, zu, zv, i64_w, i32_w]; rfl); refine pure_ (i := 31) (N := some 81) (v := ?_) (a' := ?_) #[T,T,T,T,T,T,T,T,T,T,T,T,T,T,T,T,T,T,T,T,T,T,T,T,T,T,T,T,T,T,T,T] rfl rfl (any_of HT_.out (by kernel_rfl)) (fun _ _ _ h => h) (Or.inl ⟨by rfl, ?_⟩) ?_ ?_; rotate_left; (intro w'; go_simp; (with_reducible rfl)); rotate_left; (simp only [Act.put, zt, zu, zv, i64_w, i32_w]; rfl); refine done_ (done_of HT_.out (by kernel_rfl)) ?_
                   try go_wp2
                   go_roundg k2
                   case measure => have := HK1.out; have := HK2.out; omega
                   case rel => exact ⟨(wrap64 (x47_2 + 1)), (by first | rfl | (simp; done) | (simp [*]; done)), H', ⟨by have := HK1.out; have := HK2.out; omega⟩, ⟨by with_reducible repeat first | exact HB.out | apply zA | apply zN | apply zD⟩⟩
                 ·
                  rw [if_neg c20] at H; exact absurd H (by simp)
                ·
                 rw [if_neg c19] at H; exact absurd H (by simp)
              ·
               rw [if_neg c16] at H; exact absurd H (by simp)
             ·
              rw [if_neg c15] at H; exact absurd H (by simp)
            ·
             rw [if_neg c14] at H; have c14b0 := decide_eq_false c14; clear c14; have H' := zk H; clear H; go_wp2
             go_roundg k2
             case measure => have := HK1.out; have := HK2.out; omega
             case rel => exact ⟨(wrap64 (x11_1 + 1)), (by first | rfl | (simp; done) | (simp [*]; done)), H', ⟨by have := HK1.out; have := HK2.out; omega⟩, ⟨by with_reducible repeat first | exact HB.out | apply zA | apply zN | apply zD⟩⟩
         ·
          rw [if_neg c11] at H; have c11b0 := beq_eq_false_iff_ne.mpr c11; have c11b1 := bne_iff_ne.mpr c11; obtain rfl := Option.some.inj H
          try go_wp2_with (first | ((with_reducible refine gk (f := 40) rfl ?_); refine gl (some 19) rfl rfl Try.func40 (by kernel_rfl) rfl #[.slice A0 l0.length c0, .int .i64 (wrap64 (x11_1 + 1))] rfl (by (try simp only [List.map_toArray, List.map_cons, List.map_nil]); first | done | rfl | (simp only [List.length_drop, List.length_take]; rfl)) ?_; (with_reducible refine (r13_Depth.calls k1 _ _ l0 (wrap64 (x11_1 + 1)) t367 _ ?side1 ?side2 A6.out).mono ?_); (case side1 => repeat (first | exact (Kd.C_below HR0.out HB.out) | (with_reducible refine Kd.C_alloc ?_ _) | (with_reducible refine Kd.C_drewN ?_ _) | (with_reducible refine Kd.C_drew ?_))); (case side2 => exact HC0.out); rintro e w' ⟨rfl, ⟨nd, rfl⟩⟩; refine ⟨_, rfl, ?_⟩))
          (try (rw [drewN_self wr]; generalize hq_ : World.drewN wr _ = wr; have n0_ : Aside0 (Below w.heap.size w wr) := ⟨by rw [← hq_]; exact (by with_reducible repeat first | exact HB.out | apply zA | apply zN | apply zD)⟩; clear HB hq_; have HB := n0_; clear n0_))
          have n0_ := zk (zD HB.out); clear HB; have HB := n0_; clear n0_; have p368 : 0 ≤ (x11_1 : Int) := zo (by assumption); have q368 : x11_1 < (l0.length : Int) := zo (by assumption); obtain ⟨ad368, A368_5, c368_5, e368, hx368_0, hx368_1, hx368_2, hx368_3, hx368_4, hx368_5, hl368_5, hi368_5⟩ := at_T53 HR0.out x11_1 p368 q368; have hw368_5 := hx368_5; have hw368_4 := hx368_4; have hw368_3 := hx368_3; have hw368_2 := hx368_2; have hw368_1 := hx368_1; have hw368_0 := hx368_0; cases e368; replace hx368_0 := zB HB hx368_0; replace hx368_1 := zB HB hx368_1; replace hx368_2 := zB HB hx368_2; replace hx368_3 := zB HB hx368_3; replace hx368_4 := zB HB hx368_4; replace hx368_5 := zB HB hx368_5; have HR368_5 := zk hi368_5; have HC368_5 := zk hl368_5; clear hi368_5 hl368_5; replace p368 := eq_true p368; replace q368 := eq_true q368; have p369 : 0 ≤ (x11_1 : Int) := zo (by assumption); have q369 : x11_1 < (l0.length : Int) := zo (by assumption); obtain ⟨ad369, A369_5, c369_5, e369, hx369_0, hx369_1, hx369_2, hx369_3, hx369_4, hx369_5, hl369_5, hi369_5⟩ := at_T53 HR0.out x11_1 p369 q369; have hw369_5 := hx369_5; have hw369_4 := hx369_4; have hw369_3 := hx369_3; have hw369_2 := hx369_2; have hw369_1 := hx369_1; have hw369_0 := hx369_0; obtain rfl : ad368 = ad369 := (by injection e369); replace hx369_0 := zB HB hx369_0; replace hx369_1 := zB HB hx369_1; replace hx369_2 := zB HB hx369_2; replace hx369_3 := zB HB hx369_3; replace hx369_4 := zB HB hx369_4; replace hx369_5 := zB HB hx369_5; have HR369_5 := zk hi369_5; have HC369_5 := zk hl369_5; clear hi369_5 hl369_5; replace p369 := eq_true p369; replace q369 := eq_true q369; have ea_ := Option.some.inj (hx368_5.symm.trans hx369_5); injection ea_ with ea_ en_ ec_; subst ea_; subst ec_; clear en_; have p370 : 0 ≤ (x11_1 : Int) := zo (by assumption); have q370 : x11_1 < (l0.length : Int) := zo (by assumption); obtain ⟨ad370, A370_5, c370_5, e370, hx370_0, hx370_1, hx370_2, hx370_3, hx370_4, hx370_5, hl370_5, hi370_5⟩ := at_T53 HR0.out x11_1 p370 q370; have hw370_5 := hx370_5; have hw370_4 := hx370_4; have hw370_3 := hx370_3; have hw370_2 := hx370_2; have hw370_1 := hx370_1; have hw370_0 := hx370_0; obtain rfl : ad368 = ad370 := (by injection e370); replace hx370_0 := zB HB hx370_0; replace hx370_1 := zB HB hx370_1; replace hx370_2 := zB HB hx370_2; replace hx370_3 := zB HB hx370_3; replace hx370_4 := zB HB hx370_4; replace hx370_5 := zB HB hx370_5; have HR370_5 := zk hi370_5; have HC370_5 := zk hl370_5; clear hi370_5 hl370_5; replace p370 := eq_true p370; replace q370 := eq_true q370; have ea_ := Option.some.inj (hx368_5.symm.trans hx370_5); injection ea_ with ea_ en_ ec_; subst ea_; subst ec_; clear en_; have p371 : 0 ≤ (x11_1 : Int) := zo (by assumption); have q371 : x11_1 < (l0.length : Int) := zo (by assumption); obtain ⟨ad371, A371_5, c371_5, e371, hx371_0, hx371_1, hx371_2, hx371_3, hx371_4, hx371_5, hl371_5, hi371_5⟩ := at_T53 HR0.out x11_1 p371 q371; have hw371_5 := hx371_5; have hw371_4 := hx371_4; have hw371_3 := hx371_3; have hw371_2 := hx371_2; have hw371_1 := hx371_1; have hw371_0 := hx371_0; obtain rfl : ad368 = ad371 := (by injection e371); replace hx371_0 := zB HB hx371_0; replace hx371_1 := zB HB hx371_1; replace hx371_2 := zB HB hx371_2; replace hx371_3 := zB HB hx371_3; replace hx371_4 := zB HB hx371_4; replace hx371_5 := zB HB hx371_5; have HR371_5 := zk hi371_5; have HC371_5 := zk hl371_5; clear hi371_5 hl371_5; replace p371 := eq_true p371; replace q371 := eq_true q371; have ea_ := Option.some.inj (hx368_5.symm.trans hx371_5); injection ea_ with ea_ en_ ec_; subst ea_; subst ec_; clear en_; refine start_ (n := 23) (S := fun w' => w'.cell? (ad368.add ((x11_1).toNat * 6)) = some (.int .i64 ((rd_T53 l0 x11_1).f0)) ∧ w'.cell? ⟨(ad368.add ((x11_1).toNat * 6)).block, (ad368.add ((x11_1).toNat * 6)).off + 1, none⟩ = some (.int .i64 ((rd_T53 l0 x11_1).f1)) ∧ w'.cell? ⟨(ad368.add ((x11_1).toNat * 6)).block, (ad368.add ((x11_1).toNat * 6)).off + 2, none⟩ = some (.string ((rd_T53 l0 x11_1).f2)) ∧ w'.cell? ⟨(ad368.add ((x11_1).toNat * 6)).block, (ad368.add ((x11_1).toNat * 6)).off + 3, none⟩ = some (.string ((rd_T53 l0 x11_1).f3)) ∧ w'.cell? ⟨(ad368.add ((x11_1).toNat * 6)).block, (ad368.add ((x11_1).toNat * 6)).off + 4, none⟩ = some (.string ((rd_T53 l0 x11_1).f4)) ∧ w'.cell? ⟨(ad368.add ((x11_1).toNat * 6)).block, (ad368.add ((x11_1).toNat * 6)).off + 5, none⟩ = some (.slice A368_5 ((rd_T53 l0 x11_1).f5).length c368_5) ∧ w'.cell? (ad368.add ((x11_1).toNat * 6)) = some (.int .i64 ((rd_T53 l0 x11_1).f0)) ∧ w'.cell? ⟨(ad368.add ((x11_1).toNat * 6)).block, (ad368.add ((x11_1).toNat * 6)).off + 1, none⟩ = some (.int .i64 ((rd_T53 l0 x11_1).f1)) ∧ w'.cell? ⟨(ad368.add ((x11_1).toNat * 6)).block, (ad368.add ((x11_1).toNat * 6)).off + 2, none⟩ = some (.string ((rd_T53 l0 x11_1).f2)) ∧ w'.cell? ⟨(ad368.add ((x11_1).toNat * 6)).block, (ad368.add ((x11_1).toNat * 6)).off + 3, none⟩ = some (.string ((rd_T53 l0 x11_1).f3)) ∧ w'.cell? ⟨(ad368.add ((x11_1).toNat * 6)).block, (ad368.add ((x11_1).toNat * 6)).off + 4, none⟩ = some (.string ((rd_T53 l0 x11_1).f4)) ∧ w'.cell? ⟨(ad368.add ((x11_1).toNat * 6)).block, (ad368.add ((x11_1).toNat * 6)).off + 5, none⟩ = some (.slice A368_5 ((rd_T53 l0 x11_1).f5).length c368_5) ∧ w'.cell? (ad368.add ((x11_1).toNat * 6)) = some (.int .i64 ((rd_T53 l0 x11_1).f0)) ∧ w'.cell? ⟨(ad368.add ((x11_1).toNat * 6)).block, (ad368.add ((x11_1).toNat * 6)).off + 1, none⟩ = some (.int .i64 ((rd_T53 l0 x11_1).f1)) ∧ w'.cell? ⟨(ad368.add ((x11_1).toNat * 6)).block, (ad368.add ((x11_1).toNat * 6)).off + 2, none⟩ = some (.string ((rd_T53 l0 x11_1).f2)) ∧ w'.cell? ⟨(ad368.add ((x11_1).toNat * 6)).block, (ad368.add ((x11_1).toNat * 6)).off + 3, none⟩ = some (.string ((rd_T53 l0 x11_1).f3)) ∧ w'.cell? ⟨(ad368.add ((x11_1).toNat * 6)).block, (ad368.add ((x11_1).toNat * 6)).off + 4, none⟩ = some (.string ((rd_T53 l0 x11_1).f4)) ∧ w'.cell? ⟨(ad368.add ((x11_1).toNat * 6)).block, (ad368.add ((x11_1).toNat * 6)).off + 5, none⟩ = some (.slice A368_5 ((rd_T53 l0 x11_1).f5).length c368_5) ∧ w'.cell? (ad368.add ((x11_1).toNat * 6)) = some (.int .i64 ((rd_T53 l0 x11_1).f0)) ∧ w'.cell? ⟨(ad368.add ((x11_1).toNat * 6)).block, (ad368.add ((x11_1).toNat * 6)).off + 1, none⟩ = some (.int .i64 ((rd_T53 l0 x11_1).f1)) ∧ w'.cell? ⟨(ad368.add ((x11_1).toNat * 6)).block, (ad368.add ((x11_1).toNat * 6)).off + 2, none⟩ = some (.string ((rd_T53 l0 x11_1).f2)) ∧ w'.cell? ⟨(ad368.add ((x11_1).toNat * 6)).block, (ad368.add ((x11_1).toNat * 6)).off + 3, none⟩ = some (.string ((rd_T53 l0 x11_1).f3)) ∧ w'.cell? ⟨(ad368.add ((x11_1).toNat * 6)).block, (ad368.add ((x11_1).toNat * 6)).off + 4, none⟩ = some (.string ((rd_T53 l0 x11_1).f4)) ∧ w'.cell? ⟨(ad368.add ((x11_1).toNat * 6)).block, (ad368.add ((x11_1).toNat * 6)).off + 5, none⟩ = some (.slice A368_5 ((rd_T53 l0 x11_1).f5).length c368_5)) (ds := []) #[F,F,F,F,F,F,F,F,F,F,F,F,F,F,F,F,F,F,F,F,F,F,F] (by kernel_rfl) rfl rfl ⟨(zB HB hw368_0), (zB HB hw368_1), (zB HB hw368_2), (zB HB hw368_3), (zB HB hw368_4), (zB HB hw368_5), (zB HB hw369_0), (zB HB hw369_1), (zB HB hw369_2), (zB HB hw369_3), (zB HB hw369_4), (zB HB hw369_5), (zB HB hw370_0), (zB HB hw370_1), (zB HB hw370_2), (zB HB hw370_3), (zB HB hw370_4), (zB HB hw370_5), (zB HB hw371_0), (zB HB hw371_1), (zB HB hw371_2), (zB HB hw371_3), (zB HB hw371_4), (zB HB hw371_5)⟩ (fun hHeld => ?_); refine with_tabW r13_Check.tab10 r13_Check.bits10 (fun HT_ HW_ => ?_); generalize wr.drew = w26 at HB HR368_5 HR369_5 HR370_5 HR371_5 hx368_0 hx368_1 hx368_2 hx368_3 hx368_4 hx368_5 hx369_0 hx369_1 hx369_2 hx369_3 hx369_4 hx369_5 hx370_0 hx370_1 hx370_2 hx370_3 hx370_4 hx370_5 hx371_0 hx371_1 hx371_2 hx371_3 hx371_4 hx371_5 hHeld ⊢; refine pure_ (i := 0) (N := some 21) (v := ?_) (a' := ?_) #[T,F,F,F,F,F,F,F,F,F,F,F,F,F,F,F,F,F,F,F,F,F,F] rfl rfl (any_of HT_.out (by kernel_rfl)) (fun _ _ _ h => h) (Or.inl ⟨by rfl, ?_⟩) ?_ ?_; rotate_left; (intro w'; go_simp; (with_reducible rfl)); rotate_left; (simp only [Act.put, zt, zu, zv, i64_w, i32_w]; rfl); refine pure_ (i := 1) (N := some 22) (v := ?_) (a' := ?_) #[T,T,F,F,F,F,F,F,F,F,F,F,F,F,F,F,F,F,F,F,F,F,F] rfl rfl (any_of HT_.out (by kernel_rfl)) (fun _ _ _ h => h) (Or.inl ⟨by rfl, ?_⟩) ?_ ?_; rotate_left; (intro w'; go_simp; (with_reducible rfl)); rotate_left; (simp only [Act.put, zt, zu, zv, i64_w, i32_w]; rfl); refine pure_ (i := 2) (N := some 23) (v := ?_) (a' := ?_) #[T,T,T,F,F,F,F,F,F,F,F,F,F,F,F,F,F,F,F,F,F,F,F] rfl rfl (any_of HT_.out (by kernel_rfl)) (fun _ _ _ h => h) (Or.inl ⟨by rfl, ?_⟩) ?_ ?_; rotate_left; (intro w'; go_simp; (with_reducible rfl)); rotate_left; (simp only [Act.put, zt, zu, zv, i64_w, i32_w]; rfl); refine pure_ (i := 3) (N := some 24) (v := ?_) (a' := ?_) #[T,T,T,T,F,F,F,F,F,F,F,F,F,F,F,F,F,F,F,F,F,F,F] rfl rfl (any_of HT_.out (by kernel_rfl)) (fun _ _ _ h => h) (Or.inl ⟨by rfl, ?_⟩) ?_ ?_; rotate_left; (intro w'; go_simp; (with_reducible rfl)); rotate_left; (simp only [Act.put, zt, zu, zv, i64_w, i32_w]; rfl); refine pure_ (i := 5) (N := some 26) (v := ?_) (a' := ?_) #[T,T,T,T,F,T,F,F,F,F,F,F,F,F,F,F,F,F,F,F,F,F,F] rfl rfl (any_of HT_.out (by kernel_rfl)) (fun _ _ _ h => h) (Or.inl ⟨by rfl, ?_⟩) ?_ ?_; rotate_left; (intro w'; go_simp; (with_reducible rfl)); rotate_left; (simp only [Act.put, zt, zu, zv, i64_w, i32_w]; rfl); refine pure_ (i := 6) (N := some 27) (v := ?_) (a' := ?_) #[T,T,T,T,F,T,T,F,F,F,F,F,F,F,F,F,F,F,F,F,F,F,F] rfl rfl (any_of HT_.out (by kernel_rfl)) (fun _ _ _ h => h) (Or.inl ⟨by rfl, ?_⟩) ?_ ?_; rotate_left; (intro w'; go_simp; (with_reducible rfl)); rotate_left; (simp only [Act.put, zt, zu, zv, i64_w, i32_w]; rfl); refine pure_ (i := 7) (N := some 28) (v := ?_) (a' := ?_) #[T,T,T,T,F,T,T,T,F,F,F,F,F,F,F,F,F,F,F,F,F,F,F] rfl rfl (any_of HT_.out (by kernel_rfl)) (fun _ _ _ h => h) (Or.inl ⟨by rfl, ?_⟩) ?_ ?_; rotate_left; (intro w'; go_simp; (with_reducible rfl)); rotate_left; (simp only [Act.put, zt, zu, zv, i64_w, i32_w]; rfl); refine pure_ (i := 8) (N := some 29) (v := ?_) (a' := ?_) #[T,T,T,T,F,T,T,T,T,F,F,F,F,F,F,F,F,F,F,F,F,F,F] rfl rfl (any_of HT_.out (by kernel_rfl)) (fun _ _ _ h => h) (Or.inl ⟨by rfl, ?_⟩) ?_ ?_; rotate_left; (intro w'; go_simp; (with_reducible rfl)); rotate_left; (simp only [Act.put, zt, zu, zv, i64_w, i32_w]; rfl); refine pure_ (i := 10) (N := some 31) (v := ?_) (a' := ?_) #[T,T,T,T,F,T,T,T,T,F,T,F,F,F,F,F,F,F,F,F,F,F,F] rfl rfl (any_of HT_.out (by kernel_rfl)) (fun _ _ _ h => h) (Or.inl ⟨by rfl, ?_⟩) ?_ ?_; rotate_left; (intro w'; go_simp; (with_reducible rfl)); rotate_left; (simp only [Act.put, zt, zu, zv, i64_w, i32_w]; rfl); refine pure_ (i := 11) (N := some 32) (v := ?_) (a' := ?_) #[T,T,T,T,F,T,T,T,T,F,T,T,F,F,F,F,F,F,F,F,F,F,F] rfl rfl (any_of HT_.out (by kernel_rfl)) (fun _ _ _ h => h) (Or.inl ⟨by rfl, ?_⟩) ?_ ?_; rotate_left; (intro w'; go_simp; (with_reducible rfl)); rotate_left; (simp only [Act.put, zt, zu, zv, i64_w, i32_w]; rfl); refine pure_ (i := 12) (N := some 33) (v := ?_) (a' := ?_) #[T,T,T,T,F,T,T,T,T,F,T,T,T,F,F,F,F,F,F,F,F,F,F] rfl rfl (any_of HT_.out (by kernel_rfl)) (fun _ _ _ h => h) (Or.inl ⟨by rfl, ?_⟩) ?_ ?_; rotate_left; (intro w'; go_simp; (with_reducible rfl)); rotate_left; (simp only [Act.put, zt, zu, zv, i64_w, i32_w]; rfl); refine pure_ (i := 13) (N := some 34) (v := ?_) (a' := ?_) #[T,T,T,T,F,T,T,T,T,F,T,T,T,T,F,F,F,F,F,F,F,F,F] rfl rfl (any_of HT_.out (by kernel_rfl)) (fun _ _ _ h => h) (Or.inl ⟨by rfl, ?_⟩) ?_ ?_; rotate_left; (intro w'; go_simp; (with_reducible rfl)); rotate_left; (simp only [Act.put, zt, zu, zv, i64_w, i32_w]; rfl); refine pure_ (i := 15) (N := some 36) (v := ?_) (a' := ?_) #[T,T,T,T,F,T,T,T,T,F,T,T,T,T,F,T,F,F,F,F,F,F,F] rfl rfl (any_of HT_.out (by kernel_rfl)) (fun _ _ _ h => h) (Or.inl ⟨by rfl, ?_⟩) ?_ ?_; rotate_left; (intro w'; go_simp; (with_reducible rfl)); rotate_left; (simp only [Act.put, zt, zu, zv, i64_w, i32_w]; rfl); refine pure_ (i := 16) (N := some 37) (v := ?_) (a' := ?_) #[T,T,T,T,F,T,T,T,T,F,T,T,T,T,F,T,T,F,F,F,F,F,F] rfl rfl (any_of HT_.out (by kernel_rfl)) (fun _ _ _ h => h) (Or.inl ⟨by rfl, ?_⟩) ?_ ?_; rotate_left; (intro w'; go_simp; (with_reducible rfl)); rotate_left; (simp only [Act.put, zt, zu, zv, i64_w, i32_w]; rfl); refine pure_ (i := 17) (N := some 38) (v := ?_) (a' := ?_) #[T,T,T,T,F,T,T,T,T,F,T,T,T,T,F,T,T,T,F,F,F,F,F] rfl rfl (any_of HT_.out (by kernel_rfl)) (fun _ _ _ h => h) (Or.inl ⟨by rfl, ?_⟩) ?_ ?_; rotate_left; (intro w'; go_simp; (with_reducible rfl)); rotate_left; (simp only [Act.put, zt, zu, zv, i64_w, i32_w]; rfl); refine pure_ (i := 18) (N := some 39) (v := ?_) (a' := ?_) #[T,T,T,T,F,T,T,T,T,F,T,T,T,T,F,T,T,T,T,F,F,F,F] rfl rfl (any_of HT_.out (by kernel_rfl)) (fun _ _ _ h => h) (Or.inl ⟨by rfl, ?_⟩) ?_ ?_; rotate_left; (intro w'; go_simp; (with_reducible rfl)); rotate_left; (simp only [Act.put, zt, zu, zv, i64_w, i32_w]; rfl); refine take_ (i := 4) (N := some 25) (v := ?_) (a' := ?_) #[T,T,T,T,T,T,T,T,T,F,T,T,T,T,F,T,T,T,T,F,F,F,F] rfl rfl (take_ofW HT_.out HW_.out (by kernel_rfl)) (fun _ _ _ h => h) (Or.inl ⟨by rfl, ?_⟩) hHeld ?_ ?_; rotate_left; (rintro w' ⟨s0, s1, s2, s3, s4, s5, s6, s7, s8, s9, s10, s11, s12, s13, s14, s15, s16, s17, s18, s19, s20, s21, s22, s23⟩; go_simp; (with_reducible rfl)); rotate_left; (simp only [Act.put, zt, zu, zv, i64_w, i32_w]; rfl); refine take_ (i := 9) (N := some 30) (v := ?_) (a' := ?_) #[T,T,T,T,T,T,T,T,T,T,T,T,T,T,F,T,T,T,T,F,F,F,F] rfl rfl (take_ofW HT_.out HW_.out (by kernel_rfl)) (fun _ _ _ h => h) (Or.inl ⟨by rfl, ?_⟩) hHeld ?_ ?_; rotate_left; (rintro w' ⟨s0, s1, s2, s3, s4, s5, s6, s7, s8, s9, s10, s11, s12, s13, s14, s15, s16, s17, s18, s19, s20, s21, s22, s23⟩; go_simp; (with_reducible rfl)); rotate_left; (simp only [Act.put, zt, zu, zv, i64_w, i32_w]; rfl); refine take_ (i := 14) (N := some 35) (v := ?_) (a' := ?_) #[T,T,T,T,T,T,T,T,T,T,T,T,T,T,T,T,T,T,T,F,F,F,F] rfl rfl (take_ofW HT_.out HW_.out (by kernel_rfl)) (fun _ _ _ h => h) (Or.inl ⟨by rfl, ?_⟩) hHeld ?_ ?_; rotate_left; (rintro w' ⟨s0, s1, s2, s3, s4, s5, s6, s7, s8, s9, s10, s11, s12, s13, s14, s15, s16, s17, s18, s19, s20, s21, s22, s23⟩; go_simp; (with_reducible rfl)); rotate_left; (simp only [Act.put, zt, zu, zv, i64_w, i32_w]; rfl); refine take_ (i := 19) (N := some 40) (v := ?_) (a' := ?_) #[T,T,T,T,T,T,T,T,T,T,T,T,T,T,T,T,T,T,T,T,F,F,F] rfl rfl (take_ofW HT_.out HW_.out (by kernel_rfl)) (fun _ _ _ h => h) (Or.inl ⟨by rfl, ?_⟩) hHeld ?_ ?_; rotate_left; (rintro w' ⟨s0, s1, s2, s3, s4, s5, s6, s7, s8, s9, s10, s11, s12, s13, s14, s15, s16, s17, s18, s19, s20, s21, s22, s23⟩; go_simp; (with_reducible rfl)); rotate_left; (simp only [Act.put, zt, zu, zv, i64_w, i32_w]; rfl); refine pure_ (i := 20) (N := some 41) (v := ?_) (a' := ?_) #[T,T,T,T,T,T,T,T,T,T,T,T,T,T,T,T,T,T,T,T,T,F,F] rfl rfl (any_of HT_.out (by kernel_rfl)) (fun _ _ _ h => h) (Or.inl ⟨by rfl, ?_⟩) ?_ ?_; rotate_left; (intro w'; go_simp; (with_reducible rfl)); rotate_left; (simp only [Act.put, zt, zu, zv, i64_w, i32_w]; rfl); refine one_ (i := 21) (N := some 42) #[T,T,T,T,T,T,T,T,T,T,T,T,T,T,T,T,T,T,T,T,T,T,F] rfl rfl (one_of HT_.out (by kernel_rfl)) (by decide) (fun K hK => ?_); refine goes_ Try.func41 (by kernel_rfl) rfl #[.agg #[.string ((rd_T53 l0 x11_1).f2), .string ((rd_T53 l0 x11_1).f3), .string ((rd_T53 l0 x11_1).f4), .slice A368_5 ((rd_T53 l0 x11_1).f5).length c368_5, .slice none 0 0]] (by rfl) rfl rfl (by (try simp only [List.map_toArray, List.map_cons, List.map_nil]); first | done | rfl | (simp only [List.length_drop, List.length_take]; rfl)) ?_; refine (r11_Alone.calls k1 ((rd_T53 l0 x11_1).f2) ((rd_T53 l0 x11_1).f3) ((rd_T53 l0 x11_1).f4) _ _ ((rd_T53 l0 x11_1).f5) _ _ ([] : List (S25)) t372 _ ?side1 ?side2 ?side3 ?side4 A10.out).mono ?_
          (case side1 => repeat (first | exact (Kd.C_below HR371_5.out HB.out) | (with_reducible refine Kd.C_alloc ?_ _) | (with_reducible refine Kd.C_drewN ?_ _) | (with_reducible refine Kd.C_drew ?_)))
          (case side2 => exact HC371_5.out)
          (case side3 => exact Kd.C_nil _ _)
          (case side4 => exact Nat.le_refl _)
          rintro e w27 ⟨rfl, hb⟩; refine ⟨_, rfl, ?_⟩; have n0_ := zk (zs (by with_reducible repeat first | exact HB.out | apply zA | apply zN | apply zD) hb); clear HB; have HB := n0_; clear n0_
          (try clear hb)
          (try clear hb2)
          (try clear hk)
          (try clear hi)
          refine hK.out _ _ ⟨(zB HB hw368_0), (zB HB hw368_1), (zB HB hw368_2), (zB HB hw368_3), (zB HB hw368_4), (zB HB hw368_5), (zB HB hw369_0), (zB HB hw369_1), (zB HB hw369_2), (zB HB hw369_3), (zB HB hw369_4), (zB HB hw369_5), (zB HB hw370_0), (zB HB hw370_1), (zB HB hw370_2), (zB HB hw370_3), (zB HB hw370_4), (zB HB hw370_5), (zB HB hw371_0), (zB HB hw371_1), (zB HB hw371_2), (zB HB hw371_3), (zB HB hw371_4), (zB HB hw371_5)⟩ (fun hHeld => ?_); clear hK K; refine norm_ (a' := ?_) ?_ ?_; rotate_left
          ·
           show Act.put _ (some 42) _ = _
           simp only [Act.put, zt, zu, zv, i64_w, i32_w]; rfl
          refine pure_ (i := 22) (N := some 4) (v := ?_) (a' := ?_) #[T,T,T,T,T,T,T,T,T,T,T,T,T,T,T,T,T,T,T,T,T,T,T] rfl rfl (any_of HT_.out (by kernel_rfl)) (fun _ _ _ h => h) (Or.inl ⟨by rfl, ?_⟩) ?_ ?_; rotate_left; (intro w'; go_simp; (with_reducible rfl)); rotate_left; (simp only [Act.put, zt, zu, zv, i64_w, i32_w]; rfl); refine done_ (done_of HT_.out (by kernel_rfl)) ?_
          try go_wp2
          go_ret; exact ⟨by first | rfl | (simp [wN, wS] <;> rfl) | (simp [*, wN, wS] <;> rfl), by with_reducible repeat first | exact HB.out | apply zA | apply zN | apply zD⟩
        ·
         rw [if_neg c9] at H; exact absurd H (by simp)
       ·
        rw [if_neg c8] at H; exact absurd H (by simp)
    ·
     rw [if_neg c4] at H; have c4b0 := decide_eq_false c4; clear c4; obtain rfl := Option.some.inj H; go_wp2; go_ret; exact ⟨by first | rfl | (simp [wN, wS] <;> rfl) | (simp [*, wN, wS] <;> rfl), by with_reducible repeat first | exact HB.out | apply zA | apply zN | apply zD⟩
 ·
  replace c3 := Bool.eq_false_iff.mpr c3; subst c3
  have H1 : (some 2) = some r := by rw [if_neg (show ¬ (false = true) by decide)] at H; exact H
  clear H; have H := H1; clear H1; obtain rfl := Option.some.inj H
  go_enter Try.func19, Try.ntmps19
  go_wp2_with (first | ((with_reducible refine gk (f := 39) rfl ?_); refine gl (some 7) rfl rfl Try.func39 (by kernel_rfl) rfl #[.slice A0 l0.length c0] rfl (by (try simp only [List.map_toArray, List.map_cons, List.map_nil]); first | done | rfl | (simp only [List.length_drop, List.length_take]; rfl)) ?_; (with_reducible refine (r13_Formed.calls k _ _ l0 false _ ?side1 ?side2 A2.out).mono ?_); (case side1 => repeat (first | exact HR0.out | (with_reducible refine Kd.C_alloc ?_ _) | (with_reducible refine Kd.C_drewN ?_ _) | (with_reducible refine Kd.C_drew ?_))); (case side2 => exact HC0.out); rintro e w' ⟨rfl, ⟨nd, rfl⟩⟩; refine ⟨_, rfl, ?_⟩))
  go_ret; exact ⟨by first | rfl | (simp [wN, wS] <;> rfl) | (simp [*, wN, wS] <;> rfl), by with_reducible repeat first | exact HB.out | apply zA | apply zN | apply zD⟩
def r13_Kids.l0 : Nat → List (S53) → Int → List Int → Int → Int → Option (List Int)
  | 0, _, _, _, _, _ => none
  | k + 1, x0, x1, x5, x8, x9 => if x9 < x8 then (if 0 ≤ x9 then (if x9 < (x0.length : Int) then (if ((rd_T53 x0 x9).f1) = x1 then (if x5.length < 17592186044416 then (r13_Kids.l0 k x0 x1 (x5 ++ [wrap64 (x9 + 1)]) x8 (wrap64 (x9 + 1))) else (none)) else (r13_Kids.l0 k x0 x1 x5 x8 (wrap64 (x9 + 1)))) else (none)) else (none)) else (some x5)
def r13_Kids.f (k : Nat) (l0 : List (S53)) (a1 : Int) : Option (List Int) := r13_Kids.l0 k l0 a1 ([] : List Int) (l0.length : Int) 0
set_option maxHeartbeats 8000000 in
set_option maxRecDepth 100000 in
theorem r13_Kids.calls (k : Nat) (A0 : Option Addr) (c0 : Nat) (l0 : List (S53)) (a1 : Int) (r : List Int) (w : World) (hr0 : Kd.C k53 w A0 l0.length l0) (hc0 : l0.length ≤ c0) (h : r13_Kids.f k l0 a1 = some r) :
    Calls Try.prog 21 #[.slice A0 l0.length c0, .int .i64 a1] w fun e w' => ∃ v0_ : Value, e = .returned (v0_) ∧ Kd.R (Kd.int .i64) 3 w' w.heap.size (fun _ => True) v0_ r ∧ Below w.heap.size w w' := by
  have HR0 := zk hr0; have HC0 := zk hc0; clear hr0 hc0; have HB := zk (Below.refl w.heap.size w); have H : (r13_Kids.l0 k l0 a1 ([] : List Int) (l0.length : Int) 0) = some r := h; clear h; have H' := zk H; clear H
  go_enter Try.func21, Try.ntmps21
  go_wp2
  go_loopg [5, 9] k (fun kq v5 v9 w' => ∃ (x5_1 : List Int) (x9_1 : Int), v9 = .int .i64 x9_1 ∧ Aside0 (r13_Kids.l0 kq l0 a1 x5_1 (l0.length : Int) x9_1 = some r) ∧ Aside0 (kq ≤ k) ∧ Aside0 (Kd.R (Kd.int .i64) 3 w' w.heap.size (fun _ => True) v5 x5_1) ∧ Aside0 (Below w.heap.size w w'))
  case atStart => exact ⟨(([] : List Int)), (0), (by first | rfl | (simp; done) | (simp [*]; done)), H', ⟨Nat.le_refl _⟩, ⟨by first | exact Kd.R_nil _ _ _ _ _ | exact Kd.N_nil _ _ _ _ _ | exact Kd.V_nil _ _ _ _ _ | exact Kd.Q_nil _ _ _ _ _ | exact Kd.S_nil _ _ _ _ _⟩, ⟨by with_reducible repeat first | exact HB.out | apply zA | apply zN | apply zD⟩⟩
  case round =>
    clear H'; (try clear c2); (try clear p2); obtain ⟨x5_1, x9_1, rfl, HA, HK1, HO_5, HB⟩ := hrel
    cases gk with
    | zero => exact absurd HA.out (by simp [r13_Kids.l0])
    | succ k1 =>
      have H := HA.out; clear HA; simp only [r13_Kids.l0] at H
      by_cases c3 : x9_1 < (l0.length : Int)
      · rw [if_pos c3] at H
        have c3b0 : decide (x9_1 < (l0.length : Int)) = true := decide_eq_true c3
        clear c3
        by_cases c4 : 0 ≤ x9_1
        · rw [if_pos c4] at H
          have c4b0 : decide (0 ≤ x9_1) = true := decide_eq_true c4
          clear c4
          by_cases c5 : x9_1 < (l0.length : Int)
          · rw [if_pos c5] at H
            have c5b0 : decide (x9_1 < (l0.length : Int)) = true := decide_eq_true c5
            clear c5
            by_cases c6 : ((rd_T53 l0 x9_1).f1) = a1
            · rw [if_pos c6] at H
              have c6b0 := beq_iff_eq.mpr c6
              have c6b1 := bne_eq_false_iff_eq.mpr c6
              clear c6
              by_cases c7 : x5_1.length < 17592186044416
              · rw [if_pos c7] at H
                have LMc7 := zk c7
                clear c7
                obtain ⟨y379, hy379⟩ : ∃ y_ : List Int, y_ = (x5_1 ++ [wrap64 (x9_1 + 1)]) := ⟨_, rfl⟩
                replace H : (r13_Kids.l0 k1 l0 a1 y379 (l0.length : Int) (wrap64 (x9_1 + 1))) = some r := by first | (rw [hy379]; with_reducible exact H) | (have H2_ := (Option.bind_some _ _).symm.trans H; rw [hy379]; with_reducible exact H2_) | (have H2_ := (Option.bind_some _ _).symm.trans H; with_reducible exact H2_) | with_reducible exact H | (rw [hy379]; exact H) | exact H
                have Ny379 := zk hy379
                clear hy379
                have H' := zk H
                clear H
                have p378 : 0 ≤ (x9_1 : Int) := zo (by assumption)
                have q378 : x9_1 < (l0.length : Int) := zo (by assumption)
                obtain ⟨ad378, A378_5, c378_5, e378, hx378_0, hx378_1, hx378_2, hx378_3, hx378_4, hx378_5, hl378_5, hi378_5⟩ := at_T53 HR0.out x9_1 p378 q378
                cases e378
                replace hx378_0 := zB HB hx378_0
                replace hx378_1 := zB HB hx378_1
                replace hx378_2 := zB HB hx378_2
                replace hx378_3 := zB HB hx378_3
                replace hx378_4 := zB HB hx378_4
                replace hx378_5 := zB HB hx378_5
                have HR378_5 := zk hi378_5
                have HC378_5 := zk hl378_5
                clear hi378_5 hl378_5
                replace p378 := eq_true p378
                replace q378 := eq_true q378
                go_wp2_with (first | ((with_reducible refine gn (b := .append) (xs := #[.tmp 19, .tmp 22]) rfl ?_); at_builtin; refine Kd.R_append (Kd.int .i64) (w0 := w) w.heap.size rfl (.tmp 19) (.tmp 22) 43 3 (.int .i64 0) 8 rfl Try.underlying43 info3 rfl (by decide) (by omega) u5 x5_1 (wrap64 (x9_1 + 1)) [.int .i64 (wrap64 (x9_1 + 1))] (fun _ => True) (fun _ => False) rfl rfl ?aP (fun _ hk => hk.elim) ?aF ?aO ?aB ?aS ?aL ?_; (case aP => exact rfl); (case aB => exact (by with_reducible repeat first | exact HB.out | apply zA | apply zN | apply zD)); (case aF => exact (fun _ _ => trivial)); (case aO => exact (by (with_reducible repeat (first | apply Kd.R_alloc | apply Kd.R_drewN | apply Kd.R_drew)); exact HO_5.out)); (case aS => exact (zq (by with_reducible repeat first | exact HB.out | apply zA | apply zN | apply zD))); (case aL => have := LMc7.out; omega); intro v380 w8 ho hb hg hat; rw [← Ny379.out] at ho; have n0_ := zk (hb); have n1_ := zk (ho); clear HB; clear HO_5; have HB := n0_; have HO381 := n1_; clear n0_ n1_; clear ho hb hg hat))
                go_roundg k1
                case measure => have := HK1.out; omega
                case rel => exact ⟨(y379), (wrap64 (x9_1 + 1)), (by first | rfl | (simp; done) | (simp [*]; done)), H', ⟨by have := HK1.out; omega⟩, ⟨by (with_reducible repeat (first | apply Kd.R_alloc | apply Kd.R_drewN | apply Kd.R_drew)); exact HO381.out⟩, ⟨by with_reducible repeat first | exact HB.out | apply zA | apply zN | apply zD⟩⟩
              · rw [if_neg c7] at H
                exact absurd H (by simp)
            · rw [if_neg c6] at H
              have c6b0 := beq_eq_false_iff_ne.mpr c6
              have c6b1 := bne_iff_ne.mpr c6
              have H' := zk H
              clear H
              have p378 : 0 ≤ (x9_1 : Int) := zo (by assumption)
              have q378 : x9_1 < (l0.length : Int) := zo (by assumption)
              obtain ⟨ad378, A378_5, c378_5, e378, hx378_0, hx378_1, hx378_2, hx378_3, hx378_4, hx378_5, hl378_5, hi378_5⟩ := at_T53 HR0.out x9_1 p378 q378
              cases e378
              replace hx378_0 := zB HB hx378_0
              replace hx378_1 := zB HB hx378_1
              replace hx378_2 := zB HB hx378_2
              replace hx378_3 := zB HB hx378_3
              replace hx378_4 := zB HB hx378_4
              replace hx378_5 := zB HB hx378_5
              have HR378_5 := zk hi378_5
              have HC378_5 := zk hl378_5
              clear hi378_5 hl378_5
              replace p378 := eq_true p378
              replace q378 := eq_true q378
              go_wp2
              go_roundg k1
              case measure => have := HK1.out; omega
              case rel => exact ⟨(x5_1), (wrap64 (x9_1 + 1)), (by first | rfl | (simp; done) | (simp [*]; done)), H', ⟨by have := HK1.out; omega⟩, ⟨by (with_reducible repeat (first | apply Kd.R_alloc | apply Kd.R_drewN | apply Kd.R_drew)); exact HO_5.out⟩, ⟨by with_reducible repeat first | exact HB.out | apply zA | apply zN | apply zD⟩⟩
          · rw [if_neg c5] at H
            exact absurd H (by simp)
        · rw [if_neg c4] at H
          exact absurd H (by simp)
      · rw [if_neg c3] at H
        have c3b0 : decide (x9_1 < (l0.length : Int)) = false := decide_eq_false c3; clear c3; obtain rfl := Option.some.inj H; go_wp2; go_ret; exact ⟨_, by first | rfl | (simp [wN, wS] <;> rfl) | (simp [*, wN, wS] <;> rfl), by (with_reducible repeat (first | apply Kd.R_alloc | apply Kd.R_drewN | apply Kd.R_drew)); exact HO_5.out, by with_reducible repeat first | exact HB.out | apply zA | apply zN | apply zD⟩
def r13_Span.l0 : Nat → List (S53) → Int → Int → Int → Int → Option (Int)
  | 0, _, _, _, _, _ => none
  | k + 1, x0, x1, x5, x8, x9 => if x9 < x8 then (if x1 = 0 then (r13_Span.l0 k x0 x1 (wrap64 (x5 + 1)) x8 (wrap64 (x9 + 1))) else (if (wrap64 (x9 + 1)) = x1 then (r13_Span.l0 k x0 x1 (wrap64 (x5 + 1)) x8 (wrap64 (x9 + 1))) else ((r13_Above.f k x0 (wrap64 (x9 + 1)) x1).bind fun t382 => (if t382 = true then (r13_Span.l0 k x0 x1 (wrap64 (x5 + 1)) x8 (wrap64 (x9 + 1))) else (r13_Span.l0 k x0 x1 x5 x8 (wrap64 (x9 + 1))))))) else (some x5)
def r13_Span.f (k : Nat) (l0 : List (S53)) (a1 : Int) : Option (Int) := r13_Span.l0 k l0 a1 0 (l0.length : Int) 0
set_option maxHeartbeats 8000000 in
set_option maxRecDepth 100000 in
theorem r13_Span.calls (k : Nat) (A0 : Option Addr) (c0 : Nat) (l0 : List (S53)) (a1 : Int) (r : Int) (w : World) (hr0 : Kd.C k53 w A0 l0.length l0) (hc0 : l0.length ≤ c0) (h : r13_Span.f k l0 a1 = some r) :
    Calls Try.prog 22 #[.slice A0 l0.length c0, .int .i64 a1] w fun e w' => e = .returned (.int .i64 r) ∧ Drawn0 w w' := by
  have HR0 := zk hr0; have HC0 := zk hc0; clear hr0 hc0; have H : (r13_Span.l0 k l0 a1 0 (l0.length : Int) 0) = some r := h; clear h; have H' := zk H; clear H
  go_enter Try.func22, Try.ntmps22
  go_wp2
  go_loopg [5, 9] k (fun kq v5 v9 w' => ∃ (x5_1 : Int) (x9_1 : Int), v5 = .int .i64 x5_1 ∧ v9 = .int .i64 x9_1 ∧ Aside0 (r13_Span.l0 kq l0 a1 x5_1 (l0.length : Int) x9_1 = some r) ∧ Aside0 (kq ≤ k) ∧ Drawn0 w w')
  case atStart => exact ⟨(0), (0), (by first | rfl | (simp; done) | (simp [*]; done)), (by first | rfl | (simp; done) | (simp [*]; done)), H', ⟨Nat.le_refl _⟩, by repeat (first | exact Drawn0.refl _ | apply Drawn0.step)⟩
  case round =>
    clear H'; (try clear c2); (try clear p2); obtain ⟨x5_1, x9_1, rfl, rfl, HA, HK1, ⟨m1, rfl⟩⟩ := hrel
    cases gk with
    | zero => exact absurd HA.out (by simp [r13_Span.l0])
    | succ k1 =>
      have H := HA.out; clear HA; simp only [r13_Span.l0] at H
      by_cases c3 : x9_1 < (l0.length : Int)
      · rw [if_pos c3] at H
        have c3b0 : decide (x9_1 < (l0.length : Int)) = true := decide_eq_true c3
        clear c3
        by_cases c4 : a1 = 0
        · rw [if_pos c4] at H
          have c4b0 : (a1 == 0) = true := beq_iff_eq.mpr c4
          have c4b1 : (a1 != 0) = false := bne_eq_false_iff_eq.mpr c4
          clear c4
          have H' := zk H
          clear H
          go_wp2
          go_roundg k1
          case measure => have := HK1.out; omega
          case rel => exact ⟨(wrap64 (x5_1 + 1)), (wrap64 (x9_1 + 1)), (by first | rfl | (simp; done) | (simp [*]; done)), (by first | rfl | (simp; done) | (simp [*]; done)), H', ⟨by have := HK1.out; omega⟩, by repeat (first | exact Drawn0.refl _ | apply Drawn0.step)⟩
        · rw [if_neg c4] at H
          have c4b0 : (a1 == 0) = false := beq_eq_false_iff_ne.mpr c4
          have c4b1 : (a1 != 0) = true := bne_iff_ne.mpr c4
          by_cases c5 : (wrap64 (x9_1 + 1)) = a1
          · rw [if_pos c5] at H
            have c5b0 : ((wrap64 (x9_1 + 1)) == a1) = true := beq_iff_eq.mpr c5
            have c5b1 : ((wrap64 (x9_1 + 1)) != a1) = false := bne_eq_false_iff_eq.mpr c5
            clear c5
            have H' := zk H
            clear H
            go_wp2
            go_roundg k1
            case measure => have := HK1.out; omega
            case rel => exact ⟨(wrap64 (x5_1 + 1)), (wrap64 (x9_1 + 1)), (by first | rfl | (simp; done) | (simp [*]; done)), (by first | rfl | (simp; done) | (simp [*]; done)), H', ⟨by have := HK1.out; omega⟩, by repeat (first | exact Drawn0.refl _ | apply Drawn0.step)⟩
          · rw [if_neg c5] at H
            have c5b0 : ((wrap64 (x9_1 + 1)) == a1) = false := beq_eq_false_iff_ne.mpr c5
            have c5b1 : ((wrap64 (x9_1 + 1)) != a1) = true := bne_iff_ne.mpr c5
            replace H := Option.bind_eq_some_iff.mp H
            obtain ⟨t382, A60, H⟩ := H
            replace H : (if t382 = true then (r13_Span.l0 k1 l0 a1 (wrap64 (x5_1 + 1)) (l0.length : Int) (wrap64 (x9_1 + 1))) else (r13_Span.l0 k1 l0 a1 x5_1 (l0.length : Int) (wrap64 (x9_1 + 1)))) = some r := H
            have A6 := zk A60
            clear A60
            by_cases c7 : t382 = true
            · subst c7
              have H1 : (r13_Span.l0 k1 l0 a1 (wrap64 (x5_1 + 1)) (l0.length : Int) (wrap64 (x9_1 + 1))) = some r := by rw [if_pos rfl] at H; exact H
              clear H
              have H := H1
              clear H1
              have H' := zk H
              clear H
              go_wp2_with (first | (go_at_call 42; (with_reducible refine (r13_Above.calls k1 _ _ l0 (wrap64 (x9_1 + 1)) a1 true _ ?side1 ?side2 A6.out).mono ?_); (case side1 => repeat (first | exact HR0.out | (with_reducible refine Kd.C_alloc ?_ _) | (with_reducible refine Kd.C_drewN ?_ _) | (with_reducible refine Kd.C_drew ?_))); (case side2 => exact HC0.out); rintro e w' ⟨rfl, ⟨nd, rfl⟩⟩))
              go_roundg k1
              case measure => have := HK1.out; omega
              case rel => exact ⟨(wrap64 (x5_1 + 1)), (wrap64 (x9_1 + 1)), (by first | rfl | (simp; done) | (simp [*]; done)), (by first | rfl | (simp; done) | (simp [*]; done)), H', ⟨by have := HK1.out; omega⟩, by repeat (first | exact Drawn0.refl _ | apply Drawn0.step)⟩
            · replace c7 := Bool.eq_false_iff.mpr c7
              subst c7
              have H1 : (r13_Span.l0 k1 l0 a1 x5_1 (l0.length : Int) (wrap64 (x9_1 + 1))) = some r := by rw [if_neg (show ¬ (false = true) by decide)] at H; exact H
              clear H
              have H := H1
              clear H1
              have H' := zk H
              clear H
              go_wp2_with (first | (go_at_call 42; (with_reducible refine (r13_Above.calls k1 _ _ l0 (wrap64 (x9_1 + 1)) a1 false _ ?side1 ?side2 A6.out).mono ?_); (case side1 => repeat (first | exact HR0.out | (with_reducible refine Kd.C_alloc ?_ _) | (with_reducible refine Kd.C_drewN ?_ _) | (with_reducible refine Kd.C_drew ?_))); (case side2 => exact HC0.out); rintro e w' ⟨rfl, ⟨nd, rfl⟩⟩))
              go_roundg k1
              case measure => have := HK1.out; omega
              case rel => exact ⟨(x5_1), (wrap64 (x9_1 + 1)), (by first | rfl | (simp; done) | (simp [*]; done)), (by first | rfl | (simp; done) | (simp [*]; done)), H', ⟨by have := HK1.out; omega⟩, by repeat (first | exact Drawn0.refl _ | apply Drawn0.step)⟩
      · rw [if_neg c3] at H
        have c3b0 : decide (x9_1 < (l0.length : Int)) = false := decide_eq_false c3; clear c3; obtain rfl := Option.some.inj H; go_wp2; go_ret; exact ⟨by first | rfl | (simp; done) | (simp [*]; done), by repeat (first | exact Drawn0.refl _ | apply Drawn0.step)⟩
def r13_Path.l0 : Nat → List (S53) → Int → List Int → Option (List Int)
  | 0, _, _, _ => none
  | k + 1, x0, x1, x5 => if x1 > 0 then (if x1 ≤ (x0.length : Int) then ((some (([x1] : List Int) : List Int)).bind fun y383 => (if y383.length + x5.length < 17592186044416 then (if 0 ≤ (wrap64 (x1 - 1)) then (if (wrap64 (x1 - 1)) < (x0.length : Int) then (r13_Path.l0 k x0 ((rd_T53 x0 (wrap64 (x1 - 1))).f1) (y383 ++ x5)) else (none)) else (none)) else (none))) else (some x5)) else (some x5)
def r13_Path.f (k : Nat) (l0 : List (S53)) (a1 : Int) : Option (List Int) := r13_Path.l0 k l0 a1 ([] : List Int)
set_option maxHeartbeats 8000000 in
set_option maxRecDepth 100000 in
theorem r13_Path.calls (k : Nat) (A0 : Option Addr) (c0 : Nat) (l0 : List (S53)) (a1 : Int) (r : List Int) (w : World) (hr0 : Kd.C k53 w A0 l0.length l0) (hc0 : l0.length ≤ c0) (h : r13_Path.f k l0 a1 = some r) :
    Calls Try.prog 23 #[.slice A0 l0.length c0, .int .i64 a1] w fun e w' => ∃ v0_ : Value, e = .returned (v0_) ∧ Kd.R (Kd.int .i64) 3 w' w.heap.size (fun _ => True) v0_ r ∧ Below w.heap.size w w' := by
  have HR0 := zk hr0; have HC0 := zk hc0; clear hr0 hc0; have HB := zk (Below.refl w.heap.size w); have H : (r13_Path.l0 k l0 a1 ([] : List Int)) = some r := h; clear h; have H' := zk H; clear H
  go_enter Try.func23, Try.ntmps23
  go_wp2
  go_loopg [1, 5] k (fun kq v1 v5 w' => ∃ (x1_1 : Int) (x5_1 : List Int), v1 = .int .i64 x1_1 ∧ Aside0 (r13_Path.l0 kq l0 x1_1 x5_1 = some r) ∧ Aside0 (kq ≤ k) ∧ Aside0 (Kd.R (Kd.int .i64) 3 w' w.heap.size (fun _ => True) v5 x5_1) ∧ Aside0 (Below w.heap.size w w'))
  case atStart => exact ⟨(a1), (([] : List Int)), (by first | rfl | (simp; done) | (simp [*]; done)), H', ⟨Nat.le_refl _⟩, ⟨by first | exact Kd.R_nil _ _ _ _ _ | exact Kd.N_nil _ _ _ _ _ | exact Kd.V_nil _ _ _ _ _ | exact Kd.Q_nil _ _ _ _ _ | exact Kd.S_nil _ _ _ _ _⟩, ⟨by with_reducible repeat first | exact HB.out | apply zA | apply zN | apply zD⟩⟩
  case round =>
    clear H'; (try clear c2); (try clear p2); obtain ⟨x1_1, x5_1, rfl, HA, HK1, HO_5, HB⟩ := hrel
    cases gk with
    | zero => exact absurd HA.out (by simp [r13_Path.l0])
    | succ k1 =>
      have H := HA.out; clear HA; simp only [r13_Path.l0] at H
      by_cases c3 : x1_1 > 0
      · rw [if_pos c3] at H
        have c3b0 : decide (0 < x1_1) = true := decide_eq_true c3
        clear c3
        by_cases c4 : x1_1 ≤ (l0.length : Int)
        · rw [if_pos c4] at H
          have c4b0 : decide (x1_1 ≤ (l0.length : Int)) = true := decide_eq_true c4
          clear c4
          obtain ⟨y383, hy383⟩ : ∃ y_ : List Int, y_ = (([x1_1] : List Int)) := ⟨_, rfl⟩
          replace H : (if y383.length + x5_1.length < 17592186044416 then (if 0 ≤ (wrap64 (x1_1 - 1)) then (if (wrap64 (x1_1 - 1)) < (l0.length : Int) then (r13_Path.l0 k1 l0 ((rd_T53 l0 (wrap64 (x1_1 - 1))).f1) (y383 ++ x5_1)) else (none)) else (none)) else (none)) = some r := by first | (rw [hy383]; with_reducible exact H) | (have H2_ := (Option.bind_some _ _).symm.trans H; rw [hy383]; with_reducible exact H2_) | (have H2_ := (Option.bind_some _ _).symm.trans H; with_reducible exact H2_) | with_reducible exact H | (rw [hy383]; exact H) | exact H
          have Ny383 := zk hy383
          clear hy383
          by_cases c5 : y383.length + x5_1.length < 17592186044416
          · rw [if_pos c5] at H
            have LMc5 := zk c5
            clear c5
            obtain ⟨y386, hy386⟩ : ∃ y_ : List Int, y_ = (y383 ++ x5_1) := ⟨_, rfl⟩
            replace H : (if 0 ≤ (wrap64 (x1_1 - 1)) then (if (wrap64 (x1_1 - 1)) < (l0.length : Int) then (r13_Path.l0 k1 l0 ((rd_T53 l0 (wrap64 (x1_1 - 1))).f1) y386) else (none)) else (none)) = some r := by first | (rw [hy386]; with_reducible exact H) | (have H2_ := (Option.bind_some _ _).symm.trans H; rw [hy386]; with_reducible exact H2_) | (have H2_ := (Option.bind_some _ _).symm.trans H; with_reducible exact H2_) | with_reducible exact H | (rw [hy386]; exact H) | exact H
            have Ny386 := zk hy386
            clear hy386
            obtain ⟨ji6, hji6⟩ : ∃ j_ : Int, (wrap64 (x1_1 - 1)) = j_ := ⟨_, rfl⟩
            replace H : (if 0 ≤ (ji6) then (if (ji6) < (l0.length : Int) then (r13_Path.l0 k1 l0 ((rd_T53 l0 (ji6)).f1) y386) else (none)) else (none)) = some r := by first | (rw [hji6] at H; exact H) | (simp only [hji6] at H ⊢; exact H)
            have hji6w : (IntKind.i64.wrap (x1_1 - 1)) = ji6 := (i64_w _).trans hji6
            by_cases c7 : 0 ≤ (ji6)
            · rw [if_pos c7] at H
              have c7b0 : decide (0 ≤ (ji6)) = true := decide_eq_true c7
              clear c7
              by_cases c8 : (ji6) < (l0.length : Int)
              · rw [if_pos c8] at H
                have c8b0 := decide_eq_true c8
                clear c8
                have H' := zk H
                clear H
                go_wp2_with (first | ((with_reducible refine gd (N := 15) rfl ?_); (try (refine gg (by rfl) ?_; dsimp only)); refine Kd.R_lit (Kd.int .i64) _ 3 ?hg (N := 15) ?hd (xs := ([x1_1] : List Int)) (inner := [.int .i64 x1_1]) (ok := fun _ => True) (okp := fun _ => True) ?hr ?hp (fun _ hk => hk) trivial (Below.refl _ _) (Nat.le_refl _) (by simp) ?_; (case hd => rfl); (case hg => rfl); (case hr => go_simp; first | done | rfl); (case hp => exact (Reps.one (show Kd.M (Kd.int .i64) _ _ _ x1_1 [.int .i64 x1_1] from rfl) (Reps.none _ _))); intro v384 w9 ho10 hb hg_ hnew_; clear hg_ hnew_; (first | rw [← Ny383.out] at ho10 | (simp only [Int.reduceToNat] at ho10; rw [← Ny383.out] at ho10)); have n0_ := zk (Kd.R_elder' (by (with_reducible repeat (first | apply Kd.R_alloc | apply Kd.R_drewN | apply Kd.R_drew)); exact HO_5.out) (Kd.R_base ho10) hb); have n1_ := zk (Kd.R_lower (Kd.R_new' ho10 (Kd.R_lt (by (with_reducible repeat (first | apply Kd.R_alloc | apply Kd.R_drewN | apply Kd.R_drew)); exact HO_5.out))) (zq (by with_reducible repeat first | exact HB.out | apply zA | apply zN | apply zD))); have n2_ := zk (zs (by with_reducible repeat first | exact HB.out | apply zA | apply zN | apply zD) hb); clear HO_5; clear HB; have HO_5 := n0_; have HO385 := n1_; have HB := n2_; clear n0_ n1_ n2_; clear hb ho10; obtain ⟨Ao12, co12, eo12⟩ := Kd.R_slice HO_5.out; subst eo12) | ((with_reducible refine gn (b := .append) (xs := #[.tmp 15, .tmp 16]) rfl ?_); (try (refine gg (by rfl) ?_; dsimp only)); at_builtin; refine Kd.R_append_rows (Kd.int .i64) (w0 := w) w.heap.size rfl (.tmp 15) (.tmp 16) 43 3 (.int .i64 0) 8 rfl Try.underlying43 info3 rfl (by decide) (by omega) v384 y383 x5_1 _ _ _ (fun k_ => some k_ ≠ (.slice Ao12 x5_1.length co12 : Value).ownBlock) (fun _ => False) rfl rfl ?aO ?aR (fun _ _ h => h) (fun _ h => h.elim) ?aF ?aB ?aS ?aL ?_; (case aR => repeat (first | exact (Kd.R_reads' HO_5.out).2.2 | (with_reducible refine Kd.C_alloc ?_ _) | (with_reducible refine Kd.C_drewN ?_ _) | (with_reducible refine Kd.C_drew ?_))); (case aB => exact (by with_reducible repeat first | exact HB.out | apply zA | apply zN | apply zD)); (case aF => exact (fun k_ hk => Kd.fresh' (Kd.R_lt (by (with_reducible repeat (first | apply Kd.R_alloc | apply Kd.R_drewN | apply Kd.R_drew)); exact HO_5.out)) k_ hk)); (case aO => exact (by (with_reducible repeat (first | apply Kd.R_alloc | apply Kd.R_drewN | apply Kd.R_drew)); exact Kd.R_mono HO385.out (fun _ hk => hk.2))); (case aS => exact (zq (by with_reducible repeat first | exact HB.out | apply zA | apply zN | apply zD))); (case aL => have := LMc5.out; omega); intro v387 w11 ho hb hg hat; rw [← Ny386.out] at ho; have n0_ := zk (Kd.R_after (ok := (fun _ => True)) (by (with_reducible repeat (first | apply Kd.R_alloc | apply Kd.R_drewN | apply Kd.R_drew)); exact HO_5.out) hg hat); have n1_ := zk (hb); have n2_ := zk (ho); clear HO_5; clear HB; clear HO385; have HO_5 := n0_; have HB := n1_; have HO388 := n2_; clear n0_ n1_ n2_; clear ho hb hg hat; have p389 : 0 ≤ ((ji6) : Int) := zo (by assumption); have q389 : (ji6) < (l0.length : Int) := zo (by assumption); obtain ⟨ad389, A389_5, c389_5, e389, hx389_0, hx389_1, hx389_2, hx389_3, hx389_4, hx389_5, hl389_5, hi389_5⟩ := at_T53 HR0.out (ji6) p389 q389; cases e389; replace hx389_0 := zB HB hx389_0; replace hx389_1 := zB HB hx389_1; replace hx389_2 := zB HB hx389_2; replace hx389_3 := zB HB hx389_3; replace hx389_4 := zB HB hx389_4; replace hx389_5 := zB HB hx389_5; have HR389_5 := zk hi389_5; have HC389_5 := zk hl389_5; clear hi389_5 hl389_5; replace p389 := eq_true p389; replace q389 := eq_true q389))
                go_roundg k1
                case measure => have := HK1.out; omega
                case rel => exact ⟨((rd_T53 l0 (ji6)).f1), (y386), (by first | rfl | (simp; done) | (simp only [← hji6] <;> (first | rfl | simp)) | (simp [*]; done)), H', ⟨by have := HK1.out; omega⟩, ⟨by (with_reducible repeat (first | apply Kd.R_alloc | apply Kd.R_drewN | apply Kd.R_drew)); exact Kd.R_mono HO388.out (fun _ hk => trivial)⟩, ⟨by with_reducible repeat first | exact HB.out | apply zA | apply zN | apply zD⟩⟩
              · rw [if_neg c8] at H
                exact absurd H (by simp)
            · rw [if_neg c7] at H
              exact absurd H (by simp)
          · rw [if_neg c5] at H
            exact absurd H (by simp)
        · rw [if_neg c4] at H
          have c4b0 : decide (x1_1 ≤ (l0.length : Int)) = false := decide_eq_false c4
          clear c4
          obtain rfl := Option.some.inj H
          go_wp2
          go_ret
          exact ⟨_, by first | rfl | (simp [wN, wS] <;> rfl) | (simp [*, wN, wS] <;> rfl), by (with_reducible repeat (first | apply Kd.R_alloc | apply Kd.R_drewN | apply Kd.R_drew)); exact HO_5.out, by with_reducible repeat first | exact HB.out | apply zA | apply zN | apply zD⟩
      · rw [if_neg c3] at H
        have c3b0 : decide (0 < x1_1) = false := decide_eq_false c3; clear c3; obtain rfl := Option.some.inj H; go_wp2; go_ret; exact ⟨_, by first | rfl | (simp [wN, wS] <;> rfl) | (simp [*, wN, wS] <;> rfl), by (with_reducible repeat (first | apply Kd.R_alloc | apply Kd.R_drewN | apply Kd.R_drew)); exact HO_5.out, by with_reducible repeat first | exact HB.out | apply zA | apply zN | apply zD⟩
mutual
def lw_FlatLooks.j0 : Nat → List (S53) → Int → List (List Int) → List Int → List Int → Bool → Option (Bool)
 | 0, _, _, _, _, _, _ => none
 | k + 1, x0, x1, x5, x6, x7, x48 => if x48 = true then (some false) else (lw_FlatLooks.l0 k x0 x1 x5 x6 x7 (x5.length : Int) 0)
def lw_FlatLooks.l0 : Nat → List (S53) → Int → List (List Int) → List Int → List Int → Int → Int → Option (Bool)
 | 0, _, _, _, _, _, _, _ => none
 | k + 1, x0, x1, x5, x6, x7, x50, x51 => if x51 < x50 then (if 0 ≤ x51 then (if x51 < (x5.length : Int) then ((r13_Kids.f k x0 x51).bind fun t409 => ((pl_Ints.f k (rd_L8 x5 x51) t409).bind fun t412 => (if t412 = true then (if x51 < (x6.length : Int) then ((r13_Span.f k x0 x51).bind fun t414 => (if (rd x6 x51) = t414 then (lw_FlatLooks.l0 k x0 x1 x5 x6 x7 x50 (wrap64 (x51 + 1))) else (some false))) else (none)) else (some false)))) else (none)) else (none)) else ((r13_Path.f k x0 x1).bind fun t403 => ((pl_Ints.f k x7 t403).bind fun t406 => (if t406 = true then ((lw_same.f k).bind fun t407 => (some t407)) else (some false))))
end
def lw_FlatLooks.f (k : Nat) (l0 : List (S53)) (a1 : Int) : Option (Bool) := (pl_FewRows.f k l0 400).bind fun t390 => (if t390 = true then ((flat_Lists.f k l0).bind fun t392 => ((flat_Spans.f k l0).bind fun t395 => ((flat_Path.f k l0 a1).bind fun t398 => ((r13_Check.f k l0).bind fun t401 => (if t401 = 0 then (if (t392.length : Int) = (wrap64 ((l0.length : Int) + 1)) then (lw_FlatLooks.j0 k l0 a1 t392 t395 t398 ((t395.length : Int) != (wrap64 ((l0.length : Int) + 1)))) else (lw_FlatLooks.j0 k l0 a1 t392 t395 t398 true)) else (if (wrap64 ((wrap64 ((t392.length : Int) + (t395.length : Int))) + (t398.length : Int))) = 0 then ((lw_same.f k).bind fun t402 => (some t402)) else (some false))))))) else ((lw_same.f k).bind fun t391 => (some t391)))
def lw_FlatLooks.T13 : Bool × List (List Nat × List Nat) := (true, [([], []), ([], []), ([0, 1], [0, 1]), ([2], [2]), ([], []), ([], []), ([4, 5], [4, 5]), ([3, 6, 6], [3, 6]), ([7], [7]), ([8, 7], [8]), ([9], [9]), ([9], [9]), ([10, 11, 9], [9, 10, 11]), ([12, 9], [9, 12]), ([9], [9]), ([9], [9]), ([14, 15, 9, 9], [9, 14, 15]), ([13, 16, 9], [9, 13, 16]), ([9, 17], [9, 17])])
def lw_FlatLooks.B13 : List Nat := [0, 0, 3, 7, 0, 0, 48, 127, 255, 511, 1023, 1023, 4095, 8191, 1023, 1023, 50175, 131071, 262143]
theorem lw_FlatLooks.tab13 : rtab .any (opsOf Try.f4 13) = lw_FlatLooks.T13 := by kernel_rfl
theorem lw_FlatLooks.bits13 : waitsOk lw_FlatLooks.T13.2 lw_FlatLooks.B13 = true := by kernel_rfl
set_option maxHeartbeats 8000000 in
set_option maxRecDepth 100000 in
theorem lw_FlatLooks.calls (k : Nat) (A0 : Option Addr) (c0 : Nat) (l0 : List (S53)) (a1 : Int) (r : Bool) (w : World) (hr0 : Kd.C k53 w A0 l0.length l0) (hc0 : l0.length ≤ c0) (h : (if r = true then lw_FlatLooks.f k l0 a1 else none) = some r) :
  Calls Try.prog 4 #[.slice A0 l0.length c0, .int .i64 a1] w fun e w' => e = .returned (.bool r) ∧ Below w.heap.size w w' := by
 split at h
 case isFalse => cases h
 rename_i hr_
 have HR_ := zk hr_
 clear hr_
 have HR0 := zk hr0
 have HC0 := zk hc0
 clear hr0 hc0
 have HB := zk (Below.refl w.heap.size w)
 have H : ((pl_FewRows.f k l0 400).bind fun t390 => (if t390 = true then ((flat_Lists.f k l0).bind fun t392 => ((flat_Spans.f k l0).bind fun t395 => ((flat_Path.f k l0 a1).bind fun t398 => ((r13_Check.f k l0).bind fun t401 => (if t401 = 0 then (if (t392.length : Int) = (wrap64 ((l0.length : Int) + 1)) then (lw_FlatLooks.j0 k l0 a1 t392 t395 t398 ((t395.length : Int) != (wrap64 ((l0.length : Int) + 1)))) else (lw_FlatLooks.j0 k l0 a1 t392 t395 t398 true)) else (if (wrap64 ((wrap64 ((t392.length : Int) + (t395.length : Int))) + (t398.length : Int))) = 0 then ((lw_same.f k).bind fun t402 => (some t402)) else (some false))))))) else ((lw_same.f k).bind fun t391 => (some t391)))) = some r := h
 clear h
 replace H := Option.bind_eq_some_iff.mp H
 obtain ⟨t390, A30, H⟩ := H
 replace H : (if t390 = true then ((flat_Lists.f k l0).bind fun t392 => ((flat_Spans.f k l0).bind fun t395 => ((flat_Path.f k l0 a1).bind fun t398 => ((r13_Check.f k l0).bind fun t401 => (if t401 = 0 then (if (t392.length : Int) = (wrap64 ((l0.length : Int) + 1)) then (lw_FlatLooks.j0 k l0 a1 t392 t395 t398 ((t395.length : Int) != (wrap64 ((l0.length : Int) + 1)))) else (lw_FlatLooks.j0 k l0 a1 t392 t395 t398 true)) else (if (wrap64 ((wrap64 ((t392.length : Int) + (t395.length : Int))) + (t398.length : Int))) = 0 then ((lw_same.f k).bind fun t402 => (some t402)) else (some false))))))) else ((lw_same.f k).bind fun t391 => (some t391))) = some r := H
 have A3 := zk A30
 clear A30
 by_cases c4 : t390 = true
 ·
  subst c4
  have H1 : ((flat_Lists.f k l0).bind fun t392 => ((flat_Spans.f k l0).bind fun t395 => ((flat_Path.f k l0 a1).bind fun t398 => ((r13_Check.f k l0).bind fun t401 => (if t401 = 0 then (if (t392.length : Int) = (wrap64 ((l0.length : Int) + 1)) then (lw_FlatLooks.j0 k l0 a1 t392 t395 t398 ((t395.length : Int) != (wrap64 ((l0.length : Int) + 1)))) else (lw_FlatLooks.j0 k l0 a1 t392 t395 t398 true)) else (if (wrap64 ((wrap64 ((t392.length : Int) + (t395.length : Int))) + (t398.length : Int))) = 0 then ((lw_same.f k).bind fun t402 => (some t402)) else (some false))))))) = some r := by rw [if_pos rfl] at H; exact H
  clear H; have H := H1; clear H1; replace H := Option.bind_eq_some_iff.mp H; obtain ⟨t392, A50, H⟩ := H; replace H : ((flat_Spans.f k l0).bind fun t395 => ((flat_Path.f k l0 a1).bind fun t398 => ((r13_Check.f k l0).bind fun t401 => (if t401 = 0 then (if (t392.length : Int) = (wrap64 ((l0.length : Int) + 1)) then (lw_FlatLooks.j0 k l0 a1 t392 t395 t398 ((t395.length : Int) != (wrap64 ((l0.length : Int) + 1)))) else (lw_FlatLooks.j0 k l0 a1 t392 t395 t398 true)) else (if (wrap64 ((wrap64 ((t392.length : Int) + (t395.length : Int))) + (t398.length : Int))) = 0 then ((lw_same.f k).bind fun t402 => (some t402)) else (some false)))))) = some r := H; have A5 := zk A50; clear A50; replace H := Option.bind_eq_some_iff.mp H; obtain ⟨t395, A60, H⟩ := H; replace H : ((flat_Path.f k l0 a1).bind fun t398 => ((r13_Check.f k l0).bind fun t401 => (if t401 = 0 then (if (t392.length : Int) = (wrap64 ((l0.length : Int) + 1)) then (lw_FlatLooks.j0 k l0 a1 t392 t395 t398 ((t395.length : Int) != (wrap64 ((l0.length : Int) + 1)))) else (lw_FlatLooks.j0 k l0 a1 t392 t395 t398 true)) else (if (wrap64 ((wrap64 ((t392.length : Int) + (t395.length : Int))) + (t398.length : Int))) = 0 then ((lw_same.f k).bind fun t402 => (some t402)) else (some false))))) = some r := H; have A6 := zk A60; clear A60; replace H := Option.bind_eq_some_iff.mp H; obtain ⟨t398, A70, H⟩ := H; replace H : ((r13_Check.f k l0).bind fun t401 => (if t401 = 0 then (if (t392.length : Int) = (wrap64 ((l0.length : Int) + 1)) then (lw_FlatLooks.j0 k l0 a1 t392 t395 t398 ((t395.length : Int) != (wrap64 ((l0.length : Int) + 1)))) else (lw_FlatLooks.j0 k l0 a1 t392 t395 t398 true)) else (if (wrap64 ((wrap64 ((t392.length : Int) + (t395.length : Int))) + (t398.length : Int))) = 0 then ((lw_same.f k).bind fun t402 => (some t402)) else (some false)))) = some r := H; have A7 := zk A70; clear A70; replace H := Option.bind_eq_some_iff.mp H; obtain ⟨t401, A80, H⟩ := H; replace H : (if t401 = 0 then (if (t392.length : Int) = (wrap64 ((l0.length : Int) + 1)) then (lw_FlatLooks.j0 k l0 a1 t392 t395 t398 ((t395.length : Int) != (wrap64 ((l0.length : Int) + 1)))) else (lw_FlatLooks.j0 k l0 a1 t392 t395 t398 true)) else (if (wrap64 ((wrap64 ((t392.length : Int) + (t395.length : Int))) + (t398.length : Int))) = 0 then ((lw_same.f k).bind fun t402 => (some t402)) else (some false))) = some r := H; have A8 := zk A80; clear A80
  by_cases c9 : t401 = 0
  ·
   rw [if_pos c9] at H; have c9b0 := beq_iff_eq.mpr c9; have c9b1 := bne_eq_false_iff_eq.mpr c9; clear c9; have HC10 := zk H; clear H
   go_enter Try.func4, Try.ntmps4
   go_upto_region 8 with (first | ((with_reducible refine gk (f := 15) rfl ?_); refine gl (some 10) rfl rfl Try.func15 (by kernel_rfl) rfl #[.slice A0 l0.length c0, .int .i64 400] rfl (by (try simp only [List.map_toArray, List.map_cons, List.map_nil]); first | done | rfl | (simp only [List.length_drop, List.length_take]; rfl)) ?_; (with_reducible refine (pl_FewRows.calls k _ _ l0 400 true _ ?side1 ?side2 A3.out).mono ?_); (case side1 => repeat (first | exact HR0.out | (with_reducible refine Kd.C_alloc ?_ _) | (with_reducible refine Kd.C_drewN ?_ _) | (with_reducible refine Kd.C_drew ?_))); (case side2 => exact HC0.out); rintro e w' ⟨rfl, ⟨nd, rfl⟩⟩; refine ⟨_, rfl, ?_⟩) | ((with_reducible refine gk (f := 16) rfl ?_); refine gl (some 14) rfl rfl Try.func16 (by kernel_rfl) rfl #[.slice A0 l0.length c0] rfl (by (try simp only [List.map_toArray, List.map_cons, List.map_nil]); first | done | rfl | (simp only [List.length_drop, List.length_take]; rfl)) ?_; (with_reducible refine (flat_Lists.calls k _ _ l0 t392 _ ?side1 ?side2 A5.out).mono ?_); (case side1 => repeat (first | exact HR0.out | (with_reducible refine Kd.C_alloc ?_ _) | (with_reducible refine Kd.C_drewN ?_ _) | (with_reducible refine Kd.C_drew ?_))); (case side2 => exact HC0.out); rintro e w11 ⟨v393, rfl, ho0, hb⟩; refine ⟨_, rfl, ?_⟩; have n0_ := zk (Kd.S_lower ho0 (zq (by with_reducible repeat first | exact HB.out | apply zA | apply zN | apply zD))); have n1_ := zk (zs (by with_reducible repeat first | exact HB.out | apply zA | apply zN | apply zD) hb); clear HB; have HO394 := n0_; have HB := n1_; clear n0_ n1_; (try clear hb); (try clear hb2); (try clear hk); (try clear hi); (try clear ho0)) | ((with_reducible refine gk (f := 17) rfl ?_); refine gl (some 16) rfl rfl Try.func17 (by kernel_rfl) rfl #[.slice A0 l0.length c0] rfl (by (try simp only [List.map_toArray, List.map_cons, List.map_nil]); first | done | rfl | (simp only [List.length_drop, List.length_take]; rfl)) ?_; (with_reducible refine (flat_Spans.calls k _ _ l0 t395 _ ?side1 ?side2 A6.out).mono ?_); (case side1 => repeat (first | exact (Kd.C_below HR0.out HB.out) | (with_reducible refine Kd.C_alloc ?_ _) | (with_reducible refine Kd.C_drewN ?_ _) | (with_reducible refine Kd.C_drew ?_))); (case side2 => exact HC0.out); rintro e w12 ⟨v396, rfl, ho0, hb⟩; refine ⟨_, rfl, ?_⟩; have n0_ := zk (Kd.S_elder' (by (with_reducible repeat (first | apply Kd.S_alloc | apply Kd.S_drewN | apply Kd.S_drew)); exact HO394.out) (Kd.R_base ho0) hb); have n1_ := zk (Kd.R_lower ho0 (zq (by with_reducible repeat first | exact HB.out | apply zA | apply zN | apply zD))); have n2_ := zk (zs (by with_reducible repeat first | exact HB.out | apply zA | apply zN | apply zD) hb); clear HO394; clear HB; have HO394 := n0_; have HO397 := n1_; have HB := n2_; clear n0_ n1_ n2_; (try clear hb); (try clear hb2); (try clear hk); (try clear hi); (try clear ho0)) | ((with_reducible refine gk (f := 18) rfl ?_); refine gl (some 19) rfl rfl Try.func18 (by kernel_rfl) rfl #[.slice A0 l0.length c0, .int .i64 a1] rfl (by (try simp only [List.map_toArray, List.map_cons, List.map_nil]); first | done | rfl | (simp only [List.length_drop, List.length_take]; rfl)) ?_; (with_reducible refine (flat_Path.calls k _ _ l0 a1 t398 _ ?side1 ?side2 A7.out).mono ?_); (case side1 => repeat (first | exact (Kd.C_below HR0.out HB.out) | (with_reducible refine Kd.C_alloc ?_ _) | (with_reducible refine Kd.C_drewN ?_ _) | (with_reducible refine Kd.C_drew ?_))); (case side2 => exact HC0.out); rintro e w13 ⟨v399, rfl, ho0, hb⟩; refine ⟨_, rfl, ?_⟩; have n0_ := zk (Kd.S_elder' (by (with_reducible repeat (first | apply Kd.S_alloc | apply Kd.S_drewN | apply Kd.S_drew)); exact HO394.out) (Kd.R_base ho0) hb); have n1_ := zk (Kd.R_elder' (by (with_reducible repeat (first | apply Kd.R_alloc | apply Kd.R_drewN | apply Kd.R_drew)); exact HO397.out) (Kd.R_base ho0) hb); have n2_ := zk (Kd.R_lower (Kd.R_new' ho0 (Kd.R_lt (by (with_reducible repeat (first | apply Kd.R_alloc | apply Kd.R_drewN | apply Kd.R_drew)); exact HO397.out))) (zq (by with_reducible repeat first | exact HB.out | apply zA | apply zN | apply zD))); have n3_ := zk (zs (by with_reducible repeat first | exact HB.out | apply zA | apply zN | apply zD) hb); clear HO394; clear HO397; clear HB; have HO394 := n0_; have HO397 := n1_; have HO400 := n2_; have HB := n3_; clear n0_ n1_ n2_ n3_; (try clear hb); (try clear hb2); (try clear hk); (try clear hi); (try clear ho0)) | ((with_reducible refine gk (f := 19) rfl ?_); refine gl (some 21) rfl rfl Try.func19 (by kernel_rfl) rfl #[.slice A0 l0.length c0] rfl (by (try simp only [List.map_toArray, List.map_cons, List.map_nil]); first | done | rfl | (simp only [List.length_drop, List.length_take]; rfl)) ?_; (with_reducible refine (r13_Check.calls k _ _ l0 t401 _ ?side1 ?side2 A8.out).mono ?_); (case side1 => repeat (first | exact (Kd.C_below HR0.out HB.out) | (with_reducible refine Kd.C_alloc ?_ _) | (with_reducible refine Kd.C_drewN ?_ _) | (with_reducible refine Kd.C_drew ?_))); (case side2 => exact HC0.out); rintro e w14 ⟨rfl, hb⟩; refine ⟨_, rfl, ?_⟩; have n0_ := zk (Kd.S_below (by (with_reducible repeat (first | apply Kd.S_alloc | apply Kd.S_drewN | apply Kd.S_drew)); exact HO394.out) hb); have n1_ := zk (Kd.R_below (by (with_reducible repeat (first | apply Kd.R_alloc | apply Kd.R_drewN | apply Kd.R_drew)); exact HO397.out) hb); have n2_ := zk (Kd.R_below (by (with_reducible repeat (first | apply Kd.R_alloc | apply Kd.R_drewN | apply Kd.R_drew)); exact HO400.out) hb); have n3_ := zk (zs (by with_reducible repeat first | exact HB.out | apply zA | apply zN | apply zD) hb); clear HO394; clear HO397; clear HO400; clear HB; have HO394 := n0_; have HO397 := n1_; have HO400 := n2_; have HB := n3_; clear n0_ n1_ n2_ n3_; (try clear hb); (try clear hb2); (try clear hk); (try clear hi)))
   (try simp only [Act.put, zt, zu, zv])
   go_cut [48] (fun v48 wc => ∃ (kq : Nat) (x48_9 : Bool), v48 = .bool x48_9 ∧ Aside0 (lw_FlatLooks.j0 kq l0 a1 t392 t395 t398 x48_9 = some r) ∧ Aside0 (kq ≤ k) ∧ Aside0 (Kd.S (Kd.slice 3 (Kd.int .i64)) 43 wc w.heap.size (fun k_ => some k_ ≠ (v396 : Value).ownBlock ∧ some k_ ≠ (v399 : Value).ownBlock) v393 t392) ∧ Aside0 (Kd.R (Kd.int .i64) 3 wc w.heap.size (fun k_ => some k_ ≠ (v399 : Value).ownBlock) v396 t395) ∧ Aside0 (Kd.R (Kd.int .i64) 3 wc w.heap.size (fun k_ => some k_ ≠ (v396 : Value).ownBlock) v399 t398) ∧ Aside0 (Below w.heap.size w wc))
   case first =>
    have H := HC10.out; clear HC10
    by_cases c15 : (t392.length : Int) = (wrap64 ((l0.length : Int) + 1))
    ·
     rw [if_pos c15] at H; have c15b0 := beq_iff_eq.mpr c15; have c15b1 := bne_eq_false_iff_eq.mpr c15; clear c15
     (first | rw [c15b0] | (simp only [i64_w, i32_w]; rw [c15b0]) | skip)
     have H' := zk H; clear H; obtain ⟨Ao16, co16, eo16⟩ := Kd.S_slice HO394.out; subst eo16; obtain ⟨Ao17, co17, eo17⟩ := Kd.R_slice HO397.out; subst eo17; go_wp2
     go_meet
     case rel => exact ⟨_, (((t395.length : Int) != (wrap64 ((l0.length : Int) + 1)))), (by first | rfl | (simp; done) | (simp [*]; done)), H', ⟨by first | omega | exact Nat.le_refl _⟩, ⟨by (with_reducible repeat (first | apply Kd.S_alloc | apply Kd.S_drewN | apply Kd.S_drew)); exact Kd.S_mono HO394.out (fun _ hk => ⟨hk.1.2, hk.2⟩)⟩, ⟨by (with_reducible repeat (first | apply Kd.R_alloc | apply Kd.R_drewN | apply Kd.R_drew)); exact Kd.R_mono HO397.out (fun _ hk => hk.2)⟩, ⟨by (with_reducible repeat (first | apply Kd.R_alloc | apply Kd.R_drewN | apply Kd.R_drew)); exact Kd.R_mono HO400.out (fun _ hk => hk.2)⟩, ⟨by with_reducible repeat first | exact HB.out | apply zA | apply zN | apply zD⟩⟩
    ·
     rw [if_neg c15] at H; have c15b0 := beq_eq_false_iff_ne.mpr c15; have c15b1 := bne_iff_ne.mpr c15
     (first | rw [c15b0] | (simp only [i64_w, i32_w]; rw [c15b0]) | skip)
     have H' := zk H; clear H; obtain ⟨Ao18, co18, eo18⟩ := Kd.S_slice HO394.out; subst eo18; go_wp2
     go_meet
     case rel => exact ⟨_, (true), (by first | rfl | (simp; done) | (simp [*]; done)), H', ⟨by first | omega | exact Nat.le_refl _⟩, ⟨by (with_reducible repeat (first | apply Kd.S_alloc | apply Kd.S_drewN | apply Kd.S_drew)); exact Kd.S_mono HO394.out (fun _ hk => ⟨hk.1.2, hk.2⟩)⟩, ⟨by (with_reducible repeat (first | apply Kd.R_alloc | apply Kd.R_drewN | apply Kd.R_drew)); exact Kd.R_mono HO397.out (fun _ hk => hk.2)⟩, ⟨by (with_reducible repeat (first | apply Kd.R_alloc | apply Kd.R_drewN | apply Kd.R_drew)); exact Kd.R_mono HO400.out (fun _ hk => hk.2)⟩, ⟨by with_reducible repeat first | exact HB.out | apply zA | apply zN | apply zD⟩⟩
   case rest =>
    clear HC10; (try clear c1); (try clear p2); (try clear c4); (try clear p6); (try clear c9); (try clear c9b0); (try clear c9b1); (try clear c15); (try clear c15b0); (try clear c15b1); (try clear c16); (try clear c17); (try clear c18); obtain ⟨kq, x48_9, rfl, HA, HJ9, HO_5, HO_6, HO_7, HB⟩ := hcut
    cases kq with
    | zero => exact absurd HA.out (by simp [lw_FlatLooks.j0])
    | succ kj9 =>
     have H := HA.out; clear HA; simp only [lw_FlatLooks.j0] at H
     by_cases c19 : x48_9 = true
     ·
      subst c19
      have H1 : (some false) = some r := by rw [if_pos rfl] at H; exact H
      clear H; have H := H1; clear H1; exact absurd ((Option.some.inj H).trans HR_.out) (by decide)
     ·
      replace c19 := Bool.eq_false_iff.mpr c19; subst c19
      have H1 : (lw_FlatLooks.l0 kj9 l0 a1 t392 t395 t398 (t392.length : Int) 0) = some r := by rw [if_neg (show ¬ (false = true) by decide)] at H; exact H
      clear H; have H := H1; clear H1; have H' := zk H; clear H; obtain ⟨Ao20, co20, eo20⟩ := Kd.S_slice HO_5.out; subst eo20; go_wp2
      go_loopg [51] kj9 (fun kq v51 w' => ∃ (x51_2 : Int), v51 = .int .i64 x51_2 ∧ Aside0 (lw_FlatLooks.l0 kq l0 a1 t392 t395 t398 (t392.length : Int) x51_2 = some r) ∧ Aside0 (kq ≤ kj9) ∧ Aside0 (Kd.S (Kd.slice 3 (Kd.int .i64)) 43 w' w.heap.size (fun k_ => some k_ ≠ (v396 : Value).ownBlock ∧ some k_ ≠ (v399 : Value).ownBlock) (.slice Ao20 t392.length co20) t392) ∧ Aside0 (Kd.R (Kd.int .i64) 3 w' w.heap.size (fun k_ => some k_ ≠ (v399 : Value).ownBlock) v396 t395) ∧ Aside0 (Kd.R (Kd.int .i64) 3 w' w.heap.size (fun k_ => some k_ ≠ (v396 : Value).ownBlock) v399 t398) ∧ Aside0 (Below w.heap.size w w'))
      case atStart => exact ⟨(0), (by first | rfl | (simp; done) | (simp [*]; done)), H', ⟨Nat.le_refl _⟩, ⟨by (with_reducible repeat (first | apply Kd.S_alloc | apply Kd.S_drewN | apply Kd.S_drew)); exact HO_5.out⟩, ⟨by (with_reducible repeat (first | apply Kd.R_alloc | apply Kd.R_drewN | apply Kd.R_drew)); exact HO_6.out⟩, ⟨by (with_reducible repeat (first | apply Kd.R_alloc | apply Kd.R_drewN | apply Kd.R_drew)); exact HO_7.out⟩, ⟨by with_reducible repeat first | exact HB.out | apply zA | apply zN | apply zD⟩⟩
      case round =>
       clear H'; (try clear c1); (try clear p2); (try clear c4); (try clear p6); (try clear c9); (try clear c9b0); (try clear c9b1); (try clear c15); (try clear c15b0); (try clear c15b1); (try clear c16); (try clear c17); (try clear c18); (try clear c19); (try clear p2); (try clear p6); obtain ⟨x51_2, rfl, HA, HK2, HO_5, HO_6, HO_7, HB⟩ := hrel
       cases gk with
       | zero => exact absurd HA.out (by simp [lw_FlatLooks.l0])
       | succ k2 =>
        have H := HA.out; clear HA; simp only [lw_FlatLooks.l0] at H
        by_cases c21 : x51_2 < (t392.length : Int)
        ·
         rw [if_pos c21] at H; have c21b0 := decide_eq_true c21; clear c21
         by_cases c22 : 0 ≤ x51_2
         ·
          rw [if_pos c22] at H; have c22b0 := decide_eq_true c22; clear c22
          by_cases c23 : x51_2 < (t392.length : Int)
          ·
           rw [if_pos c23] at H; have c23b0 := decide_eq_true c23; clear c23; replace H := Option.bind_eq_some_iff.mp H; obtain ⟨t409, A240, H⟩ := H; replace H : ((pl_Ints.f k2 (rd_L8 t392 x51_2) t409).bind fun t412 => (if t412 = true then (if x51_2 < (t395.length : Int) then ((r13_Span.f k2 l0 x51_2).bind fun t414 => (if (rd t395 x51_2) = t414 then (lw_FlatLooks.l0 k2 l0 a1 t392 t395 t398 (t392.length : Int) (wrap64 (x51_2 + 1))) else (some false))) else (none)) else (some false))) = some r := H; have A24 := zk A240; clear A240; replace H := Option.bind_eq_some_iff.mp H; obtain ⟨t412, A250, H⟩ := H; replace H : (if t412 = true then (if x51_2 < (t395.length : Int) then ((r13_Span.f k2 l0 x51_2).bind fun t414 => (if (rd t395 x51_2) = t414 then (lw_FlatLooks.l0 k2 l0 a1 t392 t395 t398 (t392.length : Int) (wrap64 (x51_2 + 1))) else (some false))) else (none)) else (some false)) = some r := H; have A25 := zk A250; clear A250
           by_cases c26 : t412 = true
           ·
            subst c26
            have H1 : (if x51_2 < (t395.length : Int) then ((r13_Span.f k2 l0 x51_2).bind fun t414 => (if (rd t395 x51_2) = t414 then (lw_FlatLooks.l0 k2 l0 a1 t392 t395 t398 (t392.length : Int) (wrap64 (x51_2 + 1))) else (some false))) else (none)) = some r := by rw [if_pos rfl] at H; exact H
            clear H; have H := H1; clear H1
            by_cases c27 : x51_2 < (t395.length : Int)
            ·
             rw [if_pos c27] at H; have c27b0 := decide_eq_true c27; clear c27; replace H := Option.bind_eq_some_iff.mp H; obtain ⟨t414, A280, H⟩ := H; replace H : (if (rd t395 x51_2) = t414 then (lw_FlatLooks.l0 k2 l0 a1 t392 t395 t398 (t392.length : Int) (wrap64 (x51_2 + 1))) else (some false)) = some r := H; have A28 := zk A280; clear A280
             by_cases c29 : (rd t395 x51_2) = t414
             ·
              rw [if_pos c29] at H; have c29b0 := beq_iff_eq.mpr c29; have c29b1 := bne_eq_false_iff_eq.mpr c29; clear c29; have H' := zk H; clear H
              try go_wp2
              have n0_ := zk (Kd.S_drew HO_5.out); have n1_ := zk (Kd.R_drew HO_6.out); have n2_ := zk (Kd.R_drew HO_7.out); have n3_ := zk (zD HB.out); clear HO_5; clear HO_6; clear HO_7; clear HB; have HO_5 := n0_; have HO_6 := n1_; have HO_7 := n2_; have HB := n3_; clear n0_ n1_ n2_ n3_; have p408 : 0 ≤ (x51_2 : Int) := zo (by assumption); have q408 : x51_2 < (t392.length : Int) := zo (by assumption); obtain ⟨ad408, A408_0, c408_0, e408, hx408_0, hl408_0, hi408_0⟩ := at_L8 (Kd.S_reads' HO_5.out).2.2 x51_2 p408 q408; cases e408; obtain ⟨ce408, hce408, hMe408, hcc408⟩ := Kd.S_get HO_5.out [] x51_2 p408 (by first | exact q408 | exact zo (by assumption) | (have e_ := (Kd.S_reads' HO_5.out).1; omega)); obtain ⟨ve408_0, rfl, ge408_0⟩ := hMe408; have hv408_0 := hcc408 0 _ rfl; rw [Nat.add_zero, show ((Kd.slice 3 (Kd.int .i64))).sz = 1 from rfl, Nat.mul_one] at hv408_0; replace hv408_0 := Option.some.inj (hv408_0.symm.trans hx408_0); rw [hv408_0] at ge408_0; have HL408_0 := zk (show Kd.R (Kd.int .i64) 3 _ _ _ _ (rd_L8 t392 x51_2) from ge408_0); clear hv408_0 ge408_0; clear hcc408 hce408; have HR408_0 := zk hi408_0; have HC408_0 := zk hl408_0; clear hi408_0 hl408_0; replace p408 := eq_true p408; replace q408 := eq_true q408; have p413 : 0 ≤ (x51_2 : Int) := zo (by assumption); have q413 : x51_2 < (t395.length : Int) := zo (by assumption); obtain ⟨Aq_, cq_, eq_⟩ := Kd.R_slice HO_6.out; subst eq_; obtain ⟨ad413, e413, hx413_0⟩ := Kd.at_int (Kd.R_reads' HO_6.out).2.2 x51_2 p413 q413; cases e413; replace p413 := eq_true p413; replace q413 := eq_true q413; refine start_ (n := 19) (S := fun w' => w'.cell? (ad408.add (x51_2).toNat) = some (.slice A408_0 (rd_L8 t392 x51_2).length c408_0) ∧ w'.cell? (ad413.add (x51_2).toNat) = some (.int .i64 (rd t395 x51_2))) (ds := []) #[F,F,F,F,F,F,F,F,F,F,F,F,F,F,F,F,F,F,F] (by kernel_rfl) rfl rfl ⟨hx408_0, hx413_0⟩ (fun hHeld => ?_); refine with_tabW lw_FlatLooks.tab13 lw_FlatLooks.bits13 (fun HT_ HW_ => ?_); generalize wr.drew = w30 at HO_5 HO_6 HO_7 HB HL408_0 HR408_0 hx408_0 hx413_0 hHeld ⊢; refine pure_ (i := 0) (N := some 54) (v := ?_) (a' := ?_) #[T,F,F,F,F,F,F,F,F,F,F,F,F,F,F,F,F,F,F] rfl rfl (any_of HT_.out (by kernel_rfl)) (fun _ _ _ h => h) (Or.inl ⟨by rfl, ?_⟩) ?_ ?_; rotate_left; (intro w'; go_simp; (with_reducible rfl)); rotate_left; (simp only [Act.put, zt, zu, zv, i64_w, i32_w]; rfl); refine pure_ (i := 1) (N := some 55) (v := ?_) (a' := ?_) #[T,T,F,F,F,F,F,F,F,F,F,F,F,F,F,F,F,F,F] rfl rfl (any_of HT_.out (by kernel_rfl)) (fun _ _ _ h => h) (Or.inl ⟨by rfl, ?_⟩) ?_ ?_; rotate_left; (intro w'; go_simp; (with_reducible rfl)); rotate_left; (simp only [Act.put, zt, zu, zv, i64_w, i32_w]; rfl); refine pure_ (i := 2) (N := some 56) (v := ?_) (a' := ?_) #[T,T,T,F,F,F,F,F,F,F,F,F,F,F,F,F,F,F,F] rfl rfl (any_of HT_.out (by kernel_rfl)) (fun _ _ _ h => h) (Or.inl ⟨by rfl, ?_⟩) ?_ ?_; rotate_left; (intro w'; go_simp; (with_reducible rfl)); rotate_left; (simp only [Act.put, zt, zu, zv, i64_w, i32_w]; rfl); refine pure_ (i := 4) (N := some 58) (v := ?_) (a' := ?_) #[T,T,T,F,T,F,F,F,F,F,F,F,F,F,F,F,F,F,F] rfl rfl (any_of HT_.out (by kernel_rfl)) (fun _ _ _ h => h) (Or.inl ⟨by rfl, ?_⟩) ?_ ?_; rotate_left; (intro w'; go_simp; (with_reducible rfl)); rotate_left; (simp only [Act.put, zt, zu, zv, i64_w, i32_w]; rfl); refine pure_ (i := 5) (N := some 59) (v := ?_) (a' := ?_) #[T,T,T,F,T,T,F,F,F,F,F,F,F,F,F,F,F,F,F] rfl rfl (any_of HT_.out (by kernel_rfl)) (fun _ _ _ h => h) (Or.inl ⟨by rfl, ?_⟩) ?_ ?_; rotate_left; (intro w'; go_simp; (with_reducible rfl)); rotate_left; (simp only [Act.put, zt, zu, zv, i64_w, i32_w]; rfl); refine take_ (i := 3) (N := some 57) (v := ?_) (a' := ?_) #[T,T,T,T,T,T,F,F,F,F,F,F,F,F,F,F,F,F,F] rfl rfl (take_ofW HT_.out HW_.out (by kernel_rfl)) (fun _ _ _ h => h) (Or.inl ⟨by rfl, ?_⟩) hHeld ?_ ?_; rotate_left; (rintro w' ⟨s0, s1⟩; go_simp; (with_reducible rfl)); rotate_left; (simp only [Act.put, zt, zu, zv, i64_w, i32_w]; rfl); refine one_ (i := 6) (N := some 60) #[T,T,T,T,T,T,T,F,F,F,F,F,F,F,F,F,F,F,F] rfl rfl (one_of HT_.out (by kernel_rfl)) (by decide) (fun K hK => ?_); refine goes_ Try.func21 (by kernel_rfl) rfl #[.slice A0 l0.length c0, .int .i64 x51_2] (by rfl) rfl rfl (by (try simp only [List.map_toArray, List.map_cons, List.map_nil]); first | done | rfl | (simp only [List.length_drop, List.length_take]; rfl)) ?_
              with_reducible refine (r13_Kids.calls k2 _ _ l0 x51_2 t409 _ ?side1 ?side2 A24.out).mono ?_
              (case side1 => repeat (first | exact (Kd.C_below HR0.out HB.out) | (with_reducible refine Kd.C_alloc ?_ _) | (with_reducible refine Kd.C_drewN ?_ _) | (with_reducible refine Kd.C_drew ?_)))
              (case side2 => exact HC0.out)
              rintro e w31 ⟨v410, rfl, ho0, hb⟩; have HS0_ := (hb.cell (World.block_lt_of_cell? _ _ (hHeld.1))).trans (hHeld.1); have HS1_ := (hb.cell (World.block_lt_of_cell? _ _ (hHeld.2))).trans (hHeld.2); refine ⟨_, rfl, ?_⟩; have n0_ := zk (Kd.S_elder' (by (with_reducible repeat (first | apply Kd.S_alloc | apply Kd.S_drewN | apply Kd.S_drew)); exact HO_5.out) (Kd.R_base ho0) hb); have n1_ := zk (Kd.R_elder' (by (with_reducible repeat (first | apply Kd.R_alloc | apply Kd.R_drewN | apply Kd.R_drew)); exact HO_6.out) (Kd.R_base ho0) hb); have n2_ := zk (Kd.R_elder' (by (with_reducible repeat (first | apply Kd.R_alloc | apply Kd.R_drewN | apply Kd.R_drew)); exact HO_7.out) (Kd.R_base ho0) hb); have n3_ := zk (Kd.R_elder' (by (with_reducible repeat (first | apply Kd.R_alloc | apply Kd.R_drewN | apply Kd.R_drew)); exact HL408_0.out) (Kd.R_base ho0) hb); have n4_ := zk (Kd.R_lower (Kd.R_new' (Kd.R_new' (Kd.R_new' ho0 (Kd.R_lt (by (with_reducible repeat (first | apply Kd.R_alloc | apply Kd.R_drewN | apply Kd.R_drew)); exact HO_6.out))) (Kd.R_lt (by (with_reducible repeat (first | apply Kd.R_alloc | apply Kd.R_drewN | apply Kd.R_drew)); exact HO_7.out))) (Kd.R_lt (by (with_reducible repeat (first | apply Kd.R_alloc | apply Kd.R_drewN | apply Kd.R_drew)); exact HL408_0.out))) (zq (by with_reducible repeat first | exact HB.out | apply zA | apply zN | apply zD))); have n5_ := zk (Kd.C_below (by repeat (first | (with_reducible exact HR408_0.out) | (with_reducible refine Kd.C_alloc ?_ _) | (with_reducible refine Kd.C_drewN ?_ _) | (with_reducible refine Kd.C_drew ?_) | exact HR408_0.out)) hb); have n6_ := zk (zs (by with_reducible repeat first | exact HB.out | apply zA | apply zN | apply zD) hb); clear HO_5; clear HO_6; clear HO_7; clear HL408_0; clear HR408_0; clear HB; have HO_5 := n0_; have HO_6 := n1_; have HO_7 := n2_; have HL408_0 := n3_; have HO411 := n4_; have HR408_0 := n5_; have HB := n6_; clear n0_ n1_ n2_ n3_ n4_ n5_ n6_
              (try clear hb)
              (try clear hb2)
              (try clear hk)
              (try clear hi)
              (try clear ho0)
              obtain ⟨Ao32, co32, eo32⟩ := Kd.R_slice HO411.out
              (first | subst eo32 | (injection eo32 with f1_ f2_ f3_; have f4_ := f1_.symm; have f5_ := f3_.symm; clear f1_ f2_ f3_; subst f4_; subst f5_))
              refine hK.out _ _ ⟨HS0_, HS1_⟩ (fun hHeld => ?_); clear hK K; refine norm_ (a' := ?_) ?_ ?_; rotate_left
              ·
               show Act.put _ (some 60) _ = _
               simp only [Act.put, zt, zu, zv, i64_w, i32_w]; rfl
              refine one_ (i := 7) (N := some 61) #[T,T,T,T,T,T,T,T,F,F,F,F,F,F,F,F,F,F,F] rfl rfl (one_of HT_.out (by kernel_rfl)) (by decide) (fun K hK => ?_); refine goes_ Try.func20 (by kernel_rfl) rfl #[.slice A408_0 (rd_L8 t392 x51_2).length c408_0, .slice Ao32 t409.length co32] (by rfl) rfl rfl (by (try simp only [List.map_toArray, List.map_cons, List.map_nil]); first | done | rfl | (simp only [List.length_drop, List.length_take]; rfl)) ?_
              with_reducible refine (pl_Ints.calls k2 _ _ (rd_L8 t392 x51_2) _ _ t409 true _ ?side1 ?side2 ?side3 ?side4 A25.out).mono ?_
              (case side1 => repeat (first | exact (by repeat (first | (with_reducible exact HR408_0.out) | (with_reducible refine Kd.C_alloc ?_ _) | (with_reducible refine Kd.C_drewN ?_ _) | (with_reducible refine Kd.C_drew ?_) | exact HR408_0.out)) | (with_reducible refine Kd.C_alloc ?_ _) | (with_reducible refine Kd.C_drewN ?_ _) | (with_reducible refine Kd.C_drew ?_)))
              (case side2 => exact HC408_0.out)
              (case side3 => repeat (first | exact (Kd.R_reads' HO411.out).2.2 | (with_reducible refine Kd.C_alloc ?_ _) | (with_reducible refine Kd.C_drewN ?_ _) | (with_reducible refine Kd.C_drew ?_)))
              (case side4 => exact (Kd.R_reads' HO411.out).2.1)
              rintro e w' ⟨rfl, ⟨nd, rfl⟩⟩; refine ⟨_, rfl, ?_⟩; obtain ⟨Ao33, co33, eo33⟩ := Kd.R_slice HO_6.out
              (first | subst eo33 | (injection eo33 with f1_ f2_ f3_; have f4_ := f1_.symm; have f5_ := f3_.symm; clear f1_ f2_ f3_; subst f4_; subst f5_))
              refine hK.out _ _ ⟨hHeld.1, hHeld.2⟩ (fun hHeld => ?_); clear hK K; refine norm_ (a' := ?_) ?_ ?_; rotate_left
              ·
               show Act.put _ (some 61) _ = _
               simp only [Act.put, zt, zu, zv, i64_w, i32_w]; rfl
              refine pure_ (i := 8) (N := some 62) (v := ?_) (a' := ?_) #[T,T,T,T,T,T,T,T,T,F,F,F,F,F,F,F,F,F,F] rfl rfl (any_of HT_.out (by kernel_rfl)) (fun _ _ _ h => h) (Or.inl ⟨by rfl, ?_⟩) ?_ ?_; rotate_left; (intro w'; go_simp; (with_reducible rfl)); rotate_left; (simp only [Act.put, zt, zu, zv, i64_w, i32_w]; rfl); refine pure_ (i := 9) (N := some 63) (v := ?_) (a' := ?_) #[T,T,T,T,T,T,T,T,T,T,F,F,F,F,F,F,F,F,F] rfl rfl (any_of HT_.out (by kernel_rfl)) (fun _ _ _ h => h) (Or.inl ⟨by rfl, ?_⟩) ?_ ?_; rotate_left; (intro w'; go_simp; (with_reducible rfl)); rotate_left; (simp only [Act.put, zt, zu, zv, i64_w, i32_w]; rfl); refine pure_ (i := 10) (N := some 64) (v := ?_) (a' := ?_) #[T,T,T,T,T,T,T,T,T,T,T,F,F,F,F,F,F,F,F] rfl rfl (any_of HT_.out (by kernel_rfl)) (fun _ _ _ h => h) (Or.inl ⟨by rfl, ?_⟩) ?_ ?_; rotate_left; (intro w'; go_simp; (with_reducible rfl)); rotate_left; (simp only [Act.put, zt, zu, zv, i64_w, i32_w]; rfl); refine pure_ (i := 11) (N := some 65) (v := ?_) (a' := ?_) #[T,T,T,T,T,T,T,T,T,T,T,T,F,F,F,F,F,F,F] rfl rfl (any_of HT_.out (by kernel_rfl)) (fun _ _ _ h => h) (Or.inl ⟨by rfl, ?_⟩) ?_ ?_; rotate_left; (intro w'; go_simp; (with_reducible rfl)); rotate_left; (simp only [Act.put, zt, zu, zv, i64_w, i32_w]; rfl); refine pure_ (i := 12) (N := some 66) (v := ?_) (a' := ?_) #[T,T,T,T,T,T,T,T,T,T,T,T,T,F,F,F,F,F,F] rfl rfl (any_of HT_.out (by kernel_rfl)) (fun _ _ _ h => h) (Or.inl ⟨by rfl, ?_⟩) ?_ ?_; rotate_left; (intro w'; go_simp; (with_reducible rfl)); rotate_left; (simp only [Act.put, zt, zu, zv, i64_w, i32_w]; rfl); refine pure_ (i := 14) (N := some 68) (v := ?_) (a' := ?_) #[T,T,T,T,T,T,T,T,T,T,T,T,T,F,T,F,F,F,F] rfl rfl (any_of HT_.out (by kernel_rfl)) (fun _ _ _ h => h) (Or.inl ⟨by rfl, ?_⟩) ?_ ?_; rotate_left; (intro w'; go_simp; (with_reducible rfl)); rotate_left; (simp only [Act.put, zt, zu, zv, i64_w, i32_w]; rfl); refine pure_ (i := 15) (N := some 69) (v := ?_) (a' := ?_) #[T,T,T,T,T,T,T,T,T,T,T,T,T,F,T,T,F,F,F] rfl rfl (any_of HT_.out (by kernel_rfl)) (fun _ _ _ h => h) (Or.inl ⟨by rfl, ?_⟩) ?_ ?_; rotate_left; (intro w'; go_simp; (with_reducible rfl)); rotate_left; (simp only [Act.put, zt, zu, zv, i64_w, i32_w]; rfl); refine take_ (i := 13) (N := some 67) (v := ?_) (a' := ?_) #[T,T,T,T,T,T,T,T,T,T,T,T,T,T,T,T,F,F,F] rfl rfl (take_ofW HT_.out HW_.out (by kernel_rfl)) (fun _ _ _ h => h) (Or.inl ⟨by rfl, ?_⟩) hHeld ?_ ?_; rotate_left; (rintro w' ⟨s0, s1⟩; go_simp; (with_reducible rfl)); rotate_left; (simp only [Act.put, zt, zu, zv, i64_w, i32_w]; rfl); refine one_ (i := 16) (N := some 70) #[T,T,T,T,T,T,T,T,T,T,T,T,T,T,T,T,T,F,F] rfl rfl (one_of HT_.out (by kernel_rfl)) (by decide) (fun K hK => ?_); refine goes_ Try.func22 (by kernel_rfl) rfl #[.slice A0 l0.length c0, .int .i64 x51_2] (by rfl) rfl rfl (by (try simp only [List.map_toArray, List.map_cons, List.map_nil]); first | done | rfl | (simp only [List.length_drop, List.length_take]; rfl)) ?_
              with_reducible refine (r13_Span.calls k2 _ _ l0 x51_2 t414 _ ?side1 ?side2 A28.out).mono ?_
              (case side1 => repeat (first | exact (Kd.C_below HR0.out (by with_reducible repeat first | exact HB.out | apply zA | apply zN | apply zD)) | (with_reducible refine Kd.C_alloc ?_ _) | (with_reducible refine Kd.C_drewN ?_ _) | (with_reducible refine Kd.C_drew ?_)))
              (case side2 => exact HC0.out)
              rintro e w' ⟨rfl, ⟨nd, rfl⟩⟩; refine ⟨_, rfl, ?_⟩; refine hK.out _ _ ⟨hHeld.1, hHeld.2⟩ (fun hHeld => ?_); clear hK K; refine norm_ (a' := ?_) ?_ ?_; rotate_left
              ·
               show Act.put _ (some 70) _ = _
               simp only [Act.put, zt, zu, zv, i64_w, i32_w]; rfl
              refine pure_ (i := 17) (N := some 71) (v := ?_) (a' := ?_) #[T,T,T,T,T,T,T,T,T,T,T,T,T,T,T,T,T,T,F] rfl rfl (any_of HT_.out (by kernel_rfl)) (fun _ _ _ h => h) (Or.inl ⟨by rfl, ?_⟩) ?_ ?_; rotate_left; (intro w'; go_simp; (with_reducible rfl)); rotate_left; (simp only [Act.put, zt, zu, zv, i64_w, i32_w]; rfl); refine pure_ (i := 18) (N := some 72) (v := ?_) (a' := ?_) #[T,T,T,T,T,T,T,T,T,T,T,T,T,T,T,T,T,T,T] rfl rfl (any_of HT_.out (by kernel_rfl)) (fun _ _ _ h => h) (Or.inl ⟨by rfl, ?_⟩) ?_ ?_; rotate_left; (intro w'; go_simp; (with_reducible rfl)); rotate_left; (simp only [Act.put, zt, zu, zv, i64_w, i32_w]; rfl); refine done_ (done_of HT_.out (by kernel_rfl)) ?_
              try go_wp2
              go_roundg k2
              case measure => have := HJ9.out; have := HK2.out; omega
              case rel => exact ⟨(wrap64 (x51_2 + 1)), (by first | rfl | (simp; done) | (simp [*]; done)), H', ⟨by have := HJ9.out; have := HK2.out; omega⟩, ⟨by (with_reducible repeat (first | apply Kd.S_alloc | apply Kd.S_drewN | apply Kd.S_drew)); exact Kd.S_mono HO_5.out (fun _ hk => ⟨hk.1.1, hk.1.2⟩)⟩, ⟨by (with_reducible repeat (first | apply Kd.R_alloc | apply Kd.R_drewN | apply Kd.R_drew)); exact Kd.R_mono HO_6.out (fun _ hk => hk.1)⟩, ⟨by (with_reducible repeat (first | apply Kd.R_alloc | apply Kd.R_drewN | apply Kd.R_drew)); exact Kd.R_mono HO_7.out (fun _ hk => hk.1)⟩, ⟨by with_reducible repeat first | exact HB.out | apply zA | apply zN | apply zD⟩⟩
             ·
              rw [if_neg c29] at H; have c29b0 := beq_eq_false_iff_ne.mpr c29; have c29b1 := bne_iff_ne.mpr c29; exact absurd ((Option.some.inj H).trans HR_.out) (by decide)
            ·
             rw [if_neg c27] at H; exact absurd H (by simp)
           ·
            replace c26 := Bool.eq_false_iff.mpr c26; subst c26
            have H1 : (some false) = some r := by rw [if_neg (show ¬ (false = true) by decide)] at H; exact H
            clear H; have H := H1; clear H1; exact absurd ((Option.some.inj H).trans HR_.out) (by decide)
          ·
           rw [if_neg c23] at H; exact absurd H (by simp)
         ·
          rw [if_neg c22] at H; exact absurd H (by simp)
        ·
         rw [if_neg c21] at H; have c21b0 := decide_eq_false c21; clear c21; replace H := Option.bind_eq_some_iff.mp H; obtain ⟨t403, A410, H⟩ := H; replace H : ((pl_Ints.f k2 t398 t403).bind fun t406 => (if t406 = true then ((lw_same.f k2).bind fun t407 => (some t407)) else (some false))) = some r := H; have A41 := zk A410; clear A410; replace H := Option.bind_eq_some_iff.mp H; obtain ⟨t406, A420, H⟩ := H; replace H : (if t406 = true then ((lw_same.f k2).bind fun t407 => (some t407)) else (some false)) = some r := H; have A42 := zk A420; clear A420
         by_cases c43 : t406 = true
         ·
          subst c43
          have H1 : ((lw_same.f k2).bind fun t407 => (some t407)) = some r := by rw [if_pos rfl] at H; exact H
          clear H; have H := H1; clear H1; replace H := Option.bind_eq_some_iff.mp H; obtain ⟨t407, A440, H⟩ := H; replace H : (some t407) = some r := H; have A44 := zk A440; clear A440; obtain rfl := Option.some.inj H
          go_wp2_with (first | ((with_reducible refine gk (f := 23) rfl ?_); refine gl (some 77) rfl rfl Try.func23 (by kernel_rfl) rfl #[.slice A0 l0.length c0, .int .i64 a1] rfl (by (try simp only [List.map_toArray, List.map_cons, List.map_nil]); first | done | rfl | (simp only [List.length_drop, List.length_take]; rfl)) ?_; (with_reducible refine (r13_Path.calls k2 _ _ l0 a1 t403 _ ?side1 ?side2 A41.out).mono ?_); (case side1 => repeat (first | exact (Kd.C_below HR0.out HB.out) | (with_reducible refine Kd.C_alloc ?_ _) | (with_reducible refine Kd.C_drewN ?_ _) | (with_reducible refine Kd.C_drew ?_))); (case side2 => exact HC0.out); rintro e w45 ⟨v404, rfl, ho0, hb⟩; refine ⟨_, rfl, ?_⟩; have n0_ := zk (Kd.S_elder' (by (with_reducible repeat (first | apply Kd.S_alloc | apply Kd.S_drewN | apply Kd.S_drew)); exact HO_5.out) (Kd.R_base ho0) hb); have n1_ := zk (Kd.R_elder' (by (with_reducible repeat (first | apply Kd.R_alloc | apply Kd.R_drewN | apply Kd.R_drew)); exact HO_6.out) (Kd.R_base ho0) hb); have n2_ := zk (Kd.R_elder' (by (with_reducible repeat (first | apply Kd.R_alloc | apply Kd.R_drewN | apply Kd.R_drew)); exact HO_7.out) (Kd.R_base ho0) hb); have n3_ := zk (Kd.R_lower (Kd.R_new' (Kd.R_new' ho0 (Kd.R_lt (by (with_reducible repeat (first | apply Kd.R_alloc | apply Kd.R_drewN | apply Kd.R_drew)); exact HO_6.out))) (Kd.R_lt (by (with_reducible repeat (first | apply Kd.R_alloc | apply Kd.R_drewN | apply Kd.R_drew)); exact HO_7.out))) (zq (by with_reducible repeat first | exact HB.out | apply zA | apply zN | apply zD))); have n4_ := zk (zs (by with_reducible repeat first | exact HB.out | apply zA | apply zN | apply zD) hb); clear HO_5; clear HO_6; clear HO_7; clear HB; have HO_5 := n0_; have HO_6 := n1_; have HO_7 := n2_; have HO405 := n3_; have HB := n4_; clear n0_ n1_ n2_ n3_ n4_; (try clear hb); (try clear hb2); (try clear hk); (try clear hi); (try clear ho0); obtain ⟨Ao46, co46, eo46⟩ := Kd.R_slice HO_7.out; subst eo46; obtain ⟨Ao47, co47, eo47⟩ := Kd.R_slice HO405.out; subst eo47) | ((with_reducible refine gk (f := 20) rfl ?_); refine gl (some 78) rfl rfl Try.func20 (by kernel_rfl) rfl #[.slice Ao46 t398.length co46, .slice Ao47 t403.length co47] rfl (by (try simp only [List.map_toArray, List.map_cons, List.map_nil]); first | done | rfl | (simp only [List.length_drop, List.length_take]; rfl)) ?_; (with_reducible refine (pl_Ints.calls k2 _ _ t398 _ _ t403 true _ ?side1 ?side2 ?side3 ?side4 A42.out).mono ?_); (case side1 => repeat (first | exact (Kd.R_reads' HO_7.out).2.2 | (with_reducible refine Kd.C_alloc ?_ _) | (with_reducible refine Kd.C_drewN ?_ _) | (with_reducible refine Kd.C_drew ?_))); (case side2 => exact (Kd.R_reads' HO_7.out).2.1); (case side3 => repeat (first | exact (Kd.R_reads' HO405.out).2.2 | (with_reducible refine Kd.C_alloc ?_ _) | (with_reducible refine Kd.C_drewN ?_ _) | (with_reducible refine Kd.C_drew ?_))); (case side4 => exact (Kd.R_reads' HO405.out).2.1); rintro e w' ⟨rfl, ⟨nd, rfl⟩⟩; refine ⟨_, rfl, ?_⟩) | (go_at_call 8; (with_reducible refine (lw_same.calls k2  t407 _ A44.out).mono ?_); rintro e w48 ⟨rfl, hb⟩; have n0_ := zk (Kd.S_below (by (with_reducible repeat (first | apply Kd.S_alloc | apply Kd.S_drewN | apply Kd.S_drew)); exact HO_5.out) hb); have n1_ := zk (Kd.R_below (by (with_reducible repeat (first | apply Kd.R_alloc | apply Kd.R_drewN | apply Kd.R_drew)); exact HO_6.out) hb); have n2_ := zk (Kd.R_below (by (with_reducible repeat (first | apply Kd.R_alloc | apply Kd.R_drewN | apply Kd.R_drew)); exact HO_7.out) hb); have n3_ := zk (Kd.R_below (by (with_reducible repeat (first | apply Kd.R_alloc | apply Kd.R_drewN | apply Kd.R_drew)); exact HO405.out) hb); have n4_ := zk (zs (by with_reducible repeat first | exact HB.out | apply zA | apply zN | apply zD) hb); clear HO_5; clear HO_6; clear HO_7; clear HO405; clear HB; have HO_5 := n0_; have HO_6 := n1_; have HO_7 := n2_; have HO405 := n3_; have HB := n4_; clear n0_ n1_ n2_ n3_ n4_; (try clear hb); (try clear hb2); (try clear hk); (try clear hi)))
          go_ret; exact ⟨by first | rfl | (simp [wN, wS] <;> rfl) | (simp [*, wN, wS] <;> rfl), by with_reducible repeat first | exact HB.out | apply zA | apply zN | apply zD⟩
         ·
          replace c43 := Bool.eq_false_iff.mpr c43; subst c43
          have H1 : (some false) = some r := by rw [if_neg (show ¬ (false = true) by decide)] at H; exact H
          clear H; have H := H1; clear H1; exact absurd ((Option.some.inj H).trans HR_.out) (by decide)
  ·
   rw [if_neg c9] at H; have c9b0 := beq_eq_false_iff_ne.mpr c9; have c9b1 := bne_iff_ne.mpr c9
   by_cases c52 : (wrap64 ((wrap64 ((t392.length : Int) + (t395.length : Int))) + (t398.length : Int))) = 0
   ·
    rw [if_pos c52] at H; have c52b0 := beq_iff_eq.mpr c52; have c52b1 := bne_eq_false_iff_eq.mpr c52; clear c52; replace H := Option.bind_eq_some_iff.mp H; obtain ⟨t402, A530, H⟩ := H; replace H : (some t402) = some r := H; have A53 := zk A530; clear A530; obtain rfl := Option.some.inj H
    go_enter Try.func4, Try.ntmps4
    go_wp2_with (first | ((with_reducible refine gk (f := 15) rfl ?_); refine gl (some 10) rfl rfl Try.func15 (by kernel_rfl) rfl #[.slice A0 l0.length c0, .int .i64 400] rfl (by (try simp only [List.map_toArray, List.map_cons, List.map_nil]); first | done | rfl | (simp only [List.length_drop, List.length_take]; rfl)) ?_; (with_reducible refine (pl_FewRows.calls k _ _ l0 400 true _ ?side1 ?side2 A3.out).mono ?_); (case side1 => repeat (first | exact HR0.out | (with_reducible refine Kd.C_alloc ?_ _) | (with_reducible refine Kd.C_drewN ?_ _) | (with_reducible refine Kd.C_drew ?_))); (case side2 => exact HC0.out); rintro e w' ⟨rfl, ⟨nd, rfl⟩⟩; refine ⟨_, rfl, ?_⟩) | ((with_reducible refine gk (f := 16) rfl ?_); refine gl (some 14) rfl rfl Try.func16 (by kernel_rfl) rfl #[.slice A0 l0.length c0] rfl (by (try simp only [List.map_toArray, List.map_cons, List.map_nil]); first | done | rfl | (simp only [List.length_drop, List.length_take]; rfl)) ?_; (with_reducible refine (flat_Lists.calls k _ _ l0 t392 _ ?side1 ?side2 A5.out).mono ?_); (case side1 => repeat (first | exact HR0.out | (with_reducible refine Kd.C_alloc ?_ _) | (with_reducible refine Kd.C_drewN ?_ _) | (with_reducible refine Kd.C_drew ?_))); (case side2 => exact HC0.out); rintro e w54 ⟨v393, rfl, ho0, hb⟩; refine ⟨_, rfl, ?_⟩; have n0_ := zk (Kd.S_lower ho0 (zq (by with_reducible repeat first | exact HB.out | apply zA | apply zN | apply zD))); have n1_ := zk (zs (by with_reducible repeat first | exact HB.out | apply zA | apply zN | apply zD) hb); clear HB; have HO394 := n0_; have HB := n1_; clear n0_ n1_; (try clear hb); (try clear hb2); (try clear hk); (try clear hi); (try clear ho0)) | ((with_reducible refine gk (f := 17) rfl ?_); refine gl (some 16) rfl rfl Try.func17 (by kernel_rfl) rfl #[.slice A0 l0.length c0] rfl (by (try simp only [List.map_toArray, List.map_cons, List.map_nil]); first | done | rfl | (simp only [List.length_drop, List.length_take]; rfl)) ?_; (with_reducible refine (flat_Spans.calls k _ _ l0 t395 _ ?side1 ?side2 A6.out).mono ?_); (case side1 => repeat (first | exact (Kd.C_below HR0.out HB.out) | (with_reducible refine Kd.C_alloc ?_ _) | (with_reducible refine Kd.C_drewN ?_ _) | (with_reducible refine Kd.C_drew ?_))); (case side2 => exact HC0.out); rintro e w55 ⟨v396, rfl, ho0, hb⟩; refine ⟨_, rfl, ?_⟩; have n0_ := zk (Kd.S_elder' (by (with_reducible repeat (first | apply Kd.S_alloc | apply Kd.S_drewN | apply Kd.S_drew)); exact HO394.out) (Kd.R_base ho0) hb); have n1_ := zk (Kd.R_lower ho0 (zq (by with_reducible repeat first | exact HB.out | apply zA | apply zN | apply zD))); have n2_ := zk (zs (by with_reducible repeat first | exact HB.out | apply zA | apply zN | apply zD) hb); clear HO394; clear HB; have HO394 := n0_; have HO397 := n1_; have HB := n2_; clear n0_ n1_ n2_; (try clear hb); (try clear hb2); (try clear hk); (try clear hi); (try clear ho0)) | ((with_reducible refine gk (f := 18) rfl ?_); refine gl (some 19) rfl rfl Try.func18 (by kernel_rfl) rfl #[.slice A0 l0.length c0, .int .i64 a1] rfl (by (try simp only [List.map_toArray, List.map_cons, List.map_nil]); first | done | rfl | (simp only [List.length_drop, List.length_take]; rfl)) ?_; (with_reducible refine (flat_Path.calls k _ _ l0 a1 t398 _ ?side1 ?side2 A7.out).mono ?_); (case side1 => repeat (first | exact (Kd.C_below HR0.out HB.out) | (with_reducible refine Kd.C_alloc ?_ _) | (with_reducible refine Kd.C_drewN ?_ _) | (with_reducible refine Kd.C_drew ?_))); (case side2 => exact HC0.out); rintro e w56 ⟨v399, rfl, ho0, hb⟩; refine ⟨_, rfl, ?_⟩; have n0_ := zk (Kd.S_elder' (by (with_reducible repeat (first | apply Kd.S_alloc | apply Kd.S_drewN | apply Kd.S_drew)); exact HO394.out) (Kd.R_base ho0) hb); have n1_ := zk (Kd.R_elder' (by (with_reducible repeat (first | apply Kd.R_alloc | apply Kd.R_drewN | apply Kd.R_drew)); exact HO397.out) (Kd.R_base ho0) hb); have n2_ := zk (Kd.R_lower (Kd.R_new' ho0 (Kd.R_lt (by (with_reducible repeat (first | apply Kd.R_alloc | apply Kd.R_drewN | apply Kd.R_drew)); exact HO397.out))) (zq (by with_reducible repeat first | exact HB.out | apply zA | apply zN | apply zD))); have n3_ := zk (zs (by with_reducible repeat first | exact HB.out | apply zA | apply zN | apply zD) hb); clear HO394; clear HO397; clear HB; have HO394 := n0_; have HO397 := n1_; have HO400 := n2_; have HB := n3_; clear n0_ n1_ n2_ n3_; (try clear hb); (try clear hb2); (try clear hk); (try clear hi); (try clear ho0)) | ((with_reducible refine gk (f := 19) rfl ?_); refine gl (some 21) rfl rfl Try.func19 (by kernel_rfl) rfl #[.slice A0 l0.length c0] rfl (by (try simp only [List.map_toArray, List.map_cons, List.map_nil]); first | done | rfl | (simp only [List.length_drop, List.length_take]; rfl)) ?_; (with_reducible refine (r13_Check.calls k _ _ l0 t401 _ ?side1 ?side2 A8.out).mono ?_); (case side1 => repeat (first | exact (Kd.C_below HR0.out HB.out) | (with_reducible refine Kd.C_alloc ?_ _) | (with_reducible refine Kd.C_drewN ?_ _) | (with_reducible refine Kd.C_drew ?_))); (case side2 => exact HC0.out); rintro e w57 ⟨rfl, hb⟩; refine ⟨_, rfl, ?_⟩; have n0_ := zk (Kd.S_below (by (with_reducible repeat (first | apply Kd.S_alloc | apply Kd.S_drewN | apply Kd.S_drew)); exact HO394.out) hb); have n1_ := zk (Kd.R_below (by (with_reducible repeat (first | apply Kd.R_alloc | apply Kd.R_drewN | apply Kd.R_drew)); exact HO397.out) hb); have n2_ := zk (Kd.R_below (by (with_reducible repeat (first | apply Kd.R_alloc | apply Kd.R_drewN | apply Kd.R_drew)); exact HO400.out) hb); have n3_ := zk (zs (by with_reducible repeat first | exact HB.out | apply zA | apply zN | apply zD) hb); clear HO394; clear HO397; clear HO400; clear HB; have HO394 := n0_; have HO397 := n1_; have HO400 := n2_; have HB := n3_; clear n0_ n1_ n2_ n3_; (try clear hb); (try clear hb2); (try clear hk); (try clear hi); obtain ⟨Ao58, co58, eo58⟩ := Kd.S_slice HO394.out; subst eo58; obtain ⟨Ao59, co59, eo59⟩ := Kd.R_slice HO397.out; subst eo59; obtain ⟨Ao60, co60, eo60⟩ := Kd.R_slice HO400.out; subst eo60) | (go_at_call 8; (with_reducible refine (lw_same.calls k  t402 _ A53.out).mono ?_); rintro e w61 ⟨rfl, hb⟩; have n0_ := zk (Kd.S_below (by (with_reducible repeat (first | apply Kd.S_alloc | apply Kd.S_drewN | apply Kd.S_drew)); exact HO394.out) hb); have n1_ := zk (Kd.R_below (by (with_reducible repeat (first | apply Kd.R_alloc | apply Kd.R_drewN | apply Kd.R_drew)); exact HO397.out) hb); have n2_ := zk (Kd.R_below (by (with_reducible repeat (first | apply Kd.R_alloc | apply Kd.R_drewN | apply Kd.R_drew)); exact HO400.out) hb); have n3_ := zk (zs (by with_reducible repeat first | exact HB.out | apply zA | apply zN | apply zD) hb); clear HO394; clear HO397; clear HO400; clear HB; have HO394 := n0_; have HO397 := n1_; have HO400 := n2_; have HB := n3_; clear n0_ n1_ n2_ n3_; (try clear hb); (try clear hb2); (try clear hk); (try clear hi)))
    go_ret; exact ⟨by first | rfl | (simp [wN, wS] <;> rfl) | (simp [*, wN, wS] <;> rfl), by with_reducible repeat first | exact HB.out | apply zA | apply zN | apply zD⟩
   ·
    rw [if_neg c52] at H; have c52b0 := beq_eq_false_iff_ne.mpr c52; have c52b1 := bne_iff_ne.mpr c52; exact absurd ((Option.some.inj H).trans HR_.out) (by decide)
 ·
  replace c4 := Bool.eq_false_iff.mpr c4; subst c4
  have H1 : ((lw_same.f k).bind fun t391 => (some t391)) = some r := by rw [if_neg (show ¬ (false = true) by decide)] at H; exact H
  clear H; have H := H1; clear H1; replace H := Option.bind_eq_some_iff.mp H; obtain ⟨t391, A690, H⟩ := H; replace H : (some t391) = some r := H; have A69 := zk A690; clear A690; obtain rfl := Option.some.inj H
  go_enter Try.func4, Try.ntmps4
  go_wp2_with (first | ((with_reducible refine gk (f := 15) rfl ?_); refine gl (some 10) rfl rfl Try.func15 (by kernel_rfl) rfl #[.slice A0 l0.length c0, .int .i64 400] rfl (by (try simp only [List.map_toArray, List.map_cons, List.map_nil]); first | done | rfl | (simp only [List.length_drop, List.length_take]; rfl)) ?_; (with_reducible refine (pl_FewRows.calls k _ _ l0 400 false _ ?side1 ?side2 A3.out).mono ?_); (case side1 => repeat (first | exact HR0.out | (with_reducible refine Kd.C_alloc ?_ _) | (with_reducible refine Kd.C_drewN ?_ _) | (with_reducible refine Kd.C_drew ?_))); (case side2 => exact HC0.out); rintro e w' ⟨rfl, ⟨nd, rfl⟩⟩; refine ⟨_, rfl, ?_⟩) | ((with_reducible refine gk (f := 8) rfl ?_); refine gl (some 12) rfl rfl Try.func8 (by kernel_rfl) rfl #[] rfl (by (try simp only [List.map_toArray, List.map_cons, List.map_nil]); first | done | rfl | (simp only [List.length_drop, List.length_take]; rfl)) ?_; (with_reducible refine (lw_same.calls k  t391 _ A69.out).mono ?_); rintro e w70 ⟨rfl, hb⟩; refine ⟨_, rfl, ?_⟩; have n0_ := zk (zs (by with_reducible repeat first | exact HB.out | apply zA | apply zN | apply zD) hb); clear HB; have HB := n0_; clear n0_; (try clear hb); (try clear hb2); (try clear hk); (try clear hi)))
  go_ret; exact ⟨by first | rfl | (simp [wN, wS] <;> rfl) | (simp [*, wN, wS] <;> rfl), by with_reducible repeat first | exact HB.out | apply zA | apply zN | apply zD⟩
end Go.Proofs.Ytcebfldagnjddaa.G
namespace Go.Proofs.Ytcebfldagnjddaa.G
open Go.RowKit Go.Proofs.YtcebfldagnjddaaW.PrintWords Go.Proofs.YtcebfldagnjddaaW.PrintLast Go.Proofs.YtcebfldagnjddaaW.PrintMore
set_option linter.unusedVariables false
set_option linter.unusedSimpArgs false
end Go.Proofs.Ytcebfldagnjddaa.G
namespace Go.Proofs.Ytcebfldagnjddaa.G
open Go.RowKit Go.Proofs.YtcebfldagnjddaaW.PrintWords Go.Proofs.YtcebfldagnjddaaW.PrintLast Go.Proofs.YtcebfldagnjddaaW.PrintMore
attribute [local go_sem] max2_int min2_int max_two min_two max_three min_three max_four min_four
set_option linter.unusedVariables false
set_option linter.unusedSimpArgs false
end Go.Proofs.Ytcebfldagnjddaa.G
namespace Go.Proofs.Ytcebfldagnjddaa.G
open Go.RowKit Go.Proofs.YtcebfldagnjddaaW.PrintWords Go.Proofs.YtcebfldagnjddaaW.PrintLast Go.Proofs.YtcebfldagnjddaaW.PrintMore
attribute [local go_sem] max2_int min2_int max_two min_two max_three min_three max_four min_four
set_option linter.unusedVariables false
set_option linter.unusedSimpArgs false
attribute [local go_sem high] eqA69
end Go.Proofs.Ytcebfldagnjddaa.G
/- slices.EqualFunc at rows by the closure of flat.Same, and flat.Same: their walks. -/
namespace Go.Proofs.Ytcebfldagnjddaa.G
open Go.RowKit Go.Proofs.YtcebfldagnjddaaW.PrintWords Go.Proofs.YtcebfldagnjddaaW.PrintLast Go.Proofs.YtcebfldagnjddaaW.PrintMore
set_option linter.unusedVariables false
set_option linter.unusedSimpArgs false
end Go.Proofs.Ytcebfldagnjddaa.G
namespace Go.Proofs.Ytcebfldagnjddaa.G
open Go.RowKit Go.Proofs.YtcebfldagnjddaaW.PrintWords Go.Proofs.YtcebfldagnjddaaW.PrintLast Go.Proofs.YtcebfldagnjddaaW.PrintMore
attribute [local go_sem] max2_int min2_int max_two min_two max_three min_three max_four min_four
set_option linter.unusedVariables false
set_option linter.unusedSimpArgs false
end Go.Proofs.Ytcebfldagnjddaa.G
namespace Go.Proofs.Ytcebfldagnjddaa.G
open Go.RowKit Go.Proofs.YtcebfldagnjddaaW.PrintWords Go.Proofs.YtcebfldagnjddaaW.PrintLast Go.Proofs.YtcebfldagnjddaaW.PrintMore
set_option linter.unusedVariables false
set_option linter.unusedSimpArgs false
/-- The two variables in memory that last: the result, the node. -/
structure TF (w : World) (g1 g3 : Nat) (r3 : Array Value) (W : World) : Prop where
  b1 : W.heap[g1]? = some (.cells #[.string ⟨#[]⟩, .string ⟨#[]⟩, .string ⟨#[]⟩, .slice none 0 0, .slice none 0 0] 25 (0, 0))
  b3 : W.heap[g3]? = some (.cells r3 25 (0, 0))
  B : Below w.heap.size w W
  l1 : w.heap.size ≤ g1
  l2 : g1 < g3
end Go.Proofs.Ytcebfldagnjddaa.G
namespace Go.Proofs.Ytcebfldagnjddaa.G
open Go.RowKit Go.Proofs.YtcebfldagnjddaaW.PrintWords Go.Proofs.YtcebfldagnjddaaW.PrintLast Go.Proofs.YtcebfldagnjddaaW.PrintMore
attribute [local go_sem] max2_int min2_int max_two min_two max_three min_three max_four min_four
set_option linter.unusedVariables false
set_option linter.unusedSimpArgs false
end Go.Proofs.Ytcebfldagnjddaa.G
namespace Go.Proofs.Ytcebfldagnjddaa.G
open Go.RowKit Go.Proofs.Ytcebfldagnjddaa.Opn Go.Proofs.YtcebfldagnjddaaW.PrintWords
set_option linter.unusedVariables false
set_option maxRecDepth 100000
theorem at_slice2 {α : Type} {P : Program} {n : Nat} {T e : TypeId} {d : Kd α} {Sm : α → Prop} {B : Nat} (ht : P.underlying T = some (.slice e)) (hc : P.cellsOf e = d.sz) (hb : P.bytesOf e = B) (hd : ∀ m, m < n → At P m e d Sm) :
    At P n T (Kd.slice e d) (fun xs => xs.length * B ≤ 140737488351232 ∧ ∀ x ∈ xs, Sm x) := hb ▸ at_slice ht hc hd
structure Sm69 (x : S69) : Prop where
  h0 : x.f0.size ≤ 140737488351232
  h1 : x.f1.size ≤ 140737488351232
theorem at_S69 (n : Nat) : At Try.prog n 69 k69 Sm69 := by
  refine at_imp (at_iso (fun x : S69 => (x.f0, x.f1)) (fun p => ⟨p.1, p.2⟩) (fun _ => rfl) (at_struct (d := (Kd.pair Kd.string Kd.string)) (Sm := fun (p : (ByteArray) × (ByteArray)) => p.1.size ≤ 140737488351232 ∧ p.2.size ≤ 140737488351232) Try.underlying69 (by kernel_rfl) (fun m hm => ?h))) ?k ?s
  case h =>
    refine fields_cons (Sm := fun (q : ByteArray) => q.size ≤ 140737488351232) (Sm2 := fun (p : (ByteArray)) => p.size ≤ 140737488351232) ?_ ?_ ?_ ?_; (rfl)
    · kernel_rfl
    (exact (at_string Try.underlying9)); refine fields_one (Sm := fun (p : (ByteArray)) => p.size ≤ 140737488351232) ?_ ?_ ?_; (rfl)
    · kernel_rfl
    · exact (at_string Try.underlying9)
  case k => exact fun _ _ _ h => h
  case s => exact fun a h => ⟨h.1, h.2⟩
inductive Sm25 : S25 → Prop
  | mk {x : S25} (h0 : x.f0.size ≤ 140737488351232) (h1 : x.f1.size ≤ 140737488351232) (h2 : x.f2.size ≤ 140737488351232) (h3 : (x.f3.length * 32 ≤ 140737488351232 ∧ ∀ y ∈ x.f3, Sm69 y)) (h4 : x.f4.length * 96 ≤ 140737488351232) (h4' : ∀ y ∈ x.f4, Sm25 y) : Sm25 x
structure Sm53 (x : S53) : Prop where
  h0 : (Lit.int .i64 x.f0).wf = true
  h1 : (Lit.int .i64 x.f1).wf = true
  h2 : x.f2.size ≤ 140737488351232
  h3 : x.f3.size ≤ 140737488351232
  h4 : x.f4.size ≤ 140737488351232
  h5 : (x.f5.length * 32 ≤ 140737488351232 ∧ ∀ y ∈ x.f5, Sm69 y)
theorem at_S53 (n : Nat) : At Try.prog n 53 k53 Sm53 := by
  refine at_imp (at_iso (fun x : S53 => (x.f0, x.f1, x.f2, x.f3, x.f4, x.f5)) (fun p => ⟨p.1, p.2.1, p.2.2.1, p.2.2.2.1, p.2.2.2.2.1, p.2.2.2.2.2⟩) (fun _ => rfl) (at_struct (d := (Kd.pair (Kd.int .i64) (Kd.pair (Kd.int .i64) (Kd.pair Kd.string (Kd.pair Kd.string (Kd.pair Kd.string (Kd.slice 69 k69))))))) (Sm := fun (p : (Int) × (Int) × (ByteArray) × (ByteArray) × (ByteArray) × (List (S69))) => (Lit.int .i64 p.1).wf = true ∧ (Lit.int .i64 p.2.1).wf = true ∧ p.2.2.1.size ≤ 140737488351232 ∧ p.2.2.2.1.size ≤ 140737488351232 ∧ p.2.2.2.2.1.size ≤ 140737488351232 ∧ (p.2.2.2.2.2.length * 32 ≤ 140737488351232 ∧ ∀ y ∈ p.2.2.2.2.2, Sm69 y)) Try.underlying53 (by kernel_rfl) (fun m hm => ?h))) ?k ?s
  case h =>
    refine fields_cons (Sm := fun (q : Int) => (Lit.int .i64 q).wf = true) (Sm2 := fun (p : (Int) × (ByteArray) × (ByteArray) × (ByteArray) × (List (S69))) => (Lit.int .i64 p.1).wf = true ∧ p.2.1.size ≤ 140737488351232 ∧ p.2.2.1.size ≤ 140737488351232 ∧ p.2.2.2.1.size ≤ 140737488351232 ∧ (p.2.2.2.2.length * 32 ≤ 140737488351232 ∧ ∀ y ∈ p.2.2.2.2, Sm69 y)) ?_ ?_ ?_ ?_; (rfl)
    · kernel_rfl
    (exact (at_int Try.underlying3)); refine fields_cons (Sm := fun (q : Int) => (Lit.int .i64 q).wf = true) (Sm2 := fun (p : (ByteArray) × (ByteArray) × (ByteArray) × (List (S69))) => p.1.size ≤ 140737488351232 ∧ p.2.1.size ≤ 140737488351232 ∧ p.2.2.1.size ≤ 140737488351232 ∧ (p.2.2.2.length * 32 ≤ 140737488351232 ∧ ∀ y ∈ p.2.2.2, Sm69 y)) ?_ ?_ ?_ ?_; (rfl)
    · kernel_rfl
    (exact (at_int Try.underlying3)); refine fields_cons (Sm := fun (q : ByteArray) => q.size ≤ 140737488351232) (Sm2 := fun (p : (ByteArray) × (ByteArray) × (List (S69))) => p.1.size ≤ 140737488351232 ∧ p.2.1.size ≤ 140737488351232 ∧ (p.2.2.length * 32 ≤ 140737488351232 ∧ ∀ y ∈ p.2.2, Sm69 y)) ?_ ?_ ?_ ?_; (rfl)
    · kernel_rfl
    (exact (at_string Try.underlying9)); refine fields_cons (Sm := fun (q : ByteArray) => q.size ≤ 140737488351232) (Sm2 := fun (p : (ByteArray) × (List (S69))) => p.1.size ≤ 140737488351232 ∧ (p.2.length * 32 ≤ 140737488351232 ∧ ∀ y ∈ p.2, Sm69 y)) ?_ ?_ ?_ ?_; (rfl)
    · kernel_rfl
    (exact (at_string Try.underlying9)); refine fields_cons (Sm := fun (q : ByteArray) => q.size ≤ 140737488351232) (Sm2 := fun (p : (List (S69))) => (p.length * 32 ≤ 140737488351232 ∧ ∀ y ∈ p, Sm69 y)) ?_ ?_ ?_ ?_; (rfl)
    · kernel_rfl
    (exact (at_string Try.underlying9)); refine fields_one (Sm := fun (p : (List (S69))) => (p.length * 32 ≤ 140737488351232 ∧ ∀ y ∈ p, Sm69 y)) ?_ ?_ ?_; (rfl)
    · kernel_rfl
    · exact (at_slice2 Try.underlying22 (by kernel_rfl) (by kernel_rfl) (fun m' hm' => (at_S69 m')))
  case k => exact fun _ _ _ h => h
  case s => exact fun a h => ⟨h.1, h.2.1, h.2.2.1, h.2.2.2.1, h.2.2.2.2.1, h.2.2.2.2.2⟩
theorem weightsEach_head {H : Type} {P : Program} {t : TypeId} {ts : List TypeId} {d : DataW H} {ds : List (DataW H)} {q : Nat → Bool} (h : (DataW.weightsEach P (t :: ts) (d :: ds)).all q = true) : (d.weights P t).all q = true ∧ (DataW.weightsEach P ts ds).all q = true := by
  simpa only [DataW.weightsEach, List.all_append, Bool.and_eq_true] using h
end Go.Proofs.Ytcebfldagnjddaa.G
namespace Go.Proofs.Ytcebfldagnjddaa.Pure
open Go.RowKit Go.Proofs.Ytcebfldagnjddaa.G Go.Proofs.YtcebfldagnjddaaW.PrintWords Go.Proofs.YtcebfldagnjddaaW.PrintLast
set_option linter.unusedVariables false
def Ev {α : Type} (f : Nat → Option α) (r : α) : Prop := ∃ k0, ∀ k, k0 ≤ k → f k = some r
theorem Ev.all {α : Type} {f : Nat → Option α} {r : α} (h : ∀ k, f k = some r) : Ev f r := ⟨0, fun k _ => h k⟩
theorem Ev.pure {α : Type} (r : α) : Ev (fun _ => some r) r := .all fun _ => rfl
theorem Ev.of {α : Type} {f : Nat → Option α} {r : α} (m : ∀ k, LeO (f k) (f (k + 1))) {k : Nat} (h : f k = some r) : Ev f r :=
  ⟨k, fun j hj => by
    obtain ⟨d, rfl⟩ : ∃ d, j = k + d := ⟨j - k, by omega⟩
    clear hj
    induction d with
    | zero => exact h
    | succ d ih => exact m _ _ ih⟩
theorem Ev.step {α : Type} {f g : Nat → Option α} {r : α} (hg : Ev g r) (h : ∀ k, f (k + 1) = g k) : Ev f r := by
  obtain ⟨k0, hk⟩ := hg; exact ⟨k0 + 1, fun k hk' => by obtain ⟨m, rfl⟩ : ∃ m, k = m + 1 := ⟨k - 1, by omega⟩; rw [h]; exact hk m (by omega)⟩
theorem Ev.eq {α : Type} {f g : Nat → Option α} {r : α} (hg : Ev g r) (h : ∀ k, f k = g k) : Ev f r := by
  obtain ⟨k0, hk⟩ := hg; exact ⟨k0, fun k hk' => by rw [h]; exact hk k hk'⟩
theorem Ev.bind {α β : Type} {f : Nat → Option α} {g : Nat → α → Option β} {a : α} {r : β} (hf : Ev f a) (hg : Ev (fun k => g k a) r) : Ev (fun k => (f k).bind (g k)) r := by
  obtain ⟨k0, h0⟩ := hf; obtain ⟨k1, h1⟩ := hg; exact ⟨max k0 k1, fun k hk => by show (f k).bind (g k) = some r; rw [h0 k (by omega)]; exact h1 k (by omega)⟩
theorem Ev.via {α β : Type} {f : Nat → Option α} {g F : Nat → Option β} {a : α} {r : β} (hf : Ev f a) (hg : Ev g r) (h : ∀ k, f k = some a → F (k + 1) = g k) : Ev F r := by
  obtain ⟨k0, h0⟩ := hf; obtain ⟨k1, h1⟩ := hg; exact ⟨max k0 k1 + 1, fun k hk => by obtain ⟨m, rfl⟩ : ∃ m, k = m + 1 := ⟨k - 1, by omega⟩; rw [h m (h0 m (by omega))]; exact h1 m (by omega)⟩
theorem Ev.via0 {α β : Type} {f : Nat → Option α} {g F : Nat → Option β} {a : α} {r : β} (hf : Ev f a) (hg : Ev g r) (h : ∀ k, f k = some a → F k = g k) : Ev F r := by
  obtain ⟨k0, h0⟩ := hf; obtain ⟨k1, h1⟩ := hg; exact ⟨max k0 k1, fun k hk => by rw [h k (h0 k (by omega))]; exact h1 k (by omega)⟩
theorem Ev.ex {α : Type} {f : Nat → Option α} {r : α} (h : Ev f r) : ∃ k, f k = some r := by
  obtain ⟨k0, hk⟩ := h; exact ⟨k0, hk k0 (Nat.le_refl _)⟩
theorem Ev.uniq {α : Type} {f : Nat → Option α} {r s : α} (h : Ev f r) (h' : Ev f s) : r = s := by
  obtain ⟨k0, h0⟩ := h; obtain ⟨k1, h1⟩ := h'; have := (h0 (max k0 k1) (by omega)).symm.trans (h1 (max k0 k1) (by omega)); injection this
theorem w1 {i : Int} (h0 : -1000000000000000000 ≤ i) (h : i ≤ 1000000000000000000) : wrap64 (i + 1) = i + 1 := by unfold wrap64; omega
theorem wm {i : Int} (h0 : -1000000000000000000 ≤ i) (h : i ≤ 1000000000000000000) : wrap64 (i - 1) = i - 1 := by unfold wrap64; omega
theorem ww {i : Int} (h0 : -9000000000000000000 ≤ i) (h : i ≤ 9000000000000000000) : wrap64 i = i := by unfold wrap64; omega
theorem rd42_mem (l : List S69) (i : Int) (h0 : 0 ≤ i) (h : i < l.length) : rd_T69 l i ∈ l := by
  unfold rd_T69; rw [List.getD_eq_getElem?_getD, List.getElem?_eq_getElem (by omega)]; exact List.getElem_mem _
theorem bt_range (s : ByteArray) (i : Int) : 0 ≤ bt s i ∧ bt s i < 256 := by
  unfold bt; split; (have := UInt8.toNat_lt (s[i.toNat]'(by assumption)); constructor <;> omega); (omega)
/-- Is a byte one of a name's? -/
def inner (c : Int) (f : Bool) : Bool := (decide (97 ≤ c) && decide (c ≤ 122)) || (decide (48 ≤ c) && decide (c ≤ 57)) || (c == 45) || (f && ((c == 58) || (c == 46)))
def extra (f : Bool) : ByteArray := if f then ⟨#[45, 58, 46]⟩ else ⟨#[45]⟩
theorem inner_ref (c : Int) (f : Bool) : r02_inner.f c f = some (inner c f) := by
  unfold r02_inner.f inner
  by_cases h1 : 97 ≤ c <;> by_cases h2 : c ≤ 122 <;> by_cases h3 : 48 ≤ c <;> by_cases h4 : c ≤ 57 <;> by_cases h5 : c = 45 <;> by_cases h6 : c = 58 <;> by_cases h7 : c = 46 <;>
    first
      | (exfalso; omega)
      | (cases f <;> simp [h1, h2, h3, h4, h5, h6, h7, show (c == 45) = decide (c = 45) from rfl, show (c == 58) = decide (c = 58) from rfl, show (c == 46) = decide (c = 46) from rfl])
theorem index_extra (f : Bool) : ∀ n : Fin 256, (decide (Lib.indexByte (extra f).data.toList n.1.toUInt8 < 0)) = !((n.1 == 45) || (f && ((n.1 == 58) || (n.1 == 46)))) := by
  cases f <;> decide +kernel
theorem index_lt (c : Int) (h0 : 0 ≤ c) (h1 : c < 256) (f : Bool) : Lib.indexByte (extra f).data.toList c.toNat.toUInt8 < 0 ↔ ((c == 45) || (f && ((c == 58) || (c == 46)))) = false := by
  have := index_extra f ⟨c.toNat, by omega⟩; simp only at this; obtain ⟨n, rfl⟩ : ∃ n : Nat, c = n := ⟨c.toNat, by omega⟩; simp only [Int.toNat_natCast] at this ⊢
  have hd : (Lib.indexByte (extra f).data.toList n.toUInt8 < 0) ↔ decide (Lib.indexByte (extra f).data.toList n.toUInt8 < 0) = true := by simp
  rw [hd, this]
  have h (m : Nat) : ((n : Int) == (m : Int)) = (n == m) := by
    by_cases e : n = m
    · subst e; rw [beq_self_eq_true, beq_self_eq_true]
    · have : ¬ (n : Int) = (m : Int) := by omega
      rw [beq_eq_false_iff_ne.2 this, beq_eq_false_iff_ne.2 e]
  rw [show ((45 : Int) = ((45 : Nat) : Int)) from rfl, show ((58 : Int) = ((58 : Nat) : Int)) from rfl, show ((46 : Int) = ((46 : Nat) : Int)) from rfl, h, h, h]; cases f <;> simp
def NamedOK (s : ByteArray) (f : Bool) : Prop := 1 ≤ s.size ∧ s.size ≤ 32 ∧ 97 ≤ bt s 0 ∧ bt s 0 ≤ 122 ∧ ∀ i : Int, 0 ≤ i → i < s.size → inner (bt s i) f = true
theorem named_prog_l0 (s : ByteArray) (f : Bool) (hs : s.size ≤ 32) (d : Nat) : ∀ i : Int, 0 ≤ i → (s.size : Int) - i = d →
    ∃ b, Ev (fun k => chars_named.l0 k s (extra f) s.size i) b ∧ (b = true ↔ ∀ j : Int, i ≤ j → j < s.size → inner (bt s j) f = true) := by
  induction d with
  | zero =>
    intro i h0 hd; exact ⟨true, (Ev.pure true).step (fun k => by rw [chars_named.l0, if_neg (by omega)]), by simp; intro j h1 h2; omega⟩
  | succ d ih =>
    intro i h0 hd; obtain ⟨b, hb, hi⟩ := ih (i + 1) (by omega) (by omega); have hr := bt_range s i; have hw : wrap64 (i + 1) = i + 1 := w1 (by omega) (by omega)
    by_cases hc : inner (bt s i) f = true
    · refine ⟨b, hb.step (fun k => ?_), ?_⟩
      · rw [chars_named.l0, if_pos (by omega), if_pos h0, if_pos (by omega), hw]
        have hidx := index_lt (bt s i) hr.1 hr.2 f
        simp only [chars_small.f, strings_IndexByte.f]
        simp only [inner, Bool.or_eq_true, Bool.and_eq_true, decide_eq_true_eq, beq_iff_eq] at hc
        simp only [Bool.or_eq_false_iff, beq_eq_false_iff_ne] at hidx
        by_cases c1 : bt s i ≥ 97
        · by_cases c2 : bt s i ≤ 122
          · simp [c1, c2]
          · have hn : ¬ Lib.indexByte (extra f).data.toList (bt s i).toNat.toUInt8 < 0 := by
              rw [hidx]
              cases f <;> simp at hc ⊢ <;> omega
            simp [c1, c2, show ¬ bt s i < 48 by omega, show bt s i > 57 by omega, hn]
        · by_cases c2 : bt s i < 48
          · have hn : ¬ Lib.indexByte (extra f).data.toList (bt s i).toNat.toUInt8 < 0 := by
              rw [hidx]
              cases f <;> simp at hc ⊢ <;> omega
            simp [c1, c2, hn]
          · by_cases c3 : bt s i > 57
            · have hn : ¬ Lib.indexByte (extra f).data.toList (bt s i).toNat.toUInt8 < 0 := by
                rw [hidx]
                cases f <;> simp at hc ⊢ <;> omega
              simp [c1, c2, c3, hn]
            · simp [c1, c2, c3]
      · rw [hi]
        constructor
        · intro h j h1 h2
          by_cases e : j = i
          · subst e; exact hc
          · exact h j (by omega) h2
        · intro h j h1 h2
          exact h j (by omega) h2
    · refine ⟨false, (Ev.pure false).step (fun k => ?_), by simp; exact ⟨i, by omega, by omega, by simpa using hc⟩⟩
      rw [chars_named.l0, if_pos (by omega), if_pos h0, if_pos (by omega)]
      have hidx := index_lt (bt s i) hr.1 hr.2 f
      simp only [chars_small.f, strings_IndexByte.f]
      simp only [inner, Bool.not_eq_true, Bool.or_eq_false_iff, Bool.and_eq_false_iff, decide_eq_false_iff_not, beq_eq_false_iff_ne] at hc
      simp only [Bool.or_eq_false_iff, Bool.and_eq_false_iff, beq_eq_false_iff_ne] at hidx
      have hn : Lib.indexByte (extra f).data.toList (bt s i).toNat.toUInt8 < 0 := by
        rw [hidx]; exact ⟨hc.1.2, hc.2⟩
      by_cases c1 : bt s i ≥ 97
      · have c2 : ¬ bt s i ≤ 122 := by omega
        simp [c1, c2, show ¬ bt s i < 48 by omega, show bt s i > 57 by omega, hn]
      · by_cases c2 : bt s i < 48
        · simp [c1, c2, hn]
        · have c3 : bt s i > 57 := by omega
          simp [c1, c2, c3, hn]
theorem named_ref_l0 (s : ByteArray) (f : Bool) (hs : s.size ≤ 32) (d : Nat) : ∀ i : Int, 0 ≤ i → (s.size : Int) - i = d →
    ∃ b, Ev (fun k => r02_Named.l0 k s f i) b ∧ (b = true ↔ ∀ j : Int, i ≤ j → j < s.size → inner (bt s j) f = true) := by
  induction d with
  | zero =>
    intro i h0 hd; exact ⟨true, (Ev.pure true).step (fun k => by rw [r02_Named.l0, if_neg (by omega)]), by simp; intro j h1 h2; omega⟩
  | succ d ih =>
    intro i h0 hd; obtain ⟨b, hb, hi⟩ := ih (i + 1) (by omega) (by omega); have hw : wrap64 (i + 1) = i + 1 := w1 (by omega) (by omega)
    by_cases hc : inner (bt s i) f = true
    · refine ⟨b, hb.step (fun k => ?_), ?_⟩
      · rw [r02_Named.l0, if_pos (by omega), if_pos h0, hw, inner_ref, hc]
        simp
      · rw [hi]
        constructor
        · intro h j h1 h2
          by_cases e : j = i
          · subst e; exact hc
          · exact h j (by omega) h2
        · intro h j h1 h2
          exact h j (by omega) h2
    · refine ⟨false, (Ev.pure false).step (fun k => ?_), by simp; exact ⟨i, by omega, by omega, by simpa using hc⟩⟩
      rw [r02_Named.l0, if_pos (by omega), if_pos h0, inner_ref]; simp [hc]
theorem toList_nil {s : ByteArray} : s.toList = [] ↔ s.size = 0 := by
  rw [Lib.toList_data]; constructor; (intro h; have := congrArg List.length h; simpa using this); (intro h; exact List.eq_nil_of_length_eq_zero (by simpa using h))
/-- The names' test: both come to the same. -/
theorem named (s : ByteArray) (f : Bool) : ∃ b, Ev (fun k => chars_named.f k s (extra f)) b ∧ Ev (fun k => r02_Named.f k s f) b ∧ (b = true ↔ NamedOK s f) := by
  by_cases h0 : s.size = 0
  · refine ⟨false, (Ev.pure false).step (fun k => ?_), (Ev.pure false).step (fun k => ?_), by simp [NamedOK, h0]⟩
    · rw [chars_named.f, if_pos (toList_nil.2 h0), chars_named.j0, if_pos rfl]
    · rw [r02_Named.f, if_pos (by omega), r02_Named.j0, if_pos rfl]
  by_cases h1 : s.size ≤ 32
  · by_cases h2 : 97 ≤ bt s 0 ∧ bt s 0 ≤ 122
    · have hin : inner (bt s 0) f = true := by simp [inner, h2.1, h2.2]
      obtain ⟨b, hb, hi⟩ := named_prog_l0 s f h1 s.size 0 (by omega) (by omega)
      obtain ⟨b', hb', hi'⟩ := named_ref_l0 s f h1 (s.size - 1) 1 (by omega) (by omega)
      have e : b = b' := by
        rw [Bool.eq_iff_iff, hi, hi']; constructor; (intro h j h3 h4; exact h j (by omega) h4)
        · intro h j h3 h4
          by_cases e : j = 0
          · subst e; exact hin
          · exact h j (by omega) h4
      subst e
      refine ⟨b, hb.step (fun k => ?_), hb'.step (fun k => ?_), ?_⟩
      · rw [chars_named.f, if_neg (fun h => h0 (toList_nil.1 h)), if_neg (by omega), if_pos (by omega), chars_small.f, if_pos h2.1]
        simp only [Option.bind_some, h2.2, decide_true, Bool.not_true]
        rw [chars_named.j0, if_neg (by decide)]
      · rw [r02_Named.f, if_neg (by omega), if_neg (by omega), if_pos (by omega), if_neg (by omega), r02_Named.j0, if_neg (by simp; omega)]
      · rw [hi]
        exact ⟨fun h => ⟨by omega, h1, h2.1, h2.2, fun i h3 h4 => h i h3 h4⟩, fun h i h3 h4 => h.2.2.2.2 i h3 h4⟩
    · refine ⟨false, (Ev.pure false).step (fun k => ?_), (Ev.pure false).step (fun k => ?_), by simp [NamedOK]; intro _ _ h3 h4; exact absurd ⟨h3, h4⟩ h2⟩
      · rw [chars_named.f, if_neg (fun h => h0 (toList_nil.1 h)), if_neg (by omega), if_pos (by omega), chars_small.f]
        by_cases c : bt s 0 ≥ 97
        · rw [if_pos c]
          have : ¬ bt s 0 ≤ 122 := fun h => h2 ⟨c, h⟩
          simp [this, chars_named.j0]
        · rw [if_neg c]
          simp [chars_named.j0]
      · rw [r02_Named.f, if_neg (by omega), if_neg (by omega), if_pos (by omega)]
        by_cases c : bt s 0 < 97
        · rw [if_pos c]
          simp [r02_Named.j0]
        · rw [if_neg c, r02_Named.j0, if_pos (by simp; omega)]
  · refine ⟨false, (Ev.pure false).step (fun k => ?_), (Ev.pure false).step (fun k => ?_), by simp [NamedOK]; intro _ h; exact absurd h h1⟩
    · rw [chars_named.f, if_neg (fun h => h0 (toList_nil.1 h)), if_pos (by omega), chars_named.j0, if_pos rfl]
    · rw [r02_Named.f, if_neg (by omega), if_pos (by omega), r02_Named.j0, if_pos rfl]
theorem drop_bt (s : ByteArray) (i : Int) (h0 : 0 ≤ i) (h : i < s.size) : ∃ b : UInt8, (b.toNat : Int) = bt s i ∧ s.toList.drop i.toNat = b :: s.toList.drop (i + 1).toNat := by
  have hl : s.toList.length = s.size := by rw [Lib.toList_data]; simp
  refine ⟨s.toList[i.toNat]'(by omega), ?_, ?_⟩
  · unfold bt
    rw [dif_pos (by omega)]
    congr 1
    simp only [Lib.toList_data]
    rfl
  · rw [List.drop_eq_getElem_cons (by omega), show (i + 1).toNat = i.toNat + 1 by omega]
theorem compare_l0 (x y : ByteArray) (hx : x.size ≤ 140737488351232) (d : Nat) : ∀ i : Int, 0 ≤ i → i ≤ x.size → i ≤ y.size → (x.size : Int) - i = d →
    ∃ t, Ev (fun k => r02_Compare.l0 k x y i) t ∧ (t > 0 ↔ Op.bytesLess (y.toList.drop i.toNat) (x.toList.drop i.toNat) = true) := by
  have hlx : x.toList.length = x.size := by rw [Lib.toList_data]; simp
  have hly : y.toList.length = y.size := by rw [Lib.toList_data]; simp
  induction d with
  | zero =>
    intro i h0 hix hiy hd; have e : x.toList.drop i.toNat = [] := List.drop_eq_nil_of_le (by omega)
    by_cases c : (x.size : Int) < y.size
    (refine ⟨-1, ((Ev.pure (-1)).step (f := fun k => r02_Compare.j1 k x y i false) (fun k => by rw [r02_Compare.j1, if_neg (by decide), if_pos c])).step (fun k => by rw [r02_Compare.l0, if_neg (by omega)]), ?_⟩; rw [e]; cases y.toList.drop i.toNat <;> simp [Op.bytesLess]); (refine ⟨0, ((Ev.pure 0).step (f := fun k => r02_Compare.j1 k x y i false) (fun k => by rw [r02_Compare.j1, if_neg (by decide), if_neg c, if_neg (by omega)])).step (fun k => by rw [r02_Compare.l0, if_neg (by omega)]), ?_⟩; rw [e]; cases y.toList.drop i.toNat <;> simp [Op.bytesLess])
  | succ d ih =>
    intro i h0 hix hiy hd; obtain ⟨bx, ex, dx⟩ := drop_bt x i h0 (by omega)
    by_cases c : i < (y.size : Int)
    · obtain ⟨by', ey, dy⟩ := drop_bt y i h0 c
      have st (g : Nat → Option Int) (t : Int) (hg : Ev g t) (h : ∀ k, r02_Compare.j1 (k + 1) x y i true = g k) : Ev (fun k => r02_Compare.l0 k x y i) t :=
        (hg.step (f := fun k => r02_Compare.j1 k x y i true) h).step (fun k => by rw [r02_Compare.l0, if_pos (by omega), decide_eq_true c])
      rw [dx, dy]
      have lt {a b : UInt8} : a < b ↔ (a.toNat : Int) < b.toNat := by rw [UInt8.lt_iff_toNat_lt]; omega
      by_cases c1 : bt x i < bt y i
      · refine ⟨-1, st _ _ (Ev.pure (-1)) (fun k => by rw [r02_Compare.j1, if_pos rfl, if_pos h0, if_pos (by omega), if_pos c, if_pos c1]), ?_⟩
        have h1 : ¬ by' < bx := by rw [lt]; omega
        have h2 : ¬ by' = bx := by intro e; subst e; omega
        simp [Op.bytesLess, h1, h2]
      · by_cases c2 : bt x i > bt y i
        · refine ⟨1, st _ _ (Ev.pure 1) (fun k => by rw [r02_Compare.j1, if_pos rfl, if_pos h0, if_pos (by omega), if_pos c, if_neg c1, if_pos c2]), ?_⟩
          have h1 : by' < bx := by rw [lt]; omega
          simp [Op.bytesLess, h1]
        · obtain ⟨t, ht, hi⟩ := ih (i + 1) (by omega) (by omega) (by omega) (by omega)
          refine ⟨t, st _ _ ht (fun k => by rw [r02_Compare.j1, if_pos rfl, if_pos h0, if_pos (by omega), if_pos c, if_neg c1, if_neg c2, w1 (by omega) (by omega)]), ?_⟩
          rw [hi]
          have h2 : by' = bx := by apply UInt8.toNat_inj.1; omega
          subst h2
          have h1 : ¬ by' < by' := by rw [lt]; omega
          simp [Op.bytesLess, h1]
    · have e : y.toList.drop i.toNat = [] := List.drop_eq_nil_of_le (by omega)
      refine ⟨1, ((Ev.pure 1).step (f := fun k => r02_Compare.j1 k x y i false) (fun k => by rw [r02_Compare.j1, if_neg (by decide), if_neg (by omega), if_pos (by omega)])).step (fun k => by rw [r02_Compare.l0, if_pos (by omega), decide_eq_false c]), ?_⟩; rw [dx, e]; simp [Op.bytesLess]
theorem compare (x y : ByteArray) (hx : x.size ≤ 140737488351232) : ∃ t, Ev (fun k => r02_Compare.f k x y) t ∧ (t > 0 ↔ Op.bytesLess y.toList x.toList = true) := by
  obtain ⟨t, ht, hi⟩ := compare_l0 x y hx x.size 0 (by omega) (by omega) (by omega) (by omega); exact ⟨t, ht.eq (fun k => rfl), by simpa using hi⟩
theorem attrs_l0 (l : List S69) (hl : l.length ≤ 140737488351232) (hs : ∀ y ∈ l, Sm69 y) (d : Nat) : ∀ i : Int, 0 ≤ i → (l.length : Int) - i = d →
    ∃ r, Ev (fun k => attrs_Check.l0 k l l l.length i) r ∧ Ev (fun k => r09_Check.l0 k l l.length i) r := by
  induction d with
  | zero =>
    intro i h0 hd; exact ⟨(0, 0), (Ev.pure _).step (fun k => by rw [attrs_Check.l0, if_neg (by omega)]), (Ev.pure _).step (fun k => by rw [r09_Check.l0, if_neg (by omega)])⟩
  | succ d ih =>
    intro i h0 hd; obtain ⟨r, hp, hq⟩ := ih (i + 1) (by omega) (by omega)
    have hi : i < (l.length : Int) := by omega
    have hw : wrap64 (i + 1) = i + 1 := w1 (by omega) (by omega); have hv : wrap64 (i - 1) = i - 1 := wm (by omega) (by omega)
    by_cases c64 : i = 64
    (exact ⟨(i, 12), (Ev.pure _).step (fun k => by rw [attrs_Check.l0, if_pos hi, if_pos h0, if_pos hi, if_pos c64, if_neg (by decide)]), (Ev.pure _).step (fun k => by rw [r09_Check.l0, if_pos hi, if_pos c64])⟩); obtain ⟨b, nb, nb', _⟩ := named (rd_T69 l i).f0 true; have nb : Ev (fun k => chars_Name.f k (rd_T69 l i).f0) b := (nb.bind (g := fun _ t => some t) (Ev.pure b)).eq (fun k => rfl)
    cases b with
    | false =>
      exact ⟨(i, 8), nb.via (Ev.pure _) (fun k hk => by rw [attrs_Check.l0, if_pos hi, if_pos h0, if_pos hi, if_neg c64, hk]; rfl),
        nb'.via (Ev.pure _) (fun k hk => by rw [r09_Check.l0, if_pos hi, if_neg c64, if_pos h0, if_pos hi, hk]; rfl)⟩
    | true =>
    by_cases cf : ((rd_T69 l i).f1.size : Int) ≤ 65536
    case neg =>
      refine ⟨(i, 3), nb.via (Ev.pure _) (fun k hk => ?_), nb'.via (Ev.pure _) (fun k hk => ?_)⟩; (rw [attrs_Check.l0, if_pos hi, if_pos h0, if_pos hi, if_neg c64, hk]; simp [chars_Fits.f, cf]); (rw [r09_Check.l0, if_pos hi, if_neg c64, if_pos h0, if_pos hi, hk]; simp [show ((rd_T69 l i).f1.size : Int) > 65536 by omega])
    by_cases ci : i > 0
    case neg =>
      have p0 : Ev (fun k => attrs_Check.j2 k l i 0 l l.length i false) r := hp.step (fun k => by rw [attrs_Check.j2, if_neg (by decide), if_pos rfl, hw]); have p1 : Ev (fun k => attrs_Check.j1 k l i 0 l l.length i false (rd_T69 l i).f0 (rd_T69 l i).f1) r := p0.step (fun k => by rw [attrs_Check.j1, if_neg (by decide), if_neg ci]); have q1 : Ev (fun k => r09_Check.j1 k l i l.length i false) r := hq.step (fun k => by rw [r09_Check.j1, if_neg (by decide), if_neg ci, hw]); refine ⟨r, nb.via p1 (fun k hk => ?_), nb'.via q1 (fun k hk => ?_)⟩; (rw [attrs_Check.l0, if_pos hi, if_pos h0, if_pos hi, if_neg c64, hk]; simp [chars_Fits.f, cf, show ¬ 0 < i by omega]); (rw [r09_Check.l0, if_pos hi, if_neg c64, if_pos h0, if_pos hi, hk]; simp [show ¬ ((rd_T69 l i).f1.size : Int) > 65536 by omega, show ¬ 0 < i by omega])
    have hvi : 0 ≤ wrap64 (i - 1) ∧ wrap64 (i - 1) < (l.length : Int) := by rw [hv]; omega
    obtain ⟨e, he⟩ : ∃ e, ((rd_T69 l (wrap64 (i - 1))).f0.toList == (rd_T69 l i).f0.toList) = e := ⟨_, rfl⟩
    have fin (r : Int × Int) (p1 : Ev (fun k => attrs_Check.j1 k l i 0 l l.length i e (rd_T69 l i).f0 (rd_T69 l i).f1) r) (q1 : Ev (fun k => r09_Check.j1 k l i l.length i e) r) :
        ∃ r, Ev (fun k => attrs_Check.l0 k l l l.length i) r ∧ Ev (fun k => r09_Check.l0 k l l.length i) r := by
      refine ⟨r, nb.via p1 (fun k hk => ?_), nb'.via q1 (fun k hk => ?_)⟩
      · rw [attrs_Check.l0, if_pos hi, if_pos h0, if_pos hi, if_neg c64, hk]; rw [← he]; simp [chars_Fits.f, cf, show 0 < i by omega, hvi]
      · rw [r09_Check.l0, if_pos hi, if_neg c64, if_pos h0, if_pos hi, hk]; rw [← he]; simp [show ¬ ((rd_T69 l i).f1.size : Int) > 65536 by omega, show 0 < i by omega, hvi]
    cases e with
    | true => exact fin (i, 10) ((Ev.pure _).step (fun k => by rw [attrs_Check.j1, if_pos rfl, if_neg (by decide)])) ((Ev.pure _).step (fun k => by rw [r09_Check.j1, if_pos rfl]))
    | false =>
      obtain ⟨t, ht, hti⟩ := compare (rd_T69 l (wrap64 (i - 1))).f0 (rd_T69 l i).f0 (hs _ (rd42_mem l _ hvi.1 hvi.2)).h0; obtain ⟨b, hb⟩ : ∃ b, Op.bytesLess (rd_T69 l i).f0.toList (rd_T69 l (wrap64 (i - 1))).f0.toList = b := ⟨_, rfl⟩; rw [hb] at hti
      cases b with
      | true =>
        have ht0 : t > 0 := hti.2 rfl; refine fin (i, 9) (((Ev.pure (i, (9 : Int))).step (f := fun k => attrs_Check.j2 k l i 0 l l.length i true) (fun k => by rw [attrs_Check.j2, if_pos rfl, if_neg (by decide)])).step (fun k => by rw [attrs_Check.j1, if_neg (by decide), if_pos ci, if_pos hvi.1, if_pos hvi.2, hb])) ?_; refine (ht.bind (g := fun k t => if t > 0 then some (i, 9) else r09_Check.l0 k l l.length (wrap64 (i + 1))) (Ev.all fun k => by rw [if_pos ht0])).step (fun k => ?_); rw [r09_Check.j1, if_neg (by decide), if_pos ci, if_pos hvi.1, if_pos hvi.2, if_pos h0, if_pos hi]
      | false =>
        have ht0 : ¬ t > 0 := fun h => by have := hti.1 h; cases this
        refine fin r ((hp.step (f := fun k => attrs_Check.j2 k l i 0 l l.length i false) (fun k => by rw [attrs_Check.j2, if_neg (by decide), if_pos rfl, hw])).step (fun k => by rw [attrs_Check.j1, if_neg (by decide), if_pos ci, if_pos hvi.1, if_pos hvi.2, hb])) ?_; refine (ht.bind (g := fun k t => if t > 0 then some (i, 9) else r09_Check.l0 k l l.length (wrap64 (i + 1))) (hq.eq fun k => by rw [if_neg ht0, hw])).step (fun k => ?_); rw [r09_Check.j1, if_neg (by decide), if_pos ci, if_pos hvi.1, if_pos hvi.2, if_pos h0, if_pos hi]
/-- The attributes' test: both come to the same. -/
theorem attrs (l : List S69) (hl : l.length ≤ 140737488351232) (hs : ∀ y ∈ l, Sm69 y) : ∃ r, Ev (fun k => attrs_Check.f k l) r ∧ Ev (fun k => r09_Check.f k l) r := by
  obtain ⟨r, h1, h2⟩ := attrs_l0 l hl hs l.length 0 (by omega) (by omega); exact ⟨r, h1.eq fun k => rfl, h2.eq fun k => rfl⟩
theorem sm_h {x : S25} (h : Sm25 x) : x.f0.size ≤ 140737488351232 ∧ x.f1.size ≤ 140737488351232 ∧ x.f2.size ≤ 140737488351232 ∧ x.f3.length * 32 ≤ 140737488351232 ∧ (∀ y ∈ x.f3, Sm69 y) ∧ x.f4.length * 96 ≤ 140737488351232 ∧ ∀ y ∈ x.f4, Sm25 y := by
  cases h with
  | mk h0 h1 h2 h3 h4 h5 => exact ⟨h0, h1, h2, h3.1, h3.2, h4, h5⟩
/-- What is wrong with a node alone: both come to the same. -/
theorem alone (x : S25) (h : Sm25 x) : ∃ e, Ev (fun k => vtree_wrong.f k x.f0 x.f1 x.f2 x.f3 x.f4) e ∧ Ev (fun k => r11_Alone.f k x.f0 x.f1 x.f2 x.f3 x.f4) e := by
  obtain ⟨s0, s1, s2, s3, s3', _, _⟩ := sm_h h; obtain ⟨b, nb, nb', _⟩ := named x.f0 false; have nb : Ev (fun k => chars_Tag.f k x.f0) b := (nb.bind (g := fun _ t => some t) (Ev.pure b)).eq (fun k => rfl)
  cases b with
  | false =>
    exact ⟨7, nb.via0 (Ev.pure _) (fun k hk => by rw [vtree_wrong.f, hk]; rfl), nb'.via0 (Ev.pure _) (fun k hk => by rw [r11_Alone.f, hk]; rfl)⟩
  | true =>
    have fin (e : Int) (p : Ev (fun k => if (x.f1.size : Int) ≤ 65536 then (if (x.f2.size : Int) ≤ 65536 then (attrs_Check.f k x.f3).bind fun t => some t.2 else some 3) else some 3) e)
        (q : Ev (fun k => if (x.f1.size : Int) ≤ 65536 then (if (x.f2.size : Int) ≤ 65536 then (r09_Check.f k x.f3).bind fun t => some t.2 else some 3) else some 3) e) :
        ∃ e, Ev (fun k => vtree_wrong.f k x.f0 x.f1 x.f2 x.f3 x.f4) e ∧ Ev (fun k => r11_Alone.f k x.f0 x.f1 x.f2 x.f3 x.f4) e := by
      refine ⟨e, nb.via0 p (fun k hk => ?_), nb'.via0 q (fun k hk => ?_)⟩
      · rw [vtree_wrong.f, hk]
        by_cases c1 : (x.f1.size : Int) ≤ 65536 <;> by_cases c2 : (x.f2.size : Int) ≤ 65536 <;> simp [chars_Fits.f, c1, c2]
      · rw [r11_Alone.f, hk]
        have g1 : ((x.f1.size : Int) > 65536) = ¬ ((x.f1.size : Int) ≤ 65536) := by rw [Int.not_le]
        have g2 : ((x.f2.size : Int) > 65536) = ¬ ((x.f2.size : Int) ≤ 65536) := by rw [Int.not_le]
        simp only [g1, g2]
        by_cases c1 : (x.f1.size : Int) ≤ 65536 <;> by_cases c2 : (x.f2.size : Int) ≤ 65536 <;> simp [c1, c2]
    by_cases c1 : (x.f1.size : Int) ≤ 65536
    · by_cases c2 : (x.f2.size : Int) ≤ 65536
      · obtain ⟨r, p, q⟩ := attrs x.f3 (by omega) s3'
        exact fin r.2 ((p.bind (g := fun k t => some t.2) (Ev.pure _)).eq fun k => by rw [if_pos c1, if_pos c2]) ((q.bind (g := fun k t => some t.2) (Ev.pure _)).eq fun k => by rw [if_pos c1, if_pos c2])
      · exact fin 3 (Ev.all fun k => by rw [if_pos c1, if_neg c2]) (Ev.all fun k => by rw [if_pos c1, if_neg c2])
    · exact fin 3 (Ev.all fun k => by rw [if_neg c1]) (Ev.all fun k => by rw [if_neg c1])
mutual
def szT : S25 → Int
  | ⟨_, _, _, _, ks⟩ => 1 + szL ks
def szL : List S25 → Int
  | [] => 0
  | y :: ys => szT y + szL ys
end
mutual
def htT : S25 → Int
  | ⟨_, _, _, _, ks⟩ => 1 + htL ks
def htL : List S25 → Int
  | [] => 0
  | y :: ys => max (htT y) (htL ys)
end
theorem szT_eq (x : S25) : szT x = 1 + szL x.f4 := by cases x; rw [szT]
theorem htT_eq (x : S25) : htT x = 1 + htL x.f4 := by cases x; rw [htT]
open Classical in
noncomputable def wr (x : S25) : Int := if h : ∃ e, Ev (fun k => vtree_wrong.f k x.f0 x.f1 x.f2 x.f3 x.f4) e then h.choose else 0
theorem wr_ev {x : S25} (h : Sm25 x) : Ev (fun k => vtree_wrong.f k x.f0 x.f1 x.f2 x.f3 x.f4) (wr x) ∧ Ev (fun k => r11_Alone.f k x.f0 x.f1 x.f2 x.f3 x.f4) (wr x) := by
  obtain ⟨e, h1, h2⟩ := alone x h; have hx : ∃ e, Ev (fun k => vtree_wrong.f k x.f0 x.f1 x.f2 x.f3 x.f4) e := ⟨e, h1⟩
  have hw : wr x = e := by
    unfold wr; rw [dif_pos hx]; exact Ev.uniq hx.choose_spec h1
  rw [hw]; exact ⟨h1, h2⟩
def next (met : List (List UInt8)) (x : S25) : List (List UInt8) := if x.f1.data.toList = [] then met else x.f1.data.toList :: met
theorem pos_of (x : S25) (h : Sm25 x) : 1 ≤ szT x ∧ 1 ≤ htT x := by
  induction h with
  | @mk x h0 h1 h2 h3 h4 h5 ih =>
    rw [szT_eq, htT_eq]
    have (ks : List S25) (hk : ∀ y ∈ ks, 1 ≤ szT y ∧ 1 ≤ htT y) : 0 ≤ szL ks ∧ 0 ≤ htL ks := by
      induction ks with
      | nil => simp [szL, htL]
      | cons y ys ih2 =>
        have a := hk y (by simp); have b := ih2 (fun z hz => hk z (by simp [hz])); rw [szL, htL]; omega
    have := this x.f4 ih; omega
theorem posL (ks : List S25) (h : ∀ y ∈ ks, Sm25 y) : 0 ≤ szL ks ∧ 0 ≤ htL ks := by
  induction ks with
  | nil => simp [szL, htL]
  | cons y ys ih =>
    have a := pos_of y (h y (by simp)); have b := ih (fun z hz => h z (by simp [hz])); rw [szL, htL]; omega
theorem rd25_drop (l : List S25) (i : Int) (h0 : 0 ≤ i) (h : i < l.length) : l.drop i.toNat = rd_T25 l i :: l.drop (i + 1).toNat := drop_T25 l i h0 h
theorem rd25_mem (l : List S25) (i : Int) (h0 : 0 ≤ i) (h : i < l.length) : rd_T25 l i ∈ l := by
  unfold rd_T25; rw [List.getD_eq_getElem?_getD, List.getElem?_eq_getElem (by omega)]; exact List.getElem_mem _
/-- All nodes have few attributes. -/
inductive FewA : S25 → Prop
  | mk {x : S25} (h3 : x.f3.length ≤ 1000000000) (h4 : ∀ y ∈ x.f4, FewA y) : FewA x
def WT (x : S25) : Prop := ∀ (a1 a2 : Int), 0 ≤ a1 → a1 ≤ 5000 → 0 ≤ a2 → a2 ≤ 81 →
  ∃ r, Ev (fun k => pl_weigh.f k x.f0 x.f1 x.f2 x.f3 x.f4 a1 a2) r ∧ (0 ≤ r → szT x + r ≤ a1 ∧ FewA x)
theorem weigh_l1 (x : S25) (hl : x.f4.length * 96 ≤ 140737488351232) (hs : ∀ y ∈ x.f4, Sm25 y) (hw : ∀ y ∈ x.f4, WT y) (d : Nat) : ∀ (i x1 x2 : Int), 0 ≤ i → (x.f4.length : Int) - i = d → x1 ≤ 5000 → 0 ≤ x2 → x2 ≤ 80 →
    ∃ r, Ev (fun k => pl_weigh.l1 k x1 x2 x.f4.length i x.f0 x.f1 x.f2 x.f3 x.f4) r ∧ (0 ≤ r → szL (x.f4.drop i.toNat) + r ≤ x1 ∧ ∀ y ∈ x.f4.drop i.toNat, FewA y) := by
  induction d with
  | zero =>
    intro i x1 x2 h0 hd h1 h2 h3; refine ⟨x1, (Ev.pure _).step (fun k => by rw [pl_weigh.l1, if_neg (by omega)]), ?_⟩; rw [List.drop_eq_nil_of_le (by omega), szL]
    exact fun _ => ⟨by omega, by simp⟩
  | succ d ih =>
    intro i x1 x2 h0 hd h1 h2 h3
    have hi : i < (x.f4.length : Int) := by omega
    by_cases c : x1 < 0
    · exact ⟨-1, (Ev.pure _).step (fun k => by rw [pl_weigh.l1, if_pos hi, if_pos c]), by omega⟩
    · have hm := rd25_mem x.f4 i h0 hi
      obtain ⟨t, ht, hti⟩ := hw _ hm x1 (x2 + 1) (by omega) h1 (by omega) (by omega)
      have hp := pos_of _ (hs _ hm)
      by_cases ct : t ≤ 5000
      · obtain ⟨r, hr, hri⟩ := ih (i + 1) t x2 (by omega) (by omega) ct h2 h3
        refine ⟨r, ht.via hr (fun k hk => by rw [pl_weigh.l1, if_pos hi, if_neg c, if_pos h0, if_pos hi, w1 (i := x2) (by omega) (by omega), hk, w1 (by omega) (by omega)]; rfl), ?_⟩
        intro hr0
        rw [rd25_drop x.f4 i h0 hi, szL]
        have := posL (x.f4.drop (i + 1).toNat) (fun y hy => hs y (List.mem_of_mem_drop hy))
        have q1 := hri hr0
        have q2 := hti (by omega)
        refine ⟨by omega, fun y hy => ?_⟩
        rcases List.mem_cons.1 hy with rfl | hy
        · exact q2.2
        · exact q1.2 y hy
      · have := hti (by omega)
        omega
theorem tdiv_small {n : Int} (h : 0 ≤ n) : Int.tdiv n 4096 = n / 4096 := Int.tdiv_eq_ediv_of_nonneg h
theorem weigh_l0 (x : S25) (hs : ∀ y ∈ x.f3, Sm69 y) (hl : x.f3.length ≤ 5000) (x2 : Int) (r1 : Int → Int → Prop)
    (hk : ∀ x1 : Int, x1 ≤ 5000 → ∃ r, Ev (fun k => pl_weigh.l1 k x1 x2 x.f4.length 0 x.f0 x.f1 x.f2 x.f3 x.f4) r ∧ (0 ≤ r → szL x.f4 + r ≤ x1 ∧ ∀ y ∈ x.f4, FewA y)) (d : Nat) : ∀ (i x1 : Int), 0 ≤ i → (x.f3.length : Int) - i = d → x1 ≤ 5000 → -(i * 137438953472) ≤ x1 →
    ∃ r, Ev (fun k => pl_weigh.l0 k x1 x2 x.f3.length i x.f0 x.f1 x.f2 x.f3 x.f4) r ∧ (0 ≤ r → szL x.f4 + r ≤ x1 ∧ ∀ y ∈ x.f4, FewA y) := by
  induction d with
  | zero =>
    intro i x1 h0 hd h1 h2; obtain ⟨r, hr, hri⟩ := hk x1 h1; exact ⟨r, hr.step (fun k => by rw [pl_weigh.l0, if_neg (by omega)]), hri⟩
  | succ d ih =>
    intro i x1 h0 hd h1 h2
    have hi : i < (x.f3.length : Int) := by omega
    have hm := hs _ (rd42_mem x.f3 i h0 hi); have m0 := hm.h0; have m1 := hm.h1; have e1 : wrap64 (((rd_T69 x.f3 i).f1.size : Int) / 4096) = ((rd_T69 x.f3 i).f1.size : Int) / 4096 := ww (by omega) (by omega); have e0 : wrap64 (((rd_T69 x.f3 i).f0.size : Int) / 4096) = ((rd_T69 x.f3 i).f0.size : Int) / 4096 := ww (by omega) (by omega); obtain ⟨r, hr, hri⟩ := ih (i + 1) (x1 - ((rd_T69 x.f3 i).f1.size : Int) / 4096 - ((rd_T69 x.f3 i).f0.size : Int) / 4096) (by omega) (by omega) (by omega) (by omega); refine ⟨r, hr.step (fun k => ?_), fun h => ⟨by have := hri h; omega, (hri h).2⟩⟩; rw [pl_weigh.l0, if_pos hi, if_pos h0, if_pos hi, e1, e0, w1 (by omega) (by omega)]; rw [ww (i := x1 - ((rd_T69 x.f3 i).f1.size : Int) / 4096) (by omega) (by omega), ww (by omega) (by omega)]
theorem weigh_T (x : S25) (h : Sm25 x) : WT x := by
  induction h with
  | @mk x s0 s1 s2 s3 s4 s5 ih =>
    intro a1 a2 h0 h1 h2 h3; have e1 : wrap64 ((x.f2.size : Int) + (x.f1.size : Int)) = (x.f2.size : Int) + (x.f1.size : Int) := ww (by omega) (by omega)
    have e2 : wrap64 (Int.tdiv (wrap64 ((x.f2.size : Int) + (x.f1.size : Int))) 4096) = ((x.f2.size : Int) + (x.f1.size : Int)) / 4096 := by
      rw [e1, tdiv_small (by omega)]; exact ww (by omega) (by omega)
    have e3 : wrap64 ((wrap64 ((wrap64 (a1 - 1)) - (x.f3.length : Int))) - (wrap64 (Int.tdiv (wrap64 ((x.f2.size : Int) + (x.f1.size : Int))) 4096))) = a1 - 1 - x.f3.length - ((x.f2.size : Int) + (x.f1.size : Int)) / 4096 := by
      have := s3.1; rw [e2, wm (by omega) (by omega), ww (i := a1 - 1 - (x.f3.length : Int)) (by omega) (by omega), ww (by omega) (by omega)]
    obtain ⟨c, hc⟩ : ∃ c, a1 - 1 - (x.f3.length : Int) - ((x.f2.size : Int) + (x.f1.size : Int)) / 4096 = c := ⟨_, rfl⟩; rw [hc] at e3
    by_cases c0 : c < 0
    · refine ⟨-1, ((Ev.pure (-1)).step (f := fun k => pl_weigh.j0 k c a2 true x.f0 x.f1 x.f2 x.f3 x.f4) (fun k => by rw [pl_weigh.j0, if_pos rfl])).step (fun k => by rw [pl_weigh.f, e3, if_pos c0]), by omega⟩
    by_cases ca : a2 > 80
    · refine ⟨-1, ((Ev.pure (-1)).step (f := fun k => pl_weigh.j0 k c a2 true x.f0 x.f1 x.f2 x.f3 x.f4) (fun k => by rw [pl_weigh.j0, if_pos rfl])).step (fun k => by rw [pl_weigh.f, e3, if_neg c0, decide_eq_true ca]), by omega⟩
    · obtain ⟨r, hr, hri⟩ := weigh_l0 x s3.2 (by omega) a2 (fun _ _ => True) (fun x1 hx1 => by
        obtain ⟨r, hr, hri⟩ := weigh_l1 x s4 s5 ih x.f4.length 0 x1 a2 (by omega) (by omega) hx1 h2 (by omega)
        exact ⟨r, hr, by simpa using hri⟩) x.f3.length 0 c (by omega) (by omega) (by omega) (by omega)
      refine ⟨r, (hr.step (f := fun k => pl_weigh.j0 k c a2 false x.f0 x.f1 x.f2 x.f3 x.f4) (fun k => by rw [pl_weigh.j0, if_neg (by decide)])).step (fun k => by rw [pl_weigh.f, e3, if_neg c0, decide_eq_false ca]), ?_⟩
      intro hr0
      have := hri hr0
      rw [szT_eq]
      exact ⟨by omega, FewA.mk (by omega) this.2⟩
theorem few (x : S25) (h : Sm25 x) (n : Int) (h0 : 0 ≤ n) (h1 : n ≤ 5000) : ∃ b, Ev (fun k => pl_Few.f k x.f0 x.f1 x.f2 x.f3 x.f4 n) b ∧ (b = true → szT x ≤ n ∧ FewA x) := by
  obtain ⟨r, hr, hri⟩ := weigh_T x h n 0 h0 h1 (by omega) (by omega); refine ⟨decide (r ≥ 0), hr.via0 (Ev.pure _) (fun k hk => by rw [pl_Few.f, hk]; rfl), ?_⟩; intro hb; have q := hri (of_decide_eq_true hb); have := of_decide_eq_true hb; exact ⟨by omega, q.2⟩
def BT (x : S25) : Prop := ∀ (l : List S63) (depth u : Int), ∃ new, Ev (fun k => blw1 k l x depth u) (l ++ new) ∧ (∀ it ∈ new, Sm25 it.f0) ∧ (¬ (l.length : Int) > 4096 → ∃ rest, new = ⟨x, depth, u⟩ :: rest)
theorem blwL_ev (ks : List S25) (hb : ∀ y ∈ ks, BT y) : ∀ (l : List S63) (depth u : Int), ∃ new, Ev (fun k => blw k l ks depth u) (l ++ new) ∧ ∀ it ∈ new, Sm25 it.f0 := by
  induction ks with
  | nil => intro l depth u; exact ⟨[], by simpa using (Ev.pure l).step (fun k => rfl), by simp⟩
  | cons y ys ih =>
    intro l depth u
    by_cases c : (l.length : Int) > 4096
    · exact ⟨[], by simpa using (Ev.pure l).step (f := fun k => blw k l (y :: ys) depth u) (fun k => by rw [blw_cons, if_pos c]), by simp⟩
    · obtain ⟨n1, e1, s1, _⟩ := hb y (by simp) l depth u
      obtain ⟨n2, e2, s2⟩ := ih (fun z hz => hb z (by simp [hz])) (l ++ n1) depth u
      refine ⟨n1 ++ n2, e1.via (by rw [← List.append_assoc]; exact e2) (fun k hk => by rw [blw_cons, if_neg c, hk]; rfl), fun it hit => ?_⟩
      rcases List.mem_append.1 hit with h | h
      · exact s1 it h
      · exact s2 it h
theorem blwT_ev (x : S25) (h : Sm25 x) : BT x := by
  induction h with
  | @mk x h0 h1 h2 h3 h4 h5 ih =>
    have hx : Sm25 x := Sm25.mk h0 h1 h2 h3 h4 h5; intro l depth u
    by_cases c : (l.length : Int) > 4096
    · exact ⟨[], by simpa using Ev.all (f := fun k => blw1 k l x depth u) (fun k => by rw [blw1, if_pos c]), by simp, fun h => absurd c h⟩
    · by_cases d : depth > 64
      · exact ⟨[⟨x, depth, u⟩], Ev.all (fun k => by rw [blw1, if_neg c, if_pos d]), by simp [hx], fun _ => ⟨[], rfl⟩⟩
      · obtain ⟨n, e, s⟩ := blwL_ev x.f4 ih (l ++ [⟨x, depth, u⟩]) (depth + 1) l.length
        refine ⟨⟨x, depth, u⟩ :: n, (by simpa using e : Ev (fun k => blw k (l ++ [⟨x, depth, u⟩]) x.f4 (depth + 1) l.length) (l ++ ⟨x, depth, u⟩ :: n)).eq (fun k => by rw [blw1, if_neg c, if_neg d]), fun it hit => ?_, fun _ => ⟨n, rfl⟩⟩
        rcases List.mem_cons.1 hit with h | h
        · rw [h]; exact hx
        · exact s it h
def Twice (L : List S63) (i : Nat) : Prop := ∃ it jt j, j < i ∧ L[i]? = some it ∧ L[j]? = some jt ∧ 0 ≤ it.f2 ∧ jt.f2 = it.f2 ∧ it.f0.f1.data.toList ≠ [] ∧ jt.f0.f1.data.toList = it.f0.f1.data.toList
def OKat (L : List S63) (i : Nat) : Prop := ∃ it, L[i]? = some it ∧ i ≠ 4096 ∧ it.f1 ≤ 64 ∧ wr it.f0 = 0 ∧ ¬ Twice L i
def BadAt (L : List S63) (i : Nat) (e : Int) : Prop := ∃ it, L[i]? = some it ∧ ((i = 4096 ∧ e = 12) ∨ (i ≠ 4096 ∧ it.f1 > 64 ∧ e = 11) ∨ (i ≠ 4096 ∧ it.f1 ≤ 64 ∧ wr it.f0 ≠ 0 ∧ e = wr it.f0) ∨ (i ≠ 4096 ∧ it.f1 ≤ 64 ∧ wr it.f0 = 0 ∧ Twice L i ∧ e = 10))
theorem get_ext {L : List S63} {i : Nat} {it : S63} (h : L[i]? = some it) (E : List S63) : (L ++ E)[i]? = some it := by
  rw [List.getElem?_append_left (List.getElem?_eq_some_iff.1 h).1]; exact h
theorem twice_ext {L : List S63} {i : Nat} (hi : i < L.length) (E : List S63) : Twice (L ++ E) i ↔ Twice L i := by
  unfold Twice; constructor; (rintro ⟨it, jt, j, hj, h1, h2, h3⟩; rw [List.getElem?_append_left hi] at h1; rw [List.getElem?_append_left (by omega)] at h2; exact ⟨it, jt, j, hj, h1, h2, h3⟩); (rintro ⟨it, jt, j, hj, h1, h2, h3⟩; exact ⟨it, jt, j, hj, get_ext h1 E, get_ext h2 E, h3⟩)
theorem OKat.ext {L : List S63} {i : Nat} (h : OKat L i) (E : List S63) : OKat (L ++ E) i := by
  obtain ⟨it, h1, h2, h3, h4, h5⟩ := h; exact ⟨it, get_ext h1 E, h2, h3, h4, fun ht => h5 ((twice_ext (List.getElem?_eq_some_iff.1 h1).1 E).1 ht)⟩
theorem BadAt.ext {L : List S63} {i : Nat} {e : Int} (h : BadAt L i e) (E : List S63) : BadAt (L ++ E) i e := by
  obtain ⟨it, h1, h2⟩ := h; refine ⟨it, get_ext h1 E, ?_⟩; rw [twice_ext (List.getElem?_eq_some_iff.1 h1).1 E]; exact h2
def Met (l : List S63) (u : Int) (met : List (List UInt8)) : Prop := ∀ key, key ∈ met ↔ key ≠ [] ∧ ∃ jt ∈ l, jt.f2 = u ∧ jt.f0.f1.data.toList = key
def md (d : Int) (it : S63) : Int := max d it.f1
/-- What a visit tells, against the list. -/
structure Sim (l new : List S63) (deep : Int) (r : Bool × Int × Int × Int) : Prop where
  sm : ∀ it ∈ new, Sm25 it.f0
  yes : r.1 = true → r.2 = (((l ++ new).length : Int), new.foldl md deep, 0) ∧ (l ++ new).length ≤ 4096 ∧ (∀ i, l.length ≤ i → i < (l ++ new).length → OKat (l ++ new) i) ∧ ∀ it ∈ new, it.f2 < (l ++ new).length
  no : r.1 = false → ∃ p : Nat, r.2.1 = p ∧ l.length ≤ p ∧ p < (l ++ new).length ∧ (∀ i, l.length ≤ i → i < p → OKat (l ++ new) i) ∧ BadAt (l ++ new) p r.2.2.2
def SimT (x : S25) : Prop := ∀ (depth deep : Int) (met : List (List UInt8)) (l : List S63) (u : Int), l.length ≤ 4096 → u < l.length → (u < 0 → met = []) → Met l u met → (∀ jt ∈ l, jt.f2 < l.length) →
  ∃ r rest, Ev (fun k => vis1 k x depth l.length deep met) r ∧ Ev (fun k => blw1 k l x depth u) (l ++ ⟨x, depth, u⟩ :: rest) ∧ Sim l (⟨x, depth, u⟩ :: rest) deep r ∧ (r.1 = true → ∀ it ∈ rest, (l.length : Int) ≤ it.f2)
theorem sim_L (ks : List S25) (hs : ∀ y ∈ ks, Sm25 y) (hv : ∀ y ∈ ks, SimT y) : ∀ (depth deep : Int) (met : List (List UInt8)) (l : List S63) (u : Int), l.length ≤ 4096 → u < l.length → 0 ≤ u → Met l u met → (∀ jt ∈ l, jt.f2 < l.length) →
    ∃ r new, Ev (fun k => vis k ks depth l.length deep met) r ∧ Ev (fun k => blw k l ks depth u) (l ++ new) ∧ Sim l new deep r ∧ (r.1 = true → ∀ it ∈ new, it.f2 = u ∨ (l.length : Int) ≤ it.f2) := by
  induction ks with
  | nil =>
    intro depth deep met l u h0 h1 h2 h3 h4; refine ⟨(true, l.length, deep, 0), [], (Ev.pure _).step (fun k => rfl), by simpa using (Ev.pure l).step (fun k => rfl), ⟨by simp, fun _ => ⟨by simp, by simpa using h0, fun i a b => by simp at b; omega, by simp⟩, by simp⟩, by simp⟩
  | cons y ys ih =>
    intro depth deep met l u h0 h1 h2 h3 h4
    have hc : ¬ (l.length : Int) > 4096 := by omega
    obtain ⟨r1, rest, e1, b1, s1, q1⟩ := hv y (by simp) depth deep met l u h0 h1 (fun h => by omega) h3 h4; obtain ⟨n1, hn1⟩ : ∃ n1, (⟨y, depth, u⟩ : S63) :: rest = n1 := ⟨_, rfl⟩
    have hmem : ∀ it, it ∈ n1 ↔ it = ⟨y, depth, u⟩ ∨ it ∈ rest := by intro it; rw [← hn1]; simp
    rw [hn1] at b1 s1
    cases hr : r1.1 with
    | false =>
      obtain ⟨n2, b2, m2⟩ := blwL_ev ys (fun z hz => blwT_ev z (hs z (by simp [hz]))) (l ++ n1) depth u; obtain ⟨p, p1, p2, p3, p4, p5⟩ := s1.no hr; refine ⟨r1, n1 ++ n2, e1.via (Ev.pure r1) (fun k hk => by rw [vis_cons, hk]; simp [hr]), b1.via (by rw [← List.append_assoc]; exact b2) (fun k hk => by rw [blw_cons, if_neg hc, hk]; rfl), ⟨?_, ?_, ?_⟩, ?_⟩
      · intro it hit
        rcases List.mem_append.1 hit with h | h
        · exact s1.sm it h
        · exact m2 it h
      (intro h; rw [hr] at h; cases h); (intro _; rw [← List.append_assoc]; exact ⟨p, p1, p2, by rw [List.length_append]; omega, fun i a b => (p4 i a b).ext n2, p5.ext n2⟩); (intro h; rw [hr] at h; cases h)
    | true =>
      obtain ⟨y1, y2, y3, y4⟩ := s1.yes hr; have q1 := q1 hr
      have hlen : l.length < (l ++ n1).length := by rw [← hn1]; simp
      obtain ⟨r2, n2, e2, b2, s2, q2⟩ := ih (fun z hz => hs z (by simp [hz])) (fun z hz => hv z (by simp [hz])) depth (n1.foldl md deep) (next met y) (l ++ n1) u y2 (by omega) h2 (by
        intro key
        have hn : key ∈ next met y ↔ key ∈ met ∨ (key ≠ [] ∧ y.f1.data.toList = key) := by
          unfold next
          split
          · next he =>
            constructor; (exact .inl)
            · rintro (h | ⟨h, rfl⟩)
              · exact h
              · exact absurd he h
          · next he =>
            rw [List.mem_cons]; constructor
            · rintro (rfl | h)
              · exact .inr ⟨he, rfl⟩
              · exact .inl h
            · rintro (h | ⟨_, rfl⟩)
              · exact .inr h
              · exact .inl rfl
        rw [hn, h3 key]; constructor
        · rintro (⟨h5, jt, h6, h7⟩ | ⟨h5, h6⟩)
          · exact ⟨h5, jt, List.mem_append_left _ h6, h7⟩
          · exact ⟨h5, ⟨y, depth, u⟩, List.mem_append_right _ ((hmem _).2 (.inl rfl)), rfl, h6⟩
        · rintro ⟨h5, jt, h6, h7, h8⟩
          rcases List.mem_append.1 h6 with h | h
          · exact .inl ⟨h5, jt, h, h7, h8⟩
          · rcases (hmem _).1 h with rfl | h
            · exact .inr ⟨h5, h8⟩
            · have := q1 jt h
              omega) (by
        intro jt hjt
        rcases List.mem_append.1 hjt with h | h
        · have := h4 jt h; omega
        · exact y4 jt h)
      refine ⟨r2, n1 ++ n2, e1.via e2 (fun k hk => by rw [vis_cons, hk]; simp only [Option.bind_some, hr, if_true, y1]; rfl), b1.via (by rw [← List.append_assoc]; exact b2) (fun k hk => by rw [blw_cons, if_neg hc, hk]; rfl), ⟨?_, ?_, ?_⟩, ?_⟩
      · intro it hit
        rcases List.mem_append.1 hit with h | h
        · exact s1.sm it h
        · exact s2.sm it h
      · intro h
        obtain ⟨z1, z2, z3, z4⟩ := s2.yes h
        rw [← List.append_assoc, List.foldl_append]
        refine ⟨z1, z2, fun i a b => ?_, fun it hit => ?_⟩
        · rcases Nat.lt_or_ge i (l ++ n1).length with c | c
          · exact (y3 i a c).ext n2
          · exact z3 i c b
        · rcases List.mem_append.1 hit with h | h
          · have := y4 it h
            rw [List.length_append]
            omega
          · exact z4 it h
      · intro h
        obtain ⟨p, p1, p2, p3, p4, p5⟩ := s2.no h
        rw [← List.append_assoc]
        refine ⟨p, p1, by omega, p3, fun i a b => ?_, p5⟩
        rcases Nat.lt_or_ge i (l ++ n1).length with c | c
        · exact (y3 i a c).ext n2
        · exact p4 i c b
      · intro h it hit
        rcases List.mem_append.1 hit with g | g
        · rcases (hmem _).1 g with rfl | g
          · exact .inl rfl
          · exact .inr (q1 it g)
        · rcases q2 h it g with g | g
          · exact .inl g
          · exact .inr (by omega)
theorem sim_T (x : S25) (h : Sm25 x) : SimT x := by
  induction h with
  | @mk x h0 h1 h2 h3 h4 h5 ih =>
    have hx : Sm25 x := Sm25.mk h0 h1 h2 h3 h4 h5; intro depth deep met l u c0 c1 c2 c3 c4; obtain ⟨it, hit⟩ : ∃ it : S63, (⟨x, depth, u⟩ : S63) = it := ⟨_, rfl⟩
    have i0 : it.f0 = x := by rw [← hit]
    have i1 : it.f1 = depth := by rw [← hit]
    have i2 : it.f2 = u := by rw [← hit]
    have hc : ¬ (l.length : Int) > 4096 := by omega
    have hget (rest : List S63) : (l ++ it :: rest)[l.length]? = some it := by simp
    have hget2 (rest : List S63) (j : Nat) (hj : j < l.length) : (l ++ it :: rest)[j]? = some (l[j]) := by rw [List.getElem?_append_left hj, List.getElem?_eq_getElem hj]
    obtain ⟨w1, _⟩ := wr_ev hx
    have fin (e0 : Int) (hE : Ev (fun k => visE k x depth l.length) e0) (hne : visX e0 x.f1.data.toList met ≠ 0) (hno : ∀ rest, BadAt (l ++ it :: rest) l.length (visX e0 x.f1.data.toList met)) :
        ∃ r rest, Ev (fun k => vis1 k x depth l.length deep met) r ∧ Ev (fun k => blw1 k l x depth u) (l ++ ⟨x, depth, u⟩ :: rest) ∧ Sim l (⟨x, depth, u⟩ :: rest) deep r ∧ (r.1 = true → ∀ it ∈ rest, (l.length : Int) ≤ it.f2) := by
      obtain ⟨new, b, s, hrest⟩ := blwT_ev x hx l depth u
      obtain ⟨rest, rfl⟩ := hrest hc
      refine ⟨(false, l.length, max deep depth, visX e0 x.f1.data.toList met), rest, hE.via0 (Ev.pure _) (fun k hk => by rw [vis1, if_pos h1, hk]; simp only [Option.bind_some]; rw [if_pos hne]), b, ⟨s, by simp, fun _ => ⟨l.length, rfl, Nat.le_refl _, by simp, fun i a b => by omega, ?_⟩⟩, by simp⟩
      rw [hit]
      exact hno rest
    by_cases cn : (l.length : Int) = 4096
    · exact fin 12 (Ev.all fun k => by rw [visE, if_pos cn]) (by rw [visX_ne (by decide)]; decide) (fun rest => ⟨it, hget rest, .inl ⟨by omega, by rw [visX_ne (by decide)]⟩⟩)
    by_cases cd : depth > 64
    (exact fin 11 (Ev.all fun k => by rw [visE, if_neg cn, if_pos cd]) (by rw [visX_ne (by decide)]; decide) (fun rest => ⟨it, hget rest, .inr (.inl ⟨by omega, by omega, by rw [visX_ne (by decide)]⟩)⟩)); have hE : Ev (fun k => visE k x depth l.length) (wr x) := w1.eq (fun k => by rw [visE, if_neg cn, if_neg cd])
    by_cases cw : wr x = 0
    case neg => exact fin (wr x) hE (by rw [visX_ne cw]; exact cw) (fun rest => ⟨it, hget rest, .inr (.inr (.inl ⟨by omega, by omega, by rw [i0]; exact cw, by rw [visX_ne cw, i0]⟩))⟩)
    have htw (rest : List S63) : Twice (l ++ it :: rest) l.length ↔ x.f1.data.toList ∈ met := by
      constructor; (rintro ⟨a, jt, j, hj, g1, g2, g3, g4, g5, g6⟩; rw [hget rest] at g1; cases g1; rw [hget2 rest j hj] at g2; cases g2; rw [i0] at g5 g6; rw [i2] at g4; exact (c3 _).2 ⟨g5, l[j], List.getElem_mem _, g4, g6⟩)
      · intro hk
        obtain ⟨g1, jt, g2, g3, g4⟩ := (c3 _).1 hk
        obtain ⟨j, hj, rfl⟩ := List.getElem_of_mem g2
        have hu : 0 ≤ u := by
          rcases Int.lt_or_le u 0 with h | h
          (rw [c2 h] at hk; cases hk); (exact h)
        exact ⟨it, l[j], j, hj, hget rest, hget2 rest j hj, by omega, by rw [g3, i2], by rw [i0]; exact g1, by rw [g4, i0]⟩
    by_cases ck : x.f1.data.toList ∈ met
    · exact fin (wr x) hE (by rw [visX, if_pos ⟨cw, ck⟩]; decide) (fun rest => ⟨it, hget rest, .inr (.inr (.inr ⟨by omega, by omega, by rw [i0]; exact cw, (htw rest).2 ck, by rw [visX, if_pos ⟨cw, ck⟩]⟩))⟩)
    have hX : visX (wr x) x.f1.data.toList met = 0 := by rw [visX, if_neg (fun h => ck h.2)]; exact cw
    have hl1 : (l ++ [it]).length = l.length + 1 := by simp
    obtain ⟨r, new, e, b, s, q⟩ := sim_L x.f4 h5 ih (depth + 1) (max deep depth) [] (l ++ [it]) l.length (by omega) (by omega) (by omega) (by
      intro key; simp only [List.not_mem_nil, false_iff]; rintro ⟨_, jt, g1, g2, _⟩
      rcases List.mem_append.1 g1 with g | g
      · have := c4 jt g; omega
      · simp at g
        subst g
        omega) (by
      intro jt g1
      rcases List.mem_append.1 g1 with g | g
      · have := c4 jt g; omega
      · simp at g
        subst g
        omega)
    have hap : l ++ [it] ++ new = l ++ it :: new := by simp
    have hcast : (((l ++ [it]).length : Nat) : Int) = (l.length : Int) + 1 := by omega
    rw [hcast] at e; rw [hap] at b; have hok : OKat (l ++ it :: new) l.length := ⟨it, hget new, by omega, by omega, by rw [i0]; exact cw, fun h => ck ((htw new).1 h)⟩; refine ⟨r, new, hE.via0 e (fun k hk => by rw [vis1, if_pos h1, hk]; simp only [Option.bind_some]; rw [if_neg (by rw [hX]; decide)]), ?_, ⟨?_, ?_, ?_⟩, ?_⟩; (rw [hit]; exact b.eq (fun k => by rw [blw1, if_neg hc, if_neg cd, hit]))
    · rw [hit]
      intro jt hjt
      rcases List.mem_cons.1 hjt with rfl | g
      · rw [i0]; exact hx
      · exact s.sm jt g
    · rw [hit]
      intro hr
      obtain ⟨z1, z2, z3, z4⟩ := s.yes hr
      rw [hap] at z1 z2 z3 z4
      refine ⟨?_, z2, fun i a b => ?_, fun jt hjt => ?_⟩
      · rw [z1, List.foldl_cons]
        have : md deep it = max deep depth := by unfold md; rw [i1]
        rw [this]
      · rcases Nat.eq_or_lt_of_le a with rfl | a
        · exact hok
        · exact z3 i (by omega) b
      · rcases List.mem_cons.1 hjt with rfl | g
        · simp only [List.length_append, List.length_cons]
          omega
        · exact z4 jt g
    · rw [hit]
      intro hr
      obtain ⟨p, p1, p2, p3, p4, p5⟩ := s.no hr
      rw [hap] at p3 p4 p5
      refine ⟨p, p1, by omega, p3, fun i a b => ?_, p5⟩
      rcases Nat.eq_or_lt_of_le a with rfl | a
      · exact hok
      · exact p4 i (by omega) b
    · intro hr jt hjt
      rcases q hr jt hjt with g | g
      · omega
      · omega
theorem rd53_mem (l : List S53) (i : Int) (h0 : 0 ≤ i) (h : i < l.length) : rd_T53 l i ∈ l := by
  unfold rd_T53; rw [List.getD_eq_getElem?_getD, List.getElem?_eq_getElem (by omega)]; exact List.getElem_mem _
theorem drp53 (xs : List S53) (i : Int) (h0 : 0 ≤ i) (hi : i < xs.length) : xs.drop i.toNat = rd_T53 xs i :: xs.drop (i + 1).toNat := by
  have e : (i + 1).toNat = i.toNat + 1 := by omega
  rw [e, List.drop_eq_getElem_cons (by omega)]; unfold rd_T53; rw [List.getD_eq_getElem?_getD, List.getElem?_eq_getElem (by omega)]; rfl
theorem same_ev : Ev (fun k => lw_same.f k) true := Ev.of (fun k => lw_same.mono k) (k := 40) (by decide +kernel)
theorem fewR_l1 (Q : Prop) (l : List S53) (hl : l.length * 88 ≤ 140737488351232) (hs : ∀ y ∈ l, Sm53 y) (n : Int) (hn0 : 0 ≤ n) (hn : n ≤ 5000) (i : Int) (h0 : 0 ≤ i) (hi : i < l.length)
    (hk : ∀ x : Int, x ≤ n - (i + 1) → -4503599627370496 ≤ x → ∃ b, Ev (fun k => pl_FewRows.l0 k l x l.length (i + 1)) b ∧ (b = true → Q)) (hf : ((rd_T53 l i).f5.length : Int) ≤ 5000) (d : Nat) :
    ∀ (j y : Int), 0 ≤ j → ((rd_T53 l i).f5.length : Int) - j = d → y ≤ n - (i + 1) → -(j * 274877906944) ≤ y → ∃ b, Ev (fun k => pl_FewRows.l1 k l y i l.length i ((rd_T53 l i).f5.length : Int) j) b ∧ (b = true → Q) := by
  induction d with
  | zero =>
    intro j y hj0 hd hy1 hy2; obtain ⟨b, hb, hbi⟩ := hk y hy1 (by omega); exact ⟨b, hb.step (fun k => by rw [pl_FewRows.l1, if_neg (by omega), w1 (by omega) (by omega)]), hbi⟩
  | succ d ih =>
    intro j y hj0 hd hy1 hy2
    have hj : j < ((rd_T53 l i).f5.length : Int) := by omega
    have hm := (hs _ (rd53_mem l i h0 hi)).h5.2 _ (rd42_mem (rd_T53 l i).f5 j hj0 hj); have m0 := hm.h0; have m1 := hm.h1
    have e1 : wrap64 (Int.tdiv (wrap64 ((((rd_T69 (rd_T53 l i).f5 j).f1).size : Int) + (((rd_T69 (rd_T53 l i).f5 j).f0).size : Int))) 4096) = ((((rd_T69 (rd_T53 l i).f5 j).f1).size : Int) + (((rd_T69 (rd_T53 l i).f5 j).f0).size : Int)) / 4096 := by
      rw [ww (i := (((rd_T69 (rd_T53 l i).f5 j).f1).size : Int) + (((rd_T69 (rd_T53 l i).f5 j).f0).size : Int)) (by omega) (by omega), Int.tdiv_eq_ediv_of_nonneg (by omega)]; exact ww (by omega) (by omega)
    obtain ⟨b, hb, hbi⟩ := ih (j + 1) (y - ((((rd_T69 (rd_T53 l i).f5 j).f1).size : Int) + (((rd_T69 (rd_T53 l i).f5 j).f0).size : Int)) / 4096) (by omega) (by omega) (by omega) (by omega)
    exact ⟨b, hb.step (fun k => by
      rw [pl_FewRows.l1, if_pos hj, if_pos h0, if_pos hi, if_pos hj0, if_pos hj, e1, ww (i := y - _) (by omega) (by omega), w1 (by omega) (by omega)]), hbi⟩
theorem fewR_l0 (l : List S53) (hl : l.length * 88 ≤ 140737488351232) (hs : ∀ y ∈ l, Sm53 y) (n : Int) (hn0 : 0 ≤ n) (hn : n ≤ 5000) (d : Nat) :
    ∀ (i x : Int), 0 ≤ i → (l.length : Int) - i = d → x ≤ n - i → -4503599627370496 ≤ x → ∃ b, Ev (fun k => pl_FewRows.l0 k l x l.length i) b ∧ (b = true → (l.length : Int) ≤ n ∧ ∀ j, i ≤ j → j < l.length → ((rd_T53 l j).f5.length : Int) ≤ 5000) := by
  induction d with
  | zero =>
    intro i x h0 hd hx1 hx2; refine ⟨decide (x ≥ 0), (Ev.pure _).step (fun k => by rw [pl_FewRows.l0, if_neg (by omega)]), fun hb => ?_⟩; have := of_decide_eq_true hb; exact ⟨by omega, fun j h1 h2 => by omega⟩
  | succ d ih =>
    intro i x h0 hd hx1 hx2
    have hi : i < (l.length : Int) := by omega
    have hm := hs _ (rd53_mem l i h0 hi); have m2 := hm.h2; have m3 := hm.h3; have m4 := hm.h4; have m5 := hm.h5.1
    have e2 : wrap64 (Int.tdiv (wrap64 ((wrap64 ((((rd_T53 l i).f4).size : Int) + (((rd_T53 l i).f3).size : Int))) + (((rd_T53 l i).f2).size : Int))) 4096) = ((((rd_T53 l i).f4).size : Int) + (((rd_T53 l i).f3).size : Int) + (((rd_T53 l i).f2).size : Int)) / 4096 := by
      rw [ww (i := (((rd_T53 l i).f4).size : Int) + (((rd_T53 l i).f3).size : Int)) (by omega) (by omega), ww (i := _ + (((rd_T53 l i).f2).size : Int)) (by omega) (by omega), Int.tdiv_eq_ediv_of_nonneg (by omega)]; exact ww (by omega) (by omega)
    have e3 : wrap64 ((wrap64 ((wrap64 (x - 1)) - (((rd_T53 l i).f5).length : Int))) - (wrap64 (Int.tdiv (wrap64 ((wrap64 ((((rd_T53 l i).f4).size : Int) + (((rd_T53 l i).f3).size : Int))) + (((rd_T53 l i).f2).size : Int))) 4096))) = x - 1 - (((rd_T53 l i).f5).length : Int) - ((((rd_T53 l i).f4).size : Int) + (((rd_T53 l i).f3).size : Int) + (((rd_T53 l i).f2).size : Int)) / 4096 := by
      rw [e2, wm (by omega) (by omega), ww (i := x - 1 - (((rd_T53 l i).f5).length : Int)) (by omega) (by omega), ww (by omega) (by omega)]
    obtain ⟨c, hc⟩ : ∃ c, x - 1 - (((rd_T53 l i).f5).length : Int) - ((((rd_T53 l i).f4).size : Int) + (((rd_T53 l i).f3).size : Int) + (((rd_T53 l i).f2).size : Int)) / 4096 = c := ⟨_, rfl⟩; rw [hc] at e3
    by_cases c0 : c < 0
    · exact ⟨false, (Ev.pure false).step (fun k => by rw [pl_FewRows.l0, if_pos hi, if_pos h0, if_pos hi, e3, if_pos c0]), by simp⟩
    · obtain ⟨b, hb, hbi⟩ := fewR_l1 _ l hl hs n hn0 hn i h0 hi (fun x hx1 hx2 => ih (i + 1) x (by omega) (by omega) hx1 hx2) (by omega) ((rd_T53 l i).f5.length) 0 c (by omega) (by omega) (by omega) (by omega)
      exact ⟨b, hb.step (fun k => by rw [pl_FewRows.l0, if_pos hi, if_pos h0, if_pos hi, e3, if_neg c0]), fun h => ⟨(hbi h).1, fun j h1 h2 => by
        rcases Int.lt_or_eq_of_le h1 with h3 | rfl
        · exact (hbi h).2 j (by omega) h2
        · omega⟩⟩
theorem fewR2 (l : List S53) (hl : l.length * 88 ≤ 140737488351232) (hs : ∀ y ∈ l, Sm53 y) (n : Int) (hn0 : 0 ≤ n) (hn : n ≤ 5000) : ∃ b, Ev (fun k => pl_FewRows.f k l n) b ∧ (b = true → (l.length : Int) ≤ n ∧ ∀ j : Int, 0 ≤ j → j < l.length → ((rd_T53 l j).f5.length : Int) ≤ 5000) := by
  obtain ⟨b, hb, hbi⟩ := fewR_l0 l hl hs n hn0 hn l.length 0 n (by omega) (by omega) (by omega) (by omega); exact ⟨b, hb, hbi⟩
theorem rd48 {L : List S63} {i : Nat} {it : S63} (h : L[i]? = some it) : rd_T63 L (i : Int) = it := by
  unfold rd_T63; rw [List.getD_eq_getElem?_getD, Int.toNat_natCast, h]; rfl
theorem lt48 {L : List S63} {i : Nat} {it : S63} (h : L[i]? = some it) : i < L.length := (List.getElem?_eq_some_iff.1 h).1
/-- The keys' round. -/
theorem chk_l1 (L : List S63) (hL : L.length ≤ 4097) (i : Nat) (it : S63) (hi : L[i]? = some it) (d : Nat) : ∀ j : Nat, i - j = d → j ≤ i →
    ((∃ jt k, j ≤ k ∧ k < i ∧ L[k]? = some jt ∧ 0 ≤ it.f2 ∧ jt.f2 = it.f2 ∧ it.f0.f1.data.toList ≠ [] ∧ jt.f0.f1.data.toList = it.f0.f1.data.toList) → Ev (fun k => r11_Check.l1 k L i L.length i i j) ((i : Int), 10)) ∧
    (¬ (∃ jt k, j ≤ k ∧ k < i ∧ L[k]? = some jt ∧ 0 ≤ it.f2 ∧ jt.f2 = it.f2 ∧ it.f0.f1.data.toList ≠ [] ∧ jt.f0.f1.data.toList = it.f0.f1.data.toList) → ∀ r, Ev (fun k => r11_Check.l0 k L L.length ((i + 1 : Nat) : Int)) r → Ev (fun k => r11_Check.l1 k L i L.length i i j) r) := by
  have hil := lt48 hi; have hrd := rd48 hi
  induction d with
  | zero =>
    intro j hd hj; refine ⟨fun ⟨jt, k, h1, h2, _⟩ => by omega, fun _ r hr => hr.step (fun k => by rw [r11_Check.l1, if_neg (by omega), w1 (by omega) (by omega)]; rfl)⟩
  | succ d ih =>
    intro j hd hj; obtain ⟨ih1, ih2⟩ := ih (j + 1) (by omega) (by omega); obtain ⟨jt, hjt⟩ : ∃ jt, L[j]? = some jt := ⟨_, List.getElem?_eq_getElem (by omega)⟩
    have hw : wrap64 ((j : Int) + 1) = ((j + 1 : Nat) : Int) := by rw [w1 (by omega) (by omega)]; rfl
    have hrj := rd48 hjt
    have a1 : (j : Int) < (i : Int) := by omega
    have a2 : (0 : Int) ≤ (i : Int) := by omega
    have a3 : (i : Int) < (L.length : Int) := by omega
    have a4 : (0 : Int) ≤ (j : Int) := by omega
    have a5 : (j : Int) < (L.length : Int) := by omega
    by_cases c : 0 ≤ it.f2 ∧ jt.f2 = it.f2 ∧ it.f0.f1.data.toList ≠ [] ∧ jt.f0.f1.data.toList = it.f0.f1.data.toList
    · refine ⟨fun _ => (Ev.pure _).step (fun k => ?_), fun h => absurd ⟨jt, j, Nat.le_refl _, by omega, hjt, c⟩ h⟩
      rw [r11_Check.l1, if_pos (by omega), if_pos (by omega), if_pos (by omega), hrd, if_pos c.1, if_pos (by omega), if_pos (by omega), hrj, if_pos c.2.1, Lib.toList_data, if_neg c.2.2.1, Lib.toList_data, if_pos c.2.2.2]
    · have hstep (k : Nat) : r11_Check.l1 (k + 1) L i L.length i i j = r11_Check.l1 k L i L.length i i ((j + 1 : Nat) : Int) := by
        rw [r11_Check.l1, if_pos a1, if_pos a2, if_pos a3, hrd]
        by_cases d1 : it.f2 ≥ 0
        · rw [if_pos d1, if_pos a4, if_pos a5, hrj]
          by_cases d2 : jt.f2 = it.f2
          · rw [if_pos d2, Lib.toList_data]
            by_cases d3 : it.f0.f1.data.toList = []
            · rw [if_pos d3, hw]
            · rw [if_neg d3, Lib.toList_data, if_neg (fun d4 => c ⟨d1, d2, d3, d4⟩), hw]
          · rw [if_neg d2, hw]
        · rw [if_neg d1, hw]
      have hex : (∃ jt k, j ≤ k ∧ k < i ∧ L[k]? = some jt ∧ 0 ≤ it.f2 ∧ jt.f2 = it.f2 ∧ it.f0.f1.data.toList ≠ [] ∧ jt.f0.f1.data.toList = it.f0.f1.data.toList) ↔ (∃ jt k, j + 1 ≤ k ∧ k < i ∧ L[k]? = some jt ∧ 0 ≤ it.f2 ∧ jt.f2 = it.f2 ∧ it.f0.f1.data.toList ≠ [] ∧ jt.f0.f1.data.toList = it.f0.f1.data.toList) := by
        constructor
        · rintro ⟨a, k, h1, h2, h3, h4⟩
          rcases Nat.eq_or_lt_of_le h1 with rfl | h1
          · rw [hjt] at h3
            cases h3
            exact absurd h4 c
          · exact ⟨a, k, h1, h2, h3, h4⟩
        · rintro ⟨a, k, h1, h2, h3, h4⟩
          exact ⟨a, k, by omega, h2, h3, h4⟩
      rw [hex]
      exact ⟨fun h => (ih1 h).step hstep, fun h r hr => (ih2 h r hr).step hstep⟩
theorem bad_ne {L : List S63} {p : Nat} {e : Int} (h : BadAt L p e) : e ≠ 0 := by
  obtain ⟨it, _, h | h | h | h⟩ := h; (omega); (omega); (rw [h.2.2.2]; exact h.2.2.1); (omega)
theorem chk_ok (L : List S63) (hL : L.length ≤ 4097) (hs : ∀ it ∈ L, Sm25 it.f0) (i : Nat) (h : OKat L i) {r : Int × Int} (hr : Ev (fun k => r11_Check.l0 k L L.length ((i + 1 : Nat) : Int)) r) : Ev (fun k => r11_Check.l0 k L L.length (i : Int)) r := by
  obtain ⟨it, h1, h2, h3, h4, h5⟩ := h; have hil := lt48 h1; have hrd := rd48 h1; obtain ⟨_, w2⟩ := wr_ev (hs it (List.mem_of_getElem? h1)); rw [h4] at w2; have hl := (chk_l1 L hL i it h1 i 0 (by omega) (by omega)).2 (fun ⟨jt, k, a1, a2, a3, a4⟩ => h5 ⟨it, jt, k, a2, h1, a3, a4⟩) r hr; refine w2.via hl (fun k hk => ?_); rw [r11_Check.l0, if_pos (by omega), if_neg (by omega), if_pos (by omega), if_pos (by omega), hrd, if_neg (by omega), hk, Option.bind_some, if_pos rfl]; rfl
theorem chk_bad (L : List S63) (hL : L.length ≤ 4097) (hs : ∀ it ∈ L, Sm25 it.f0) (p : Nat) (e : Int) (h : BadAt L p e) : Ev (fun k => r11_Check.l0 k L L.length (p : Int)) ((p : Int), e) := by
  obtain ⟨it, h1, h2⟩ := h; have hil := lt48 h1; have hrd := rd48 h1; obtain ⟨_, w2⟩ := wr_ev (hs it (List.mem_of_getElem? h1))
  rcases h2 with ⟨a1, rfl⟩ | ⟨a1, a2, rfl⟩ | ⟨a1, a2, a3, rfl⟩ | ⟨a1, a2, a3, a4, rfl⟩
  (exact (Ev.pure _).step (fun k => by rw [r11_Check.l0, if_pos (by omega), if_pos (by omega)])); (exact (Ev.pure _).step (fun k => by rw [r11_Check.l0, if_pos (by omega), if_neg (by omega), if_pos (by omega), if_pos (by omega), hrd, if_pos (by omega)])); (exact w2.via (Ev.pure _) (fun k hk => by rw [r11_Check.l0, if_pos (by omega), if_neg (by omega), if_pos (by omega), if_pos (by omega), hrd, if_neg (by omega), hk, Option.bind_some, if_neg a3])); (rw [a3] at w2; obtain ⟨it', jt, j, b1, b2, b3, b4⟩ := a4; rw [h1] at b2; cases b2; have hl := (chk_l1 L hL p it h1 p 0 (by omega) (by omega)).1 ⟨jt, j, by omega, b1, b3, b4⟩; refine w2.via hl (fun k hk => ?_); rw [r11_Check.l0, if_pos (by omega), if_neg (by omega), if_pos (by omega), if_pos (by omega), hrd, if_neg (by omega), hk, Option.bind_some, if_pos rfl]; rfl)
theorem chk_upto (L : List S63) (hL : L.length ≤ 4097) (hs : ∀ it ∈ L, Sm25 it.f0) (p : Nat) (h : ∀ i, i < p → OKat L i) (r : Int × Int) (hr : Ev (fun k => r11_Check.l0 k L L.length (p : Int)) r) (d : Nat) : ∀ i : Nat, p - i = d → i ≤ p → Ev (fun k => r11_Check.l0 k L L.length (i : Int)) r := by
  induction d with
  | zero =>
    intro i hd hi
    obtain rfl : i = p := by omega
    exact hr
  | succ d ih =>
    intro i hd hi; exact chk_ok L hL hs i (h i (by omega)) (ih (i + 1) (by omega) (by omega))
/-- vtree.Check and its reference, by the list of items. -/
theorem checks (x : S25) (h : Sm25 x) : ∃ L c, Ev (fun k => r11_Items.f k x.f0 x.f1 x.f2 x.f3 x.f4) L ∧ L.length ≤ 4097 ∧ (∀ it ∈ L, Sm25 it.f0) ∧
    Ev (fun k => vtree_Check.f k x.f0 x.f1 x.f2 x.f3 x.f4) c ∧ Ev (fun k => r11_Check.f k x.f0 x.f1 x.f2 x.f3 x.f4) c ∧
    ((c.2 = 0 ∧ L.length ≤ 4096 ∧ ∀ i, i < L.length → OKat L i) ∨ (c.2 ≠ 0 ∧ ∃ p : Nat, p < L.length ∧ (∀ i, i < p → OKat L i) ∧ BadAt L p c.2)) := by
  have hxe : (⟨x.f0, x.f1, x.f2, x.f3, x.f4⟩ : S25) = x := by cases x; rfl
  obtain ⟨r, rest, e, bl, s, _⟩ := sim_T x h 1 0 [] [] (-1) (by simp) (by simp) (by simp) (by intro key; simp) (by simp); obtain ⟨L, hL⟩ : ∃ L, (⟨x, 1, -1⟩ : S63) :: rest = L := ⟨_, rfl⟩; rw [hL] at bl s; simp only [List.nil_append] at bl; have hit : Ev (fun k => r11_Items.f k x.f0 x.f1 x.f2 x.f3 x.f4) L := bl.eq (fun k => by rw [r11_Items.f, hxe])
  have hlen : L.length ≤ 4097 := by
    obtain ⟨k, hk⟩ := bl.ex; exact (blw1_len hk (by simp)).2
  have hchk : Ev (fun k => vtree_check.f k x.f0 x.f1 x.f2 x.f3 x.f4) r.2 := e.via0 (Ev.pure _) (fun k hk => by rw [vtree_check.f, hxe]; rw [show ((([] : List S63).length : Nat) : Int) = 0 from rfl] at hk; rw [hk]; rfl); have hrc (r : Int × Int) (hr : Ev (fun k => r11_Check.l0 k L L.length ((0 : Nat) : Int)) r) : Ev (fun k => r11_Check.f k x.f0 x.f1 x.f2 x.f3 x.f4) r := hit.via0 hr (fun k hk => by rw [r11_Check.f, hk]; rfl)
  cases hr : r.1 with
  | true =>
    obtain ⟨y1, y2, y3, _⟩ := s.yes hr; simp only [List.nil_append] at y1 y2 y3
    have hz : r.2.2.2 = 0 := by rw [y1]
    have hcl : Ev (fun k => r11_Check.l0 k L L.length (L.length : Int)) (0, 0) := (Ev.pure _).step (fun k => by rw [r11_Check.l0, if_neg (by omega)]); exact ⟨L, (0, 0), hit, hlen, s.sm, hchk.via0 (Ev.pure _) (fun k hk => by rw [vtree_Check.f, hk, Option.bind_some, if_pos hz]), hrc _ (chk_upto L hlen s.sm L.length (fun i hi => y3 i (by simp) hi) _ hcl L.length 0 (by omega) (by omega)), .inl ⟨rfl, y2, fun i hi => y3 i (by simp) hi⟩⟩
  | false =>
    obtain ⟨p, p1, p2, p3, p4, p5⟩ := s.no hr; simp only [List.nil_append] at p3 p4 p5; have hne := bad_ne p5; exact ⟨L, (p, r.2.2.2), hit, hlen, s.sm, hchk.via0 (Ev.pure _) (fun k hk => by rw [vtree_Check.f, hk, Option.bind_some, if_neg hne, p1]), hrc _ (chk_upto L hlen s.sm p (fun i hi => p4 i (by simp) hi) _ (chk_bad L hlen s.sm p _ p5) p 0 (by omega) (by omega)), .inr ⟨hne, p, p3, fun i hi => p4 i (by simp) hi, p5⟩⟩
end Go.Proofs.Ytcebfldagnjddaa.Pure
