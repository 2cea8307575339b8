/- What the claim LawMatchTwice rests on, part 3 of 7: the kit's words, the printed walks, the walks by hand, the plain laws. -/
import Derived.Test.YtelacebdmmanhaaB0
import Derived.Test.YtelacebdmmanhaaB1
import Derived.Test.YtelacebdmmanhaaB2
import Derived.BigQuiet
import Derived.Deep.QuietTactic
import Derived.WalkMore
import Derived.Laws.EntriesVeiled
import Derived.Laws.Bits64b
namespace Go.Proofs.Ytelacebdmmanhaa.G
open List renaming setIfInBounds_toArray → zt, set_cons_zero → zu, set_cons_succ → zv
open Bool renaming true → T, false → F
open Go.RowKit Go.Proofs.YtelacebdmmanhaaW.PrintWords Go.Proofs.YtelacebdmmanhaaW.PrintLast Go.Proofs.YtelacebdmmanhaaW.PrintMore
attribute [local go_sem] max2_int min2_int max_two min_two max_three min_three max_four min_four
set_option linter.unusedVariables false
set_option linter.unusedSimpArgs false
mutual
def match_labels.l0 : Nat → List (S32) → List (S37) → List (List Int) → Int → Int → Option ((List (S37)))
 | 0, _, _, _, _, _ => none
 | k + 1, x0, x5, x16, x17, x18 => if x18 < x17 then (if 0 ≤ x18 then (if x18 < (x16.length : Int) then (if 0 ≤ ((rd_L7 x16 x18).length : Int) then (if (((rd_L7 x16 x18).length : Int) : Int).toNat ≤ 2932031007402 then (match_labels.l1 k x0 x5 (rd_L7 x16 x18) (([] : List (S54))) x16 x17 x18 (rd_L7 x16 x18) ((rd_L7 x16 x18).length : Int) 0) else (none)) else (none)) else (none)) else (none)) else (some x5)
def match_labels.l1 : Nat → List (S32) → List (S37) → List Int → List (S54) → List (List Int) → Int → Int → List Int → Int → Int → Option ((List (S37)))
 | 0, _, _, _, _, _, _, _, _, _, _ => none
 | k + 1, x0, x5, x7, x8, x16, x17, x18, x25, x26, x27 => if x27 < x26 then (if 0 ≤ x27 then (if x27 < (x25.length : Int) then (if 0 ≤ (wrap64 ((rd x25 x27) - 1)) then (if (wrap64 ((rd x25 x27) - 1)) < (x0.length : Int) then (if x8.length < 1466015503701 then (match_labels.l1 k x0 x5 x7 (x8 ++ [(⟨(rd_T32 x0 (wrap64 ((rd x25 x27) - 1))).f2, (rd_T32 x0 (wrap64 ((rd x25 x27) - 1))).f3, (⟨#[]⟩ : ByteArray), ([] : List (S39)), ([] : List (S54))⟩ : S54)]) x16 x17 x18 x25 x26 (wrap64 (x27 + 1))) else (none)) else (none)) else (none)) else (none)) else (none)) else ((label_Of.f x8).bind fun t245 => (match_labels.l2 k x0 x5 x7 x16 x17 x18 t245 (t245.length : Int) 0))
def match_labels.l2 : Nat → List (S32) → List (S37) → List Int → List (List Int) → Int → Int → List (S37) → Int → Int → Option ((List (S37)))
 | 0, _, _, _, _, _, _, _, _, _ => none
 | k + 1, x0, x5, x7, x16, x17, x18, x49, x50, x51 => if x51 < x50 then (if 0 ≤ x51 then (if x51 < (x49.length : Int) then (if x51 < (x7.length : Int) then (if 0 ≤ (wrap64 ((rd x7 x51) - 1)) then (if (wrap64 ((rd x7 x51) - 1)) < (x5.length : Int) then (match_labels.l2 k x0 (x5.set ((wrap64 ((rd x7 x51) - 1)) : Int).toNat (⟨(rd_T37 x49 x51).f0, (rd_T37 x49 x51).f1, (rd_T37 x49 x51).f2⟩ : S37)) x7 x16 x17 x18 x49 x50 (wrap64 (x51 + 1))) else (none)) else (none)) else (none)) else (none)) else (none)) else (match_labels.l0 k x0 x5 x16 x17 (wrap64 (x18 + 1)))
end
def match_labels.f (k : Nat) (l0 : List (S32)) (l1 : List (List Int)) : Option ((List (S37))) := if 0 ≤ (l0.length : Int) then (if ((l0.length : Int) : Int).toNat ≤ 7036874417766 then (match_labels.l0 k l0 (List.replicate ((l0.length : Int) : Int).toNat z37) l1 (l1.length : Int) 0) else (none)) else (none)
theorem match_labels.mono_l : ∀ k, (∀ y0 y1 y2 y3 y4, LeO (match_labels.l0 k y0 y1 y2 y3 y4) (match_labels.l0 (k + 1) y0 y1 y2 y3 y4)) ∧ (∀ y0 y1 y2 y3 y4 y5 y6 y7 y8 y9, LeO (match_labels.l1 k y0 y1 y2 y3 y4 y5 y6 y7 y8 y9) (match_labels.l1 (k + 1) y0 y1 y2 y3 y4 y5 y6 y7 y8 y9)) ∧ (∀ y0 y1 y2 y3 y4 y5 y6 y7 y8, LeO (match_labels.l2 k y0 y1 y2 y3 y4 y5 y6 y7 y8) (match_labels.l2 (k + 1) y0 y1 y2 y3 y4 y5 y6 y7 y8))
 | 0 => ⟨fun _ _ _ _ _ r h => by simp [match_labels.l0] at h, fun _ _ _ _ _ _ _ _ _ _ r h => by simp [match_labels.l1] at h, fun _ _ _ _ _ _ _ _ _ r h => by simp [match_labels.l2] at h⟩
 | k + 1 => by
  obtain ⟨ih0, ih1, ih2⟩ := match_labels.mono_l k
  refine ⟨?_, ?_, ?_⟩
  ·
   intro y0 y1 y2 y3 y4
   unfold match_labels.l0
   with_reducible repeat' first | exact ih0 _ _ _ _ _ | exact ih1 _ _ _ _ _ _ _ _ _ _ | exact ih2 _ _ _ _ _ _ _ _ _ | exact LeO.refl _ | exact LeO.none _ | refine LeO.ite ?_ ?_ | refine LeO.bind ?_ (fun _ => ?_)
  ·
   intro y0 y1 y2 y3 y4 y5 y6 y7 y8 y9
   unfold match_labels.l1
   with_reducible repeat' first | exact ih0 _ _ _ _ _ | exact ih1 _ _ _ _ _ _ _ _ _ _ | exact ih2 _ _ _ _ _ _ _ _ _ | exact LeO.refl _ | exact LeO.none _ | refine LeO.ite ?_ ?_ | refine LeO.bind ?_ (fun _ => ?_)
  ·
   intro y0 y1 y2 y3 y4 y5 y6 y7 y8
   unfold match_labels.l2
   with_reducible repeat' first | exact ih0 _ _ _ _ _ | exact ih1 _ _ _ _ _ _ _ _ _ _ | exact ih2 _ _ _ _ _ _ _ _ _ | exact LeO.refl _ | exact LeO.none _ | refine LeO.ite ?_ ?_ | refine LeO.bind ?_ (fun _ => ?_)
theorem match_labels.mono : ∀ a0 a1 k, LeO (match_labels.f k a0 a1) (match_labels.f (k + 1) a0 a1) := by
 intro a0 a1 k
 obtain ⟨ih0, ih1, ih2⟩ := match_labels.mono_l k
 unfold match_labels.f
 with_reducible repeat' first | exact ih0 _ _ _ _ _ | exact ih1 _ _ _ _ _ _ _ _ _ _ | exact ih2 _ _ _ _ _ _ _ _ _ | exact LeO.refl _ | exact LeO.none _ | refine LeO.ite ?_ ?_ | refine LeO.bind ?_ (fun _ => ?_)
def match_labels.T9 : Bool × List (List Nat × List Nat) := (true, [([], []), ([], []), ([], []), ([2], [2]), ([1, 3], [1, 3]), ([4], [4]), ([5], [5]), ([], []), ([], []), ([8], [8]), ([7, 9], [7, 9]), ([10], [10]), ([11], [11]), ([6, 12], [6, 12]), ([13], [13]), ([0, 14], [0, 14]), ([15, 15, 0, 1, 2, 3, 4, 5, 6, 7, 8, 9, 10, 11, 12, 13, 14, 15], [0, 15])])
def match_labels.B9 : List Nat := [0, 0, 0, 4, 14, 30, 62, 0, 0, 256, 896, 1920, 3968, 8190, 16382, 32767, 65535]
theorem match_labels.tab9 : rtab .any (opsOf Try.f22 9) = match_labels.T9 := by kernel_rfl
theorem match_labels.bits9 : waitsOk match_labels.T9.2 match_labels.B9 = true := by kernel_rfl
def match_labels.T14 : Bool × List (List Nat × List Nat) := (true, [([], []), ([], []), ([], []), ([1, 2], [1, 2]), ([3], [3]), ([4], [4]), ([], []), ([0, 5, 0, 1, 2, 3, 4, 5, 6], [0, 5]), ([7, 6, 0, 1, 2, 3, 4, 5, 6], [6, 7])])
def match_labels.B14 : List Nat := [0, 0, 0, 6, 14, 30, 0, 127, 255]
theorem match_labels.tab14 : rtab .any (opsOf Try.f22 14) = match_labels.T14 := by kernel_rfl
theorem match_labels.bits14 : waitsOk match_labels.T14.2 match_labels.B14 = true := by kernel_rfl
set_option maxHeartbeats 8000000 in
set_option maxRecDepth 100000 in
theorem match_labels.calls (k : Nat) (A0 : Option Addr) (c0 : Nat) (l0 : List (S32)) (A1 : Option Addr) (c1 : Nat) (l1 : List (List Int)) (r : List (S37)) (w : World) (hr0 : Kd.C k32 w A0 l0.length l0) (hc0 : l0.length ≤ c0) (hr1 : Kd.C (Kd.slice 3 (Kd.int .i64)) w A1 l1.length l1) (hc1 : l1.length ≤ c1) (h : match_labels.f k l0 l1 = some r) :
  Calls Try.prog 22 #[.slice A0 l0.length c0, .slice A1 l1.length c1] w fun e w' => ∃ v0_ : Value, e = .returned (v0_) ∧ Kd.R k37 37 w' w.heap.size (fun _ => True) v0_ r ∧ Below w.heap.size w w' := by
 have hu54 := Try.underlying54
 have hu37 := Try.underlying37
 have HR0 := zk hr0
 have HC0 := zk hc0
 clear hr0 hc0
 have HR1 := zk hr1
 have HC1 := zk hc1
 clear hr1 hc1
 have HB := zk (Below.refl w.heap.size w)
 have H : (if 0 ≤ (l0.length : Int) then (if ((l0.length : Int) : Int).toNat ≤ 7036874417766 then (match_labels.l0 k l0 (List.replicate ((l0.length : Int) : Int).toNat z37) l1 (l1.length : Int) 0) else (none)) else (none)) = some r := h
 clear h
 by_cases c3 : 0 ≤ (l0.length : Int)
 ·
  rw [if_pos c3] at H; have c3b0 := eq_true c3; have c3b1 := decide_eq_true c3; clear c3
  by_cases c4 : ((l0.length : Int) : Int).toNat ≤ 7036874417766
  ·
   rw [if_pos c4] at H; have c4b0 := eq_true c4; have c4b1 := decide_eq_true c4; clear c4; obtain ⟨y232, hy232⟩ : ∃ y_ : List (S37), y_ = (List.replicate ((l0.length : Int) : Int).toNat z37) := ⟨_, rfl⟩
   replace H : (match_labels.l0 k l0 y232 l1 (l1.length : Int) 0) = some r := by first | (rw [hy232]; with_reducible exact H) | (have H2_ := (Option.bind_some _ _).symm.trans H; rw [hy232]; with_reducible exact H2_) | (have H2_ := (Option.bind_some _ _).symm.trans H; with_reducible exact H2_) | with_reducible exact H | (rw [hy232]; exact H) | exact H
   have Ny232 := zk hy232; clear hy232; have H' := zk H; clear H
   go_enter Try.func22, Try.ntmps22
   go_wp2_with (first | ((with_reducible refine zgd (N := 15) rfl ?_); refine Kd.R_make k37 _ 37 rfl (N := 15) rfl 33 _ _ rfl (l0.length : Int) rfl rfl Try.underlying33 (.agg #[(.string ⟨#[]⟩), (.string ⟨#[]⟩), (.int .i64 0)]) 40 info37 rfl (by decide) (by omega) z37 (ok := fun _ => True) (okp := fun _ => True) (k37_mkM _ _ _ z37 ) (fun _ hk => hk) trivial (zo (by assumption)) (Nat.le_trans (Nat.mul_le_mul_right _ (zo (by assumption) : (l0.length : Int).toNat ≤ 7036874417766)) (by omega)) (Below.refl _ _) (Nat.le_refl _) ?_; intro v233 w5 ho6 hb hg_ hnew_; clear hg_ hnew_; (first | rw [← Ny232.out] at ho6 | (simp only [Int.reduceToNat] at ho6; rw [← Ny232.out] at ho6)); have n0_ := zk (Kd.R_lower ho6 (zq (by with_reducible repeat first | exact HB.out | apply zA | apply zN | apply zD))); have n1_ := zk (zs (by with_reducible repeat first | exact HB.out | apply zA | apply zN | apply zD) hb); clear HB; have HO234 := n0_; have HB := n1_; clear n0_ n1_; clear hb ho6))
   go_loopg [18] k (fun kq v18 w' => ∃ (x5_1 : List (S37)) (x18_1 : Int), v18 = .int .i64 x18_1 ∧ Aside0 (match_labels.l0 kq l0 x5_1 l1 (l1.length : Int) x18_1 = some r) ∧ Aside0 (kq ≤ k) ∧ Aside0 (Kd.R k37 37 w' w.heap.size (fun _ => True) v233 x5_1) ∧ Aside0 (Below w.heap.size w w'))
   case atStart => exact ⟨(y232), (0), (by first | rfl | (simp; done) | (simp [*]; done)), H', ⟨Nat.le_refl _⟩, ⟨by (with_reducible repeat (first | apply Kd.R_alloc | apply Kd.R_drewN | apply Kd.R_drew)); exact HO234.out⟩, ⟨by with_reducible repeat first | exact HB.out | apply zA | apply zN | apply zD⟩⟩
   case round =>
    clear H'; (try clear c1); (try clear c2); (try clear p2); (try clear c3); (try clear c3b0); (try clear c3b1); (try clear c4); (try clear c4b0); (try clear c4b1); obtain ⟨x5_1, x18_1, rfl, HA, HK1, HO_5, HB⟩ := hrel
    cases gk with
    | zero => exact absurd HA.out (by simp [match_labels.l0])
    | succ k1 =>
     have H := HA.out; clear HA; simp only [match_labels.l0] at H
     by_cases c7 : x18_1 < (l1.length : Int)
     ·
      rw [if_pos c7] at H; have c7b0 := decide_eq_true c7; clear c7
      by_cases c8 : 0 ≤ x18_1
      ·
       rw [if_pos c8] at H; have c8b0 := decide_eq_true c8; clear c8
       by_cases c9 : x18_1 < (l1.length : Int)
       ·
        rw [if_pos c9] at H; have c9b0 := decide_eq_true c9; clear c9
        by_cases c10 : 0 ≤ ((rd_L7 l1 x18_1).length : Int)
        ·
         rw [if_pos c10] at H; have c10b0 := eq_true c10; have c10b1 := decide_eq_true c10; clear c10
         by_cases c11 : (((rd_L7 l1 x18_1).length : Int) : Int).toNat ≤ 2932031007402
         ·
          rw [if_pos c11] at H; have c11b0 := eq_true c11; have c11b1 := decide_eq_true c11; clear c11; obtain ⟨y236, hy236⟩ : ∃ y_ : List (S54), y_ = (([] : List (S54))) := ⟨_, rfl⟩
          replace H : (match_labels.l1 k1 l0 x5_1 (rd_L7 l1 x18_1) y236 l1 (l1.length : Int) x18_1 (rd_L7 l1 x18_1) ((rd_L7 l1 x18_1).length : Int) 0) = some r := by first | (rw [hy236]; with_reducible exact H) | (have H2_ := (Option.bind_some _ _).symm.trans H; rw [hy236]; with_reducible exact H2_) | (have H2_ := (Option.bind_some _ _).symm.trans H; with_reducible exact H2_) | with_reducible exact H | (rw [hy236]; exact H) | exact H
          have Ny236 := zk hy236; clear hy236; have H' := zk H; clear H; have p235 : 0 ≤ (x18_1 : Int) := zo (by assumption); have q235 : x18_1 < (l1.length : Int) := zo (by assumption); obtain ⟨ad235, A235_0, c235_0, e235, hx235_0, hl235_0, hi235_0⟩ := at_L7 HR1.out x18_1 p235 q235; cases e235; replace hx235_0 := zB HB hx235_0; have HR235_0 := zk hi235_0; have HC235_0 := zk hl235_0; clear hi235_0 hl235_0; replace p235 := eq_true p235; replace q235 := eq_true q235
          go_wp2_with (first | ((with_reducible refine zgd (N := 24) rfl ?_); refine Kd.R_makec k54 _ 54 rfl (N := 24) rfl 52 _ _ rfl ((rd_L7 l1 x18_1).length : Int) rfl rfl Try.underlying52 (.agg #[(.string ⟨#[]⟩), (.string ⟨#[]⟩), (.string ⟨#[]⟩), (.slice none 0 0), (.slice none 0 0)]) 96 info54 rfl (by decide) (by omega) z54 (ok := fun _ => True) (okp := fun _ => True) (k54_mkM _ _ _ z54 (Kd.R_nil _ _ _ _ _) (Kd.R_nil _ _ _ _ _)) (fun _ hk => hk) trivial (zo (by assumption)) (Nat.le_trans (Nat.mul_le_mul_right _ (zo (by assumption) : ((rd_L7 l1 x18_1).length : Int).toNat ≤ 2932031007402)) (by omega)) (Below.refl _ _) (Nat.le_refl _) ?_; intro v237 w12 ho13 hb hg_ hnew_; clear hg_ hnew_; (first | rw [← Ny236.out] at ho13 | (simp only [Int.reduceToNat] at ho13; rw [← Ny236.out] at ho13)); have n0_ := zk (Kd.R_below (by (with_reducible repeat (first | apply Kd.R_alloc | apply Kd.R_drewN | apply Kd.R_drew)); exact HO_5.out) hb); have n1_ := zk (Kd.R_lower ho13 (zq (by with_reducible repeat first | exact HB.out | apply zA | apply zN | apply zD))); have n2_ := zk (zs (by with_reducible repeat first | exact HB.out | apply zA | apply zN | apply zD) hb); clear HO_5; clear HB; have HO_5 := n0_; have HO238 := n1_; have HB := n2_; clear n0_ n1_ n2_; clear hb ho13))
          go_loopg [8, 27] k1 (fun kq v8 v27 w' => ∃ (x8_2 : List (S54)) (x27_2 : Int), v27 = .int .i64 x27_2 ∧ Aside0 (match_labels.l1 kq l0 x5_1 (rd_L7 l1 x18_1) x8_2 l1 (l1.length : Int) x18_1 (rd_L7 l1 x18_1) ((rd_L7 l1 x18_1).length : Int) x27_2 = some r) ∧ Aside0 (kq ≤ k1) ∧ Aside0 (Kd.R k37 37 w' w.heap.size (fun _ => True) v233 x5_1) ∧ Aside0 (Kd.R k54 54 w' w.heap.size (fun _ => True) v8 x8_2) ∧ Aside0 (Below w.heap.size w w'))
          case atStart => exact ⟨(y236), (0), (by first | rfl | (simp; done) | (simp [*]; done)), H', ⟨Nat.le_refl _⟩, ⟨by (with_reducible repeat (first | apply Kd.R_alloc | apply Kd.R_drewN | apply Kd.R_drew)); exact HO_5.out⟩, ⟨by (with_reducible repeat (first | apply Kd.R_alloc | apply Kd.R_drewN | apply Kd.R_drew)); exact HO238.out⟩, ⟨by with_reducible repeat first | exact HB.out | apply zA | apply zN | apply zD⟩⟩
          case round =>
           clear H'; (try clear c1); (try clear c2); (try clear p2); (try clear q2); (try clear hx2); (try clear c3); (try clear c3b0); (try clear c3b1); (try clear c4); (try clear c4b0); (try clear c4b1); (try clear c7); (try clear c7b0); (try clear c8); (try clear c8b0); (try clear c9); (try clear c9b0); (try clear c10); (try clear c10b0); (try clear c10b1); (try clear c11); (try clear c11b0); (try clear c11b1); (try clear hx235_0); (try clear p2); (try clear p235); (try clear q235); obtain ⟨x8_2, x27_2, rfl, HA, HK2, HO_5, HO_8, HB⟩ := hrel
           cases gk with
           | zero => exact absurd HA.out (by simp [match_labels.l1])
           | succ k2 =>
            have H := HA.out; clear HA; simp only [match_labels.l1] at H
            by_cases c14 : x27_2 < ((rd_L7 l1 x18_1).length : Int)
            ·
             rw [if_pos c14] at H; have c14b0 := decide_eq_true c14; clear c14
             by_cases c15 : 0 ≤ x27_2
             ·
              rw [if_pos c15] at H; have c15b0 := decide_eq_true c15; clear c15
              by_cases c16 : x27_2 < ((rd_L7 l1 x18_1).length : Int)
              ·
               rw [if_pos c16] at H; have c16b0 := decide_eq_true c16; clear c16; obtain ⟨ji17, hji17⟩ : ∃ j_ : Int, (wrap64 ((rd (rd_L7 l1 x18_1) x27_2) - 1)) = j_ := ⟨_, rfl⟩
               replace H : (if 0 ≤ (ji17) then (if (ji17) < (l0.length : Int) then (if x8_2.length < 1466015503701 then (match_labels.l1 k2 l0 x5_1 (rd_L7 l1 x18_1) (x8_2 ++ [(⟨(rd_T32 l0 (ji17)).f2, (rd_T32 l0 (ji17)).f3, (⟨#[]⟩ : ByteArray), ([] : List (S39)), ([] : List (S54))⟩ : S54)]) l1 (l1.length : Int) x18_1 (rd_L7 l1 x18_1) ((rd_L7 l1 x18_1).length : Int) (wrap64 (x27_2 + 1))) else (none)) else (none)) else (none)) = some r := by first | (rw [hji17] at H; exact H) | (simp only [hji17] at H ⊢; exact H)
               have hji17w : (IntKind.i64.wrap ((rd (rd_L7 l1 x18_1) x27_2) - 1)) = ji17 := (i64_w _).trans hji17
               by_cases c18 : 0 ≤ (ji17)
               ·
                rw [if_pos c18] at H; have c18b0 := decide_eq_true c18; clear c18
                by_cases c19 : (ji17) < (l0.length : Int)
                ·
                 rw [if_pos c19] at H; have c19b0 := decide_eq_true c19; clear c19
                 by_cases c20 : x8_2.length < 1466015503701
                 ·
                  rw [if_pos c20] at H; have LMc20 := zk c20; clear c20; obtain ⟨y242, hy242⟩ : ∃ y_ : List (S54), y_ = (x8_2 ++ [(⟨(rd_T32 l0 (ji17)).f2, (rd_T32 l0 (ji17)).f3, (⟨#[]⟩ : ByteArray), ([] : List (S39)), ([] : List (S54))⟩ : S54)]) := ⟨_, rfl⟩
                  replace H : (match_labels.l1 k2 l0 x5_1 (rd_L7 l1 x18_1) y242 l1 (l1.length : Int) x18_1 (rd_L7 l1 x18_1) ((rd_L7 l1 x18_1).length : Int) (wrap64 (x27_2 + 1))) = some r := by first | (rw [hy242]; with_reducible exact H) | (have H2_ := (Option.bind_some _ _).symm.trans H; rw [hy242]; with_reducible exact H2_) | (have H2_ := (Option.bind_some _ _).symm.trans H; with_reducible exact H2_) | with_reducible exact H | (rw [hy242]; exact H) | exact H
                  have Ny242 := zk hy242; clear hy242; have H' := zk H; clear H; have p239 : 0 ≤ (x27_2 : Int) := zo (by assumption); have q239 : x27_2 < ((rd_L7 l1 x18_1).length : Int) := zo (by assumption); obtain ⟨ad239, e239, hx239_0⟩ := Kd.at_int HR235_0.out x27_2 p239 q239; cases e239; replace hx239_0 := zB HB hx239_0; replace p239 := eq_true p239; replace q239 := eq_true q239
                  try go_wp2
                  have n0_ := zk (Kd.R_drew HO_5.out); have n1_ := zk (Kd.R_drew HO_8.out); have n2_ := zk (zD HB.out); clear HO_5; clear HO_8; clear HB; have HO_5 := n0_; have HO_8 := n1_; have HB := n2_; clear n0_ n1_ n2_; have p240 : 0 ≤ ((ji17) : Int) := zo (by assumption); have q240 : (ji17) < (l0.length : Int) := zo (by assumption); obtain ⟨ad240, A240_5, c240_5, e240, hx240_0, hx240_1, hx240_2, hx240_3, hx240_4, hx240_5, hl240_5, hi240_5⟩ := at_T32 HR0.out (ji17) p240 q240; have hw240_5 := hx240_5; have hw240_4 := hx240_4; have hw240_3 := hx240_3; have hw240_2 := hx240_2; have hw240_1 := hx240_1; have hw240_0 := hx240_0; cases e240; replace hx240_0 := zB HB hx240_0; replace hx240_1 := zB HB hx240_1; replace hx240_2 := zB HB hx240_2; replace hx240_3 := zB HB hx240_3; replace hx240_4 := zB HB hx240_4; replace hx240_5 := zB HB hx240_5; have HR240_5 := zk hi240_5; have HC240_5 := zk hl240_5; clear hi240_5 hl240_5; replace p240 := eq_true p240; replace q240 := eq_true q240; have p241 : 0 ≤ ((ji17) : Int) := zo (by assumption); have q241 : (ji17) < (l0.length : Int) := zo (by assumption); obtain ⟨ad241, A241_5, c241_5, e241, hx241_0, hx241_1, hx241_2, hx241_3, hx241_4, hx241_5, hl241_5, hi241_5⟩ := at_T32 HR0.out (ji17) p241 q241; have hw241_5 := hx241_5; have hw241_4 := hx241_4; have hw241_3 := hx241_3; have hw241_2 := hx241_2; have hw241_1 := hx241_1; have hw241_0 := hx241_0; obtain rfl : ad240 = ad241 := (by injection e241); replace hx241_0 := zB HB hx241_0; replace hx241_1 := zB HB hx241_1; replace hx241_2 := zB HB hx241_2; replace hx241_3 := zB HB hx241_3; replace hx241_4 := zB HB hx241_4; replace hx241_5 := zB HB hx241_5; have HR241_5 := zk hi241_5; have HC241_5 := zk hl241_5; clear hi241_5 hl241_5; replace p241 := eq_true p241; replace q241 := eq_true q241; have ea_ := Option.some.inj (hx240_5.symm.trans hx241_5); injection ea_ with ea_ en_ ec_; subst ea_; subst ec_; clear en_; refine start_ (n := 17) (S := fun w' => w'.cell? (ad240.add (((ji17)).toNat * 6)) = some (.int .i64 ((rd_T32 l0 (ji17)).f0)) ∧ w'.cell? ⟨(ad240.add (((ji17)).toNat * 6)).block, (ad240.add (((ji17)).toNat * 6)).off + 1, none⟩ = some (.int .i64 ((rd_T32 l0 (ji17)).f1)) ∧ w'.cell? ⟨(ad240.add (((ji17)).toNat * 6)).block, (ad240.add (((ji17)).toNat * 6)).off + 2, none⟩ = some (.string ((rd_T32 l0 (ji17)).f2)) ∧ w'.cell? ⟨(ad240.add (((ji17)).toNat * 6)).block, (ad240.add (((ji17)).toNat * 6)).off + 3, none⟩ = some (.string ((rd_T32 l0 (ji17)).f3)) ∧ w'.cell? ⟨(ad240.add (((ji17)).toNat * 6)).block, (ad240.add (((ji17)).toNat * 6)).off + 4, none⟩ = some (.string ((rd_T32 l0 (ji17)).f4)) ∧ w'.cell? ⟨(ad240.add (((ji17)).toNat * 6)).block, (ad240.add (((ji17)).toNat * 6)).off + 5, none⟩ = some (.slice A240_5 ((rd_T32 l0 (ji17)).f5).length c240_5) ∧ w'.cell? (ad240.add (((ji17)).toNat * 6)) = some (.int .i64 ((rd_T32 l0 (ji17)).f0)) ∧ w'.cell? ⟨(ad240.add (((ji17)).toNat * 6)).block, (ad240.add (((ji17)).toNat * 6)).off + 1, none⟩ = some (.int .i64 ((rd_T32 l0 (ji17)).f1)) ∧ w'.cell? ⟨(ad240.add (((ji17)).toNat * 6)).block, (ad240.add (((ji17)).toNat * 6)).off + 2, none⟩ = some (.string ((rd_T32 l0 (ji17)).f2)) ∧ w'.cell? ⟨(ad240.add (((ji17)).toNat * 6)).block, (ad240.add (((ji17)).toNat * 6)).off + 3, none⟩ = some (.string ((rd_T32 l0 (ji17)).f3)) ∧ w'.cell? ⟨(ad240.add (((ji17)).toNat * 6)).block, (ad240.add (((ji17)).toNat * 6)).off + 4, none⟩ = some (.string ((rd_T32 l0 (ji17)).f4)) ∧ w'.cell? ⟨(ad240.add (((ji17)).toNat * 6)).block, (ad240.add (((ji17)).toNat * 6)).off + 5, none⟩ = some (.slice A240_5 ((rd_T32 l0 (ji17)).f5).length c240_5)) (ds := []) #[F,F,F,F,F,F,F,F,F,F,F,F,F,F,F,F,F] (by kernel_rfl) rfl rfl ⟨(zB HB hw240_0), (zB HB hw240_1), (zB HB hw240_2), (zB HB hw240_3), (zB HB hw240_4), (zB HB hw240_5), (zB HB hw241_0), (zB HB hw241_1), (zB HB hw241_2), (zB HB hw241_3), (zB HB hw241_4), (zB HB hw241_5)⟩ (fun hHeld => ?_); refine with_tabW match_labels.tab9 match_labels.bits9 (fun HT_ HW_ => ?_); generalize wr.drew = w21 at HO_5 HO_8 HB HR240_5 HR241_5 hx240_0 hx240_1 hx240_2 hx240_3 hx240_4 hx240_5 hx241_0 hx241_1 hx241_2 hx241_3 hx241_4 hx241_5 hHeld ⊢; refine pure_ (i := 0) (N := some 31) (v := ?_) (a' := ?_) #[T,F,F,F,F,F,F,F,F,F,F,F,F,F,F,F,F] rfl rfl (any_of HT_.out (by kernel_rfl)) (fun _ _ _ h => h) (Or.inl ⟨by rfl, ?_⟩) ?_ ?_; rotate_left; (intro w'; go_simp; (with_reducible rfl)); rotate_left; (simp only [Act.put, zt, zu, zv, i64_w, i32_w]; rfl); refine pure_ (i := 1) (N := some 32) (v := ?_) (a' := ?_) #[T,T,F,F,F,F,F,F,F,F,F,F,F,F,F,F,F] rfl rfl (any_of HT_.out (by kernel_rfl)) (fun _ _ _ h => h) (Or.inl ⟨by rfl, ?_⟩) ?_ ?_; rotate_left; (intro w'; go_simp; (with_reducible rfl)); rotate_left; (simp only [Act.put, zt, zu, zv, i64_w, i32_w]; rfl); refine pure_ (i := 2) (N := some 33) (v := ?_) (a' := ?_) #[T,T,T,F,F,F,F,F,F,F,F,F,F,F,F,F,F] rfl rfl (any_of HT_.out (by kernel_rfl)) (fun _ _ _ h => h) (Or.inl ⟨by rfl, ?_⟩) ?_ ?_; rotate_left; (intro w'; go_simp; (with_reducible rfl)); rotate_left; (simp only [Act.put, zt, zu, zv, i64_w, i32_w]; rfl); refine pure_ (i := 3) (N := some 34) (v := ?_) (a' := ?_) #[T,T,T,T,F,F,F,F,F,F,F,F,F,F,F,F,F] rfl rfl (any_of HT_.out (by kernel_rfl)) (fun _ _ _ h => h) (Or.inl ⟨by rfl, ?_⟩) ?_ ?_; rotate_left; (intro w'; go_simp; (with_reducible rfl)); rotate_left; (simp only [Act.put, zt, zu, zv, i64_w, i32_w]; rfl); refine pure_ (i := 4) (N := some 35) (v := ?_) (a' := ?_) #[T,T,T,T,T,F,F,F,F,F,F,F,F,F,F,F,F] rfl rfl (any_of HT_.out (by kernel_rfl)) (fun _ _ _ h => h) (Or.inl ⟨by rfl, ?_⟩) ?_ ?_; rotate_left; (intro w'; go_simp; (with_reducible rfl)); rotate_left; (simp only [Act.put, zt, zu, zv, i64_w, i32_w]; rfl); refine pure_ (i := 5) (N := some 36) (v := ?_) (a' := ?_) #[T,T,T,T,T,T,F,F,F,F,F,F,F,F,F,F,F] rfl rfl (any_of HT_.out (by kernel_rfl)) (fun _ _ _ h => h) (Or.inl ⟨by rfl, ?_⟩) ?_ ?_; rotate_left; (intro w'; go_simp; (with_reducible rfl)); rotate_left; (simp only [Act.put, zt, zu, zv, i64_w, i32_w]; rfl); refine pure_ (i := 7) (N := some 38) (v := ?_) (a' := ?_) #[T,T,T,T,T,T,F,T,F,F,F,F,F,F,F,F,F] rfl rfl (any_of HT_.out (by kernel_rfl)) (fun _ _ _ h => h) (Or.inl ⟨by rfl, ?_⟩) ?_ ?_; rotate_left; (intro w'; go_simp; (with_reducible rfl)); rotate_left; (simp only [Act.put, zt, zu, zv, i64_w, i32_w]; rfl); refine pure_ (i := 8) (N := some 39) (v := ?_) (a' := ?_) #[T,T,T,T,T,T,F,T,T,F,F,F,F,F,F,F,F] rfl rfl (any_of HT_.out (by kernel_rfl)) (fun _ _ _ h => h) (Or.inl ⟨by rfl, ?_⟩) ?_ ?_; rotate_left; (intro w'; go_simp; (with_reducible rfl)); rotate_left; (simp only [Act.put, zt, zu, zv, i64_w, i32_w]; rfl); refine pure_ (i := 9) (N := some 40) (v := ?_) (a' := ?_) #[T,T,T,T,T,T,F,T,T,T,F,F,F,F,F,F,F] rfl rfl (any_of HT_.out (by kernel_rfl)) (fun _ _ _ h => h) (Or.inl ⟨by rfl, ?_⟩) ?_ ?_; rotate_left; (intro w'; go_simp; (with_reducible rfl)); rotate_left; (simp only [Act.put, zt, zu, zv, i64_w, i32_w]; rfl); refine pure_ (i := 10) (N := some 41) (v := ?_) (a' := ?_) #[T,T,T,T,T,T,F,T,T,T,T,F,F,F,F,F,F] rfl rfl (any_of HT_.out (by kernel_rfl)) (fun _ _ _ h => h) (Or.inl ⟨by rfl, ?_⟩) ?_ ?_; rotate_left; (intro w'; go_simp; (with_reducible rfl)); rotate_left; (simp only [Act.put, zt, zu, zv, i64_w, i32_w]; rfl); refine pure_ (i := 11) (N := some 42) (v := ?_) (a' := ?_) #[T,T,T,T,T,T,F,T,T,T,T,T,F,F,F,F,F] rfl rfl (any_of HT_.out (by kernel_rfl)) (fun _ _ _ h => h) (Or.inl ⟨by rfl, ?_⟩) ?_ ?_; rotate_left; (intro w'; go_simp; (with_reducible rfl)); rotate_left; (simp only [Act.put, zt, zu, zv, i64_w, i32_w]; rfl); refine take_ (i := 6) (N := some 37) (v := ?_) (a' := ?_) #[T,T,T,T,T,T,T,T,T,T,T,T,F,F,F,F,F] rfl rfl (take_ofW HT_.out HW_.out (by kernel_rfl)) (fun _ _ _ h => h) (Or.inl ⟨by rfl, ?_⟩) hHeld ?_ ?_; rotate_left; (rintro w' ⟨s0, s1, s2, s3, s4, s5, s6, s7, s8, s9, s10, s11⟩; go_simp; (with_reducible rfl)); rotate_left; (simp only [Act.put, zt, zu, zv, i64_w, i32_w]; rfl); refine take_ (i := 12) (N := some 43) (v := ?_) (a' := ?_) #[T,T,T,T,T,T,T,T,T,T,T,T,T,F,F,F,F] rfl rfl (take_ofW HT_.out HW_.out (by kernel_rfl)) (fun _ _ _ h => h) (Or.inl ⟨by rfl, ?_⟩) hHeld ?_ ?_; rotate_left; (rintro w' ⟨s0, s1, s2, s3, s4, s5, s6, s7, s8, s9, s10, s11⟩; go_simp; (with_reducible rfl)); rotate_left; (simp only [Act.put, zt, zu, zv, i64_w, i32_w]; rfl); refine pure_ (i := 13) (N := some 44) (v := ?_) (a' := ?_) #[T,T,T,T,T,T,T,T,T,T,T,T,T,T,F,F,F] rfl rfl (any_of HT_.out (by kernel_rfl)) (fun _ _ _ h => h) (Or.inl ⟨by rfl, ?_⟩) ?_ ?_; rotate_left; (intro w'; go_simp; (with_reducible rfl)); rotate_left; (simp only [Act.put, zt, zu, zv, i64_w, i32_w]; rfl); refine one_ (i := 14) (N := some 45) #[T,T,T,T,T,T,T,T,T,T,T,T,T,T,T,F,F] rfl rfl (one_of HT_.out (by kernel_rfl)) (by decide) (fun K hK => ?_); refine value_ (w1 := ?_) (v := ?_) (by rfl) rfl ?_ ?_; rotate_left 2
                  ·
                   go_simp; constructor; (rfl); (rfl)
                  refine hK.out _ _ ⟨(World.cell?_alloc_lt _ _ _ (World.block_lt_of_cell? _ _ ((zB HB hw240_0)))).trans ((zB HB hw240_0)), (World.cell?_alloc_lt _ _ _ (World.block_lt_of_cell? _ _ ((zB HB hw240_1)))).trans ((zB HB hw240_1)), (World.cell?_alloc_lt _ _ _ (World.block_lt_of_cell? _ _ ((zB HB hw240_2)))).trans ((zB HB hw240_2)), (World.cell?_alloc_lt _ _ _ (World.block_lt_of_cell? _ _ ((zB HB hw240_3)))).trans ((zB HB hw240_3)), (World.cell?_alloc_lt _ _ _ (World.block_lt_of_cell? _ _ ((zB HB hw240_4)))).trans ((zB HB hw240_4)), (World.cell?_alloc_lt _ _ _ (World.block_lt_of_cell? _ _ ((zB HB hw240_5)))).trans ((zB HB hw240_5)), (World.cell?_alloc_lt _ _ _ (World.block_lt_of_cell? _ _ ((zB HB hw241_0)))).trans ((zB HB hw241_0)), (World.cell?_alloc_lt _ _ _ (World.block_lt_of_cell? _ _ ((zB HB hw241_1)))).trans ((zB HB hw241_1)), (World.cell?_alloc_lt _ _ _ (World.block_lt_of_cell? _ _ ((zB HB hw241_2)))).trans ((zB HB hw241_2)), (World.cell?_alloc_lt _ _ _ (World.block_lt_of_cell? _ _ ((zB HB hw241_3)))).trans ((zB HB hw241_3)), (World.cell?_alloc_lt _ _ _ (World.block_lt_of_cell? _ _ ((zB HB hw241_4)))).trans ((zB HB hw241_4)), (World.cell?_alloc_lt _ _ _ (World.block_lt_of_cell? _ _ ((zB HB hw241_5)))).trans ((zB HB hw241_5))⟩ (fun hHeld => ?_); clear hK K; refine norm_ (a' := ?_) ?_ ?_; rotate_left
                  ·
                   show Act.put _ (some 45) _ = _
                   simp only [Act.put, zt, zu, zv, i64_w, i32_w]; rfl
                  refine one_ (i := 15) (N := some 46) #[T,T,T,T,T,T,T,T,T,T,T,T,T,T,T,T,F] rfl rfl (one_of HT_.out (by kernel_rfl)) (by decide) (fun K hK => ?_); refine Kd.R_append_step k54 (w0 := w) w.heap.size (by rfl) (.tmp 31) (.tmp 45) 52 54 (.agg #[(.string ⟨#[]⟩), (.string ⟨#[]⟩), (.string ⟨#[]⟩), (.slice none 0 0), (.slice none 0 0)]) 96 rfl Try.underlying52 info54 rfl (by decide) (by omega) u8 x8_2 (⟨(rd_T32 l0 (ji17)).f2, (rd_T32 l0 (ji17)).f3, (⟨#[]⟩ : ByteArray), ([] : List (S39)), ([] : List (S54))⟩ : S54) [.string ((rd_T32 l0 (ji17)).f2), .string ((rd_T32 l0 (ji17)).f3), .string ⟨#[]⟩, .slice none 0 0, .slice none 0 0] (fun _ => True) (fun k_ => ((fun _ => True)) k_ ∧ some k_ ≠ (u8 : Value).ownBlock) rfl rfl ?aP (fun _ hk => hk) ?aF ?aO ?aB ?aS ?aL ?_
                  (case aP => exact k54_mkM _ _ _ (⟨(rd_T32 l0 (ji17)).f2, (rd_T32 l0 (ji17)).f3, (⟨#[]⟩ : ByteArray), ([] : List (S39)), ([] : List (S54))⟩ : S54) (Kd.R_nil _ _ _ _ _) (Kd.R_nil _ _ _ _ _))
                  (case aB => exact (by with_reducible repeat first | exact HB.out | apply zA | apply zN | apply zD))
                  (case aF => exact (fun _ _ => trivial))
                  (case aO => exact (by (with_reducible repeat (first | apply Kd.R_alloc | apply Kd.R_drewN | apply Kd.R_drew)); exact HO_8.out))
                  (case aS => exact (zq (by with_reducible repeat first | exact HB.out | apply zA | apply zN | apply zD)))
                  (case aL => have := LMc20.out; omega)
                  intro v243 w22 ho hb hg hat; rw [← Ny242.out] at ho; have n0_ := zk (Kd.R_over' (by (with_reducible repeat (first | apply Kd.R_alloc | apply Kd.R_drewN | apply Kd.R_drew)); exact HO_5.out) (Kd.R_typed (by (with_reducible repeat (first | apply Kd.R_alloc | apply Kd.R_drewN | apply Kd.R_drew)); exact HO_8.out)) (by decide) hg); have n1_ := zk (hb); have n2_ := zk (ho); clear HO_5; clear HB; clear HO_8; have HO_5 := n0_; have HB := n1_; have HO244 := n2_; clear n0_ n1_ n2_; clear ho hb hg hat; refine hK.out _ _ ⟨(zB HB hw240_0), (zB HB hw240_1), (zB HB hw240_2), (zB HB hw240_3), (zB HB hw240_4), (zB HB hw240_5), (zB HB hw241_0), (zB HB hw241_1), (zB HB hw241_2), (zB HB hw241_3), (zB HB hw241_4), (zB HB hw241_5)⟩ (fun hHeld => ?_); clear hK K; refine norm_ (a' := ?_) ?_ ?_; rotate_left
                  ·
                   show Act.put _ (some 46) _ = _
                   simp only [Act.put, zt, zu, zv, i64_w, i32_w]; rfl
                  refine pure_ (i := 16) (N := some 8) (v := ?_) (a' := ?_) #[T,T,T,T,T,T,T,T,T,T,T,T,T,T,T,T,T] rfl rfl (any_of HT_.out (by kernel_rfl)) (fun _ _ _ h => h) (Or.inl ⟨by rfl, ?_⟩) ?_ ?_; rotate_left; (intro w'; go_simp; (with_reducible rfl)); rotate_left; (simp only [Act.put, zt, zu, zv, i64_w, i32_w]; rfl); refine done_ (done_of HT_.out (by kernel_rfl)) ?_
                  try go_wp2
                  go_roundg k2
                  case measure => have := HK1.out; have := HK2.out; omega
                  case rel => exact ⟨(y242), (wrap64 (x27_2 + 1)), (by first | rfl | (simp; done) | (simp [*]; done)), H', ⟨by have := HK1.out; have := HK2.out; omega⟩, ⟨by (with_reducible repeat (first | apply Kd.R_alloc | apply Kd.R_drewN | apply Kd.R_drew)); exact HO_5.out⟩, ⟨by (with_reducible repeat (first | apply Kd.R_alloc | apply Kd.R_drewN | apply Kd.R_drew)); exact HO244.out⟩, ⟨by with_reducible repeat first | exact HB.out | apply zA | apply zN | apply zD⟩⟩
                 ·
                  rw [if_neg c20] at H; exact absurd H (by simp)
                ·
                 rw [if_neg c19] at H; exact absurd H (by simp)
               ·
                rw [if_neg c18] at H; exact absurd H (by simp)
              ·
               rw [if_neg c16] at H; exact absurd H (by simp)
             ·
              rw [if_neg c15] at H; exact absurd H (by simp)
            ·
             rw [if_neg c14] at H; have c14b0 := decide_eq_false c14; clear c14; replace H := Option.bind_eq_some_iff.mp H; obtain ⟨t245, A230, H⟩ := H; replace H : (match_labels.l2 k2 l0 x5_1 (rd_L7 l1 x18_1) l1 (l1.length : Int) x18_1 t245 (t245.length : Int) 0) = some r := H; have A23 := zk A230; clear A230; have H' := zk H; clear H; obtain ⟨Ao24, co24, eo24⟩ := Kd.R_slice HO_8.out; subst eo24
             go_wp2_with (first | ((with_reducible refine zgk (f := 30) rfl ?_); refine zgl (some 49) rfl rfl Try.func30 (by kernel_rfl) rfl #[.slice Ao24 x8_2.length co24] rfl (by (try simp only [List.map_toArray, List.map_cons, List.map_nil]); first | done | rfl | (simp only [List.length_drop, List.length_take]; rfl)) ?_; (with_reducible refine (label_Of.calls _ _ x8_2 t245 _ ?side1 ?side2 A23.out).mono ?_); (case side1 => repeat (first | exact (Kd.R_reads' HO_8.out).2.2 | (with_reducible refine Kd.C_alloc ?_ _) | (with_reducible refine Kd.C_drewN ?_ _) | (with_reducible refine Kd.C_drew ?_))); (case side2 => exact (Kd.R_reads' HO_8.out).2.1); rintro e w25 ⟨v246, rfl, ho0, hb⟩; refine ⟨_, rfl, ?_⟩; have n0_ := zk (Kd.R_elder' (by (with_reducible repeat (first | apply Kd.R_alloc | apply Kd.R_drewN | apply Kd.R_drew)); exact HO_5.out) (Kd.R_base ho0) hb); have n1_ := zk (Kd.R_below (by (with_reducible repeat (first | apply Kd.R_alloc | apply Kd.R_drewN | apply Kd.R_drew)); exact HO_8.out) hb); have n2_ := zk (Kd.R_lower (Kd.R_new' ho0 (Kd.R_lt (by (with_reducible repeat (first | apply Kd.R_alloc | apply Kd.R_drewN | apply Kd.R_drew)); exact HO_5.out))) (zq (by with_reducible repeat first | exact HB.out | apply zA | apply zN | apply zD))); have n3_ := zk (zs (by with_reducible repeat first | exact HB.out | apply zA | apply zN | apply zD) hb); clear HO_5; clear HO_8; clear HB; have HO_5 := n0_; have HO_8 := n1_; have HO247 := n2_; have HB := n3_; clear n0_ n1_ n2_ n3_; (try clear hb); (try clear hb2); (try clear hk); (try clear hi); (try clear ho0); obtain ⟨Ao26, co26, eo26⟩ := Kd.R_slice HO247.out; subst eo26))
             go_loopg [51] k2 (fun kq v51 w' => ∃ (x5_3 : List (S37)) (x51_3 : Int), v51 = .int .i64 x51_3 ∧ Aside0 (match_labels.l2 kq l0 x5_3 (rd_L7 l1 x18_1) l1 (l1.length : Int) x18_1 t245 (t245.length : Int) x51_3 = some r) ∧ Aside0 (kq ≤ k2) ∧ Aside0 (Kd.R k37 37 w' w.heap.size (fun k_ => some k_ ≠ ((.slice Ao26 t245.length co26) : Value).ownBlock) v233 x5_3) ∧ Aside0 (Kd.R k37 37 w' w.heap.size (fun k_ => some k_ ≠ (v233 : Value).ownBlock) (.slice Ao26 t245.length co26) t245) ∧ Aside0 (Below w.heap.size w w'))
             case atStart => exact ⟨(x5_1), (0), (by first | rfl | (simp; done) | (simp [*]; done)), H', ⟨Nat.le_refl _⟩, ⟨by (with_reducible repeat (first | apply Kd.R_alloc | apply Kd.R_drewN | apply Kd.R_drew)); exact Kd.R_mono HO_5.out (fun _ hk => hk.2)⟩, ⟨by (with_reducible repeat (first | apply Kd.R_alloc | apply Kd.R_drewN | apply Kd.R_drew)); exact Kd.R_mono HO247.out (fun _ hk => hk.2)⟩, ⟨by with_reducible repeat first | exact HB.out | apply zA | apply zN | apply zD⟩⟩
             case round =>
              clear H'; (try clear c1); (try clear c2); (try clear p2); (try clear q2); (try clear hx2); (try clear c3); (try clear c3b0); (try clear c3b1); (try clear c4); (try clear c4b0); (try clear c4b1); (try clear p6); (try clear c7); (try clear c7b0); (try clear c8); (try clear c8b0); (try clear c9); (try clear c9b0); (try clear c10); (try clear c10b0); (try clear c10b1); (try clear c11); (try clear c11b0); (try clear c11b1); (try clear c14); (try clear c14b0); (try clear c15); (try clear c15b0); (try clear c16); (try clear c16b0); (try clear c18); (try clear c18b0); (try clear c19); (try clear c19b0); (try clear c20); (try clear c22); (try clear c23); (try clear p23); (try clear q23); (try clear hx23); (try clear c24); (try clear p24); (try clear q24); (try clear hx24); (try clear hx235_0); (try clear hx239_0); (try clear hx240_0); (try clear hx240_1); (try clear hx240_2); (try clear hx240_3); (try clear hx240_4); (try clear hx240_5); (try clear hx241_0); (try clear hx241_1); (try clear hx241_2); (try clear hx241_3); (try clear hx241_4); (try clear hx241_5); (try clear p2); (try clear p235); (try clear p239); (try clear p240); (try clear p241); (try clear q2); (try clear q235); (try clear q239); (try clear q240); (try clear q241); obtain ⟨x5_3, x51_3, rfl, HA, HK3, HO_5, HO_49, HB⟩ := hrel
              cases gk with
              | zero => exact absurd HA.out (by simp [match_labels.l2])
              | succ k3 =>
               have H := HA.out; clear HA; simp only [match_labels.l2] at H
               by_cases c27 : x51_3 < (t245.length : Int)
               ·
                rw [if_pos c27] at H; have c27b0 := decide_eq_true c27; clear c27
                by_cases c28 : 0 ≤ x51_3
                ·
                 rw [if_pos c28] at H; have c28b0 := decide_eq_true c28; clear c28
                 by_cases c29 : x51_3 < (t245.length : Int)
                 ·
                  rw [if_pos c29] at H; have c29b0 := decide_eq_true c29; clear c29
                  by_cases c30 : x51_3 < ((rd_L7 l1 x18_1).length : Int)
                  ·
                   rw [if_pos c30] at H; have c30b0 := decide_eq_true c30; clear c30; obtain ⟨ji31, hji31⟩ : ∃ j_ : Int, (wrap64 ((rd (rd_L7 l1 x18_1) x51_3) - 1)) = j_ := ⟨_, rfl⟩
                   replace H : (if 0 ≤ (ji31) then (if (ji31) < (x5_3.length : Int) then (match_labels.l2 k3 l0 (x5_3.set ((ji31) : Int).toNat (⟨(rd_T37 t245 x51_3).f0, (rd_T37 t245 x51_3).f1, (rd_T37 t245 x51_3).f2⟩ : S37)) (rd_L7 l1 x18_1) l1 (l1.length : Int) x18_1 t245 (t245.length : Int) (wrap64 (x51_3 + 1))) else (none)) else (none)) = some r := by first | (rw [hji31] at H; exact H) | (simp only [hji31] at H ⊢; exact H)
                   have hji31w : (IntKind.i64.wrap ((rd (rd_L7 l1 x18_1) x51_3) - 1)) = ji31 := (i64_w _).trans hji31
                   by_cases c32 : 0 ≤ (ji31)
                   ·
                    rw [if_pos c32] at H; have c32b0 := decide_eq_true c32; clear c32
                    by_cases c33 : (ji31) < (x5_3.length : Int)
                    ·
                     rw [if_pos c33] at H; have c33b0 := decide_eq_true c33; clear c33; obtain ⟨y251, hy251⟩ : ∃ y_ : List (S37), y_ = (x5_3.set ((ji31) : Int).toNat (⟨(rd_T37 t245 x51_3).f0, (rd_T37 t245 x51_3).f1, (rd_T37 t245 x51_3).f2⟩ : S37)) := ⟨_, rfl⟩
                     replace H : (match_labels.l2 k3 l0 y251 (rd_L7 l1 x18_1) l1 (l1.length : Int) x18_1 t245 (t245.length : Int) (wrap64 (x51_3 + 1))) = some r := by first | (rw [hy251]; with_reducible exact H) | (have H2_ := (Option.bind_some _ _).symm.trans H; rw [hy251]; with_reducible exact H2_) | (have H2_ := (Option.bind_some _ _).symm.trans H; with_reducible exact H2_) | with_reducible exact H | (rw [hy251]; exact H) | exact H
                     have Ny251 := zk hy251; clear hy251; have H' := zk H; clear H; have p248 : 0 ≤ (x51_3 : Int) := zo (by assumption); have q248 : x51_3 < (t245.length : Int) := zo (by assumption); obtain ⟨ad248, e248, hx248_0, hx248_1, hx248_2⟩ := at_T37 (Kd.R_reads' HO_49.out).2.2 x51_3 p248 q248; cases e248; replace p248 := eq_true p248; replace q248 := eq_true q248
                     try go_wp2_with (first | ((with_reducible refine zgd (N := 12) rfl ?_); refine zb ?hg (N := 12) ?hd (cs := #[.string ⟨#[]⟩, .string ⟨#[]⟩, .int .i64 0]) (t := 37) ?hr ?_; (case hd => rfl); (case hg => rfl); (case hr => go_simp; first | done | rfl); intro gb249 hg w35 hbox hb; have n0_ := zk (Kd.R_below (Kd.R_elderB (by (with_reducible repeat (first | apply Kd.R_alloc | apply Kd.R_drewN | apply Kd.R_drew)); exact HO_5.out) gb249 (Nat.le_of_eq hg.symm)) hb); have n1_ := zk (Kd.R_below (Kd.R_elderB (by (with_reducible repeat (first | apply Kd.R_alloc | apply Kd.R_drewN | apply Kd.R_drew)); exact HO_49.out) gb249 (Nat.le_of_eq hg.symm)) hb); have n2_ := zk (zs (by with_reducible repeat first | exact HB.out | apply zA | apply zN | apply zD) hb); have n3_ := zk (hbox); have n4_ := zk ((by rw [hg]; exact (zq (by with_reducible repeat first | exact HB.out | apply zA | apply zN | apply zD)) : w.heap.size ≤ gb249)); have n5_ := n4_; clear HO_5; clear HO_49; clear HB; have HO_5 := n0_; have HO_49 := n1_; have HB := n2_; have BK249 := n3_; have GW249 := n4_; have GE249 := n5_; clear n0_ n1_ n2_ n3_ n4_ n5_; clear hb hbox hg; obtain ⟨hcz36_0, hcz36_1, hcz36_2, hfz36_0, hfz36_1, hfz36_2⟩ := zc3 BK249.out))
                     have n0_ : Aside0 (Kd.R k37 37 (((w35.setCell ⟨gb249, 0, none⟩ (.string ((rd_T37 t245 x51_3).f0))).setCell ⟨gb249, 1, none⟩ (.string ((rd_T37 t245 x51_3).f1))).setCell ⟨gb249, 2, none⟩ (.int .i64 ((rd_T37 t245 x51_3).f2))) w.heap.size (fun k_ => some k_ ≠ (.slice (some ad248) t245.length co26 : Value).ownBlock ∧ k_ ≠ gb249) v233 x5_3) := ⟨by (with_reducible repeat (first | apply Kd.R_alloc | apply Kd.R_drewN | apply Kd.R_drew)); exact Kd.R_mono (Kd.R_far (p := ⟨gb249, 2, none⟩) (Kd.R_far (p := ⟨gb249, 1, none⟩) (Kd.R_far (p := ⟨gb249, 0, none⟩) (Kd.R_mono HO_5.out (fun k_ hk => (⟨hk, hk.2⟩ : _ ∧ k_ ≠ gb249))) (fun _ hk => hk.2) (.string ((rd_T37 t245 x51_3).f0))) (fun _ hk => hk.2) (.string ((rd_T37 t245 x51_3).f1))) (fun _ hk => hk.2) (.int .i64 ((rd_T37 t245 x51_3).f2))) (fun _ hk => ⟨hk.1.1, hk.1.2⟩)⟩; have n1_ : Aside0 (Kd.R k37 37 (((w35.setCell ⟨gb249, 0, none⟩ (.string ((rd_T37 t245 x51_3).f0))).setCell ⟨gb249, 1, none⟩ (.string ((rd_T37 t245 x51_3).f1))).setCell ⟨gb249, 2, none⟩ (.int .i64 ((rd_T37 t245 x51_3).f2))) w.heap.size (fun k_ => some k_ ≠ (v233 : Value).ownBlock ∧ k_ ≠ gb249) (.slice (some ad248) t245.length co26) t245) := ⟨by (with_reducible repeat (first | apply Kd.R_alloc | apply Kd.R_drewN | apply Kd.R_drew)); exact Kd.R_mono (Kd.R_far (p := ⟨gb249, 2, none⟩) (Kd.R_far (p := ⟨gb249, 1, none⟩) (Kd.R_far (p := ⟨gb249, 0, none⟩) (Kd.R_mono HO_49.out (fun k_ hk => (⟨hk, hk.2⟩ : _ ∧ k_ ≠ gb249))) (fun _ hk => hk.2) (.string ((rd_T37 t245 x51_3).f0))) (fun _ hk => hk.2) (.string ((rd_T37 t245 x51_3).f1))) (fun _ hk => hk.2) (.int .i64 ((rd_T37 t245 x51_3).f2))) (fun _ hk => ⟨hk.1.1, hk.1.2⟩)⟩; have n2_ : Aside0 ((((w35.setCell ⟨gb249, 0, none⟩ (.string ((rd_T37 t245 x51_3).f0))).setCell ⟨gb249, 1, none⟩ (.string ((rd_T37 t245 x51_3).f1))).setCell ⟨gb249, 2, none⟩ (.int .i64 ((rd_T37 t245 x51_3).f2))).heap[gb249]? = some (.cells #[.string ((rd_T37 t245 x51_3).f0), .string ((rd_T37 t245 x51_3).f1), .int .i64 ((rd_T37 t245 x51_3).f2)] 37 (0, 0))) := ⟨by (with_reducible repeat first | apply zM | apply zE | apply zF); refine zP (cs := #[.string ((rd_T37 t245 x51_3).f0), .string ((rd_T37 t245 x51_3).f1), .int .i64 0]) ?_ 2 _ rfl; (with_reducible repeat first | apply zM | apply zE | apply zF); refine zP (cs := #[.string ((rd_T37 t245 x51_3).f0), .string ⟨#[]⟩, .int .i64 0]) ?_ 1 _ rfl; (with_reducible repeat first | apply zM | apply zE | apply zF); refine zP (cs := #[.string ⟨#[]⟩, .string ⟨#[]⟩, .int .i64 0]) ?_ 0 _ rfl; (with_reducible repeat first | apply zM | apply zE | apply zF); exact BK249.out⟩; have n3_ : Aside0 (Below w.heap.size w (((w35.setCell ⟨gb249, 0, none⟩ (.string ((rd_T37 t245 x51_3).f0))).setCell ⟨gb249, 1, none⟩ (.string ((rd_T37 t245 x51_3).f1))).setCell ⟨gb249, 2, none⟩ (.int .i64 ((rd_T37 t245 x51_3).f2)))) := ⟨by with_reducible repeat first | exact HB.out | apply zA | apply zN | apply zD | refine zS ?_ GE249.out⟩
                     (try clear HO_5)
                     (try clear HO_49)
                     (try clear BK249)
                     (try clear HB)
                     generalize (((w35.setCell ⟨gb249, 0, none⟩ (.string ((rd_T37 t245 x51_3).f0))).setCell ⟨gb249, 1, none⟩ (.string ((rd_T37 t245 x51_3).f1))).setCell ⟨gb249, 2, none⟩ (.int .i64 ((rd_T37 t245 x51_3).f2))) = w37 at n0_ n1_ n2_ n3_ ⊢; have HO_5 := n0_; have HO_49 := n1_; have BK249 := n2_; have HB := n3_; clear n0_ n1_ n2_ n3_; have n0_ := zk (Kd.R_drew HO_5.out); have n1_ := zk (Kd.R_drew HO_49.out); have n2_ := zk (zE BK249.out); have n3_ := zk (zD HB.out); clear HO_5; clear HO_49; clear BK249; clear HB; have HO_5 := n0_; have HO_49 := n1_; have BK249 := n2_; have HB := n3_; clear n0_ n1_ n2_ n3_; have p250 : 0 ≤ (x51_3 : Int) := zo (by assumption); have q250 : x51_3 < ((rd_L7 l1 x18_1).length : Int) := zo (by assumption); obtain ⟨ad250, e250, hx250_0⟩ := Kd.at_int HR235_0.out x51_3 p250 q250; have hw250_0 := hx250_0; cases e250; replace hx250_0 := zB HB hx250_0; replace p250 := eq_true p250; replace q250 := eq_true q250; have p34 : 0 ≤ ((ji31) : Int) := zo (by assumption); have q34 : ((ji31) : Int) < ((x5_3.length : Int) : Int) := zo (by assumption); obtain ⟨go34, co34, eo34, gb34, gl34, cl34, HG34⟩ := Kd.R_form HO_5.out (by omega)
                     (first | cases eo34 | (injection eo34 with ea_ en_ ec_; (first | subst ea_ | (injection ea_ with ea_; subst ea_)); subst ec_; clear en_))
                     have GB34 := zk gb34; have GG34 := zk HG34; clear gb34 gl34 HG34; obtain ⟨ce34, hcl34, hM34, hcc34, hfr34⟩ := Kd.R_elem HO_5.out z37 ((ji31) : Int) p34 q34; obtain rfl := k37_openM hM34; have hx34_0 : World.cell? _ ⟨go34, ((ji31) : Int).toNat * 3, none⟩ = some (.string ((rd_T37 x5_3 (ji31)).f0)) := hcc34 0 _ rfl; have hx34_1 : World.cell? _ ⟨go34, ((ji31) : Int).toNat * 3 + 1, none⟩ = some (.string ((rd_T37 x5_3 (ji31)).f1)) := hcc34 1 _ rfl; have hx34_2 : World.cell? _ ⟨go34, ((ji31) : Int).toNat * 3 + 2, none⟩ = some (.int .i64 ((rd_T37 x5_3 (ji31)).f2)) := hcc34 2 _ rfl; have hf34_0 : World.frozen? _ ⟨go34, ((ji31) : Int).toNat * 3, none⟩ = false := hfr34 0; have hf34_1 : World.frozen? _ ⟨go34, ((ji31) : Int).toNat * 3 + 1, none⟩ = false := hfr34 1; have hf34_2 : World.frozen? _ ⟨go34, ((ji31) : Int).toNat * 3 + 2, none⟩ = false := hfr34 2; clear hcl34 hcc34 hfr34 hM34; replace p34 := eq_true p34; replace q34 := eq_true q34; obtain ⟨ce39, hcl39, hM39, hcc39, hfr39⟩ := Kd.R_elem HO_5.out z37 ((ji31) : Int) (zo (by assumption)) (by have h_ : ((ji31) : Int) < ((x5_3.length : Int) : Int) := zo (by assumption); first | exact h_ | (have e_ := (Kd.R_reads' HO_5.out).1; omega) | simpa using h_); obtain rfl := k37_openM hM39; have HP39 := (Kd.R_seg HO_5.out ((ji31) : Int) (zo (by assumption)) (by have h_ : ((ji31) : Int) < ((x5_3.length : Int) : Int) := zo (by assumption); first | exact h_ | (have e_ := (Kd.R_reads' HO_5.out).1; omega) | simpa using h_) (seg := [.string ((rd_T37 t245 x51_3).f0), .string ((rd_T37 t245 x51_3).f1), .int .i64 ((rd_T37 t245 x51_3).f2)]) (j := 0) hcl39 hcc39 (show 3 ≤ 3 from by decide) (x' := (⟨(rd_T37 t245 x51_3).f0, (rd_T37 t245 x51_3).f1, (rd_T37 t245 x51_3).f2⟩ : S37)) (k37_mkM _ _ _ (⟨(rd_T37 t245 x51_3).f0, (rd_T37 t245 x51_3).f1, (rd_T37 t245 x51_3).f2⟩ : S37) ) (fun _ hk => hk)).1; rw [← Ny251.out] at HP39; have HQ39 := zk HP39; clear hcl39 hcc39 hfr39 hM39 HP39; refine start_ (n := 9) (S := fun w' => w'.cell? ⟨gb249, 0, none⟩ = some (.string ((rd_T37 t245 x51_3).f0)) ∧ w'.cell? ⟨gb249, 1, none⟩ = some (.string ((rd_T37 t245 x51_3).f1)) ∧ w'.cell? ⟨gb249, 2, none⟩ = some (.int .i64 ((rd_T37 t245 x51_3).f2)) ∧ w'.cell? (ad250.add (x51_3).toNat) = some (.int .i64 (rd (rd_L7 l1 x18_1) x51_3))) (ds := [8]) #[F,F,F,F,F,F,F,F,F] (by kernel_rfl) rfl rfl ⟨(zC BK249.out 0).trans rfl, (zC BK249.out 1).trans rfl, (zC BK249.out 2).trans rfl, (zB HB hw250_0)⟩ (fun hHeld => ?_); refine with_tabW match_labels.tab14 match_labels.bits14 (fun HT_ HW_ => ?_); generalize w37.drew = w38 at HO_5 HO_49 BK249 HB GG34 HQ39 hf34_0 hf34_1 hf34_2 hx250_0 hx34_0 hx34_1 hx34_2 hHeld ⊢; refine pure_ (i := 0) (N := some 56) (v := ?_) (a' := ?_) #[T,F,F,F,F,F,F,F,F] rfl rfl (any_of HT_.out (by kernel_rfl)) (fun _ _ _ h => h) (Or.inl ⟨by rfl, ?_⟩) ?_ ?_; rotate_left; (intro w'; go_simp; (with_reducible rfl)); rotate_left; (simp only [Act.put, zt, zu, zv, i64_w, i32_w]; rfl); refine pure_ (i := 1) (N := some 57) (v := ?_) (a' := ?_) #[T,T,F,F,F,F,F,F,F] rfl rfl (any_of HT_.out (by kernel_rfl)) (fun _ _ _ h => h) (Or.inl ⟨by rfl, ?_⟩) ?_ ?_; rotate_left; (intro w'; go_simp; (with_reducible rfl)); rotate_left; (simp only [Act.put, zt, zu, zv, i64_w, i32_w]; rfl); refine pure_ (i := 2) (N := some 58) (v := ?_) (a' := ?_) #[T,T,T,F,F,F,F,F,F] rfl rfl (any_of HT_.out (by kernel_rfl)) (fun _ _ _ h => h) (Or.inl ⟨by rfl, ?_⟩) ?_ ?_; rotate_left; (intro w'; go_simp; (with_reducible rfl)); rotate_left; (simp only [Act.put, zt, zu, zv, i64_w, i32_w]; rfl); refine pure_ (i := 3) (N := some 59) (v := ?_) (a' := ?_) #[T,T,T,T,F,F,F,F,F] rfl rfl (any_of HT_.out (by kernel_rfl)) (fun _ _ _ h => h) (Or.inl ⟨by rfl, ?_⟩) ?_ ?_; rotate_left; (intro w'; go_simp; (with_reducible rfl)); rotate_left; (simp only [Act.put, zt, zu, zv, i64_w, i32_w]; rfl); refine take_ (i := 4) (N := some 60) (v := ?_) (a' := ?_) #[T,T,T,T,T,F,F,F,F] rfl rfl (take_ofW HT_.out HW_.out (by kernel_rfl)) (fun _ _ _ h => h) (Or.inl ⟨by rfl, ?_⟩) hHeld ?_ ?_; rotate_left; (rintro w' ⟨s0, s1, s2, s3⟩; go_simp; (with_reducible rfl)); rotate_left; (simp only [Act.put, zt, zu, zv, i64_w, i32_w]; rfl); refine pure_ (i := 5) (N := some 61) (v := ?_) (a' := ?_) #[T,T,T,T,T,T,F,F,F] rfl rfl (any_of HT_.out (by kernel_rfl)) (fun _ _ _ h => h) (Or.inl ⟨by rfl, ?_⟩) ?_ ?_; rotate_left; (intro w'; go_simp; (with_reducible rfl)); rotate_left; (simp only [Act.put, zt, zu, zv, i64_w, i32_w]; rfl); refine take_ (i := 6) (N := some 62) (v := ?_) (a' := ?_) #[T,T,T,T,T,T,T,F,F] rfl rfl (take_ofW HT_.out HW_.out (by kernel_rfl)) (fun _ _ _ h => h) (Or.inl ⟨by rfl, ?_⟩) hHeld ?_ ?_; rotate_left; (rintro w' ⟨s0, s1, s2, s3⟩; go_simp; (with_reducible rfl)); rotate_left; (simp only [Act.put, zt, zu, zv, i64_w, i32_w]; rfl); refine pure_ (i := 7) (N := some 63) (v := ?_) (a' := ?_) #[T,T,T,T,T,T,T,T,F] rfl rfl (any_of HT_.out (by kernel_rfl)) (fun _ _ _ h => h) (Or.inl ⟨by rfl, ?_⟩) ?_ ?_; rotate_left; (intro w'; go_simp; (with_reducible rfl)); rotate_left; (simp only [Act.put, zt, zu, zv, i64_w, i32_w]; rfl); refine last_ (i := 8) (N := none) #[T,T,T,T,T,T,T,T,T] rfl rfl (one_of HT_.out (by kernel_rfl)) (by decide) (fun K hK => ?_); refine skip_ (w1 := ?_) (by rfl) rfl ?_ ?_; rotate_left; (go_simp; rfl); refine hK.out _ _ ?_; clear hK K; refine done_ (done_of HT_.out (by kernel_rfl)) ?_
                     try go_wp2
                     go_roundg k3
                     case measure => have := HK1.out; have := HK2.out; have := HK3.out; omega
                     case rel => exact ⟨(y251), (wrap64 (x51_3 + 1)), (by first | rfl | (simp; done) | (simp [*]; done)), H', ⟨by have := HK1.out; have := HK2.out; have := HK3.out; omega⟩, ⟨by (with_reducible repeat (first | apply Kd.R_alloc | apply Kd.R_drewN | apply Kd.R_drew)); exact Kd.R_mono HQ39.out (fun _ hk => hk.1)⟩, ⟨by (with_reducible repeat (first | apply Kd.R_alloc | apply Kd.R_drewN | apply Kd.R_drew)); exact Kd.R_mono (Kd.R_far (p := ⟨go34, ((ji31) : Int).toNat * 3 + 2, none⟩) (Kd.R_far (p := ⟨go34, ((ji31) : Int).toNat * 3 + 1, none⟩) (Kd.R_far (p := ⟨go34, ((ji31) : Int).toNat * 3, none⟩) (Kd.R_mono HO_49.out (fun k_ hk => (⟨hk, fun e_ => hk.1 (by rw [e_]; rfl)⟩ : _ ∧ k_ ≠ go34))) (fun _ hk => hk.2) (.string ((rd_T37 t245 x51_3).f0))) (fun _ hk => hk.2) (.string ((rd_T37 t245 x51_3).f1))) (fun _ hk => hk.2) (.int .i64 ((rd_T37 t245 x51_3).f2))) (fun _ hk => hk.1.1)⟩, ⟨by with_reducible repeat first | exact HB.out | apply zA | apply zN | apply zD | refine zS ?_ GB34.out | refine zS ?_ GB34.out | refine zS ?_ GB34.out | refine zS ?_ GE249.out⟩⟩
                    ·
                     rw [if_neg c33] at H; exact absurd H (by simp)
                   ·
                    rw [if_neg c32] at H; exact absurd H (by simp)
                  ·
                   rw [if_neg c30] at H; exact absurd H (by simp)
                 ·
                  rw [if_neg c29] at H; exact absurd H (by simp)
                ·
                 rw [if_neg c28] at H; exact absurd H (by simp)
               ·
                rw [if_neg c27] at H; have c27b0 := decide_eq_false c27; clear c27; have H' := zk H; clear H; go_wp2
                go_roundg k3
                case measure => have := HK1.out; have := HK2.out; have := HK3.out; omega
                case rel => exact ⟨(x5_3), (wrap64 (x18_1 + 1)), (by first | rfl | (simp; done) | (simp [*]; done)), H', ⟨by have := HK1.out; have := HK2.out; have := HK3.out; omega⟩, ⟨by (with_reducible repeat (first | apply Kd.R_alloc | apply Kd.R_drewN | apply Kd.R_drew)); exact Kd.R_mono HO_5.out (fun _ hk => trivial)⟩, ⟨by with_reducible repeat first | exact HB.out | apply zA | apply zN | apply zD⟩⟩
         ·
          rw [if_neg c11] at H; exact absurd H (by simp)
        ·
         rw [if_neg c10] at H; exact absurd H (by simp)
       ·
        rw [if_neg c9] at H; exact absurd H (by simp)
      ·
       rw [if_neg c8] at H; exact absurd H (by simp)
     ·
      rw [if_neg c7] at H; have c7b0 := decide_eq_false c7; clear c7; obtain rfl := Option.some.inj H; go_wp2; go_ret; exact ⟨_, by first | rfl | (simp [wN, wS] <;> rfl) | (simp [*, wN, wS] <;> rfl), by (with_reducible repeat (first | apply Kd.R_alloc | apply Kd.R_drewN | apply Kd.R_drew)); exact HO_5.out, by with_reducible repeat first | exact HB.out | apply zA | apply zN | apply zD⟩
  ·
   rw [if_neg c4] at H; exact absurd H (by simp)
 ·
  rw [if_neg c3] at H; exact absurd H (by simp)
end Go.Proofs.Ytelacebdmmanhaa.G
namespace Go.Proofs.Ytelacebdmmanhaa.G
open Go.RowKit Go.Proofs.YtelacebdmmanhaaW.PrintWords Go.Proofs.YtelacebdmmanhaaW.PrintLast Go.Proofs.YtelacebdmmanhaaW.PrintMore
set_option linter.unusedVariables false
set_option linter.unusedSimpArgs false
/-- How many of the first so many rows stand below that handle, have that tag and no key. -/
def cntR (l : List S32) (u : Int) (t : List UInt8) : Nat → Nat
  | 0 => 0
  | p + 1 => if (rd_T32 l p).f1 = u ∧ (rd_T32 l p).f3.toList = [] ∧ (rd_T32 l p).f2.toList = t then cntR l u t p + 1 else cntR l u t p
def labR (l : List S32) (p : Nat) : S37 := ⟨(rd_T32 l p).f2, (rd_T32 l p).f3, if (rd_T32 l p).f3.toList = [] then (cntR l (rd_T32 l p).f1 (rd_T32 l p).f2.toList (p + 1) : Int) else 0⟩
def labsR (l : List S32) (n : Nat) : List S37 := (List.range n).map (labR l)
theorem labsR_len (l : List S32) (n : Nat) : (labsR l n).length = n := by simp [labsR]
theorem labsR_at (l : List S32) (n p : Nat) (h : p < n) : rd_T37 (labsR l n) p = labR l p := by
  unfold rd_T37 labsR; rw [Int.toNat_natCast, List.getD_eq_getElem?_getD, List.getElem?_map, List.getElem?_range h]; rfl
/-- What stands in a round. -/
structure LbI (w W : World) (gb : Nat) (v3 : Value) (L : List S37) (s2 s3 : ByteArray) (N : Int) : Prop where
  b : Below w.heap.size w W
  r : Kd.R k37 37 W w.heap.size (fun k => k ≠ gb) v3 L
  x : W.heap[gb]? = some (.cells #[.string s2, .string s3, .int .i64 N] 37 (0, 0))
  ge : w.heap.size ≤ gb
theorem LbI.set {w W : World} {gb : Nat} {v3 : Value} {L : List S37} {s2 s3 : ByteArray} {N : Int} (h : LbI w W gb v3 L s2 s3 N) (M : Int) : LbI w (W.setCell ⟨gb, 2, none⟩ (.int .i64 M)) gb v3 L s2 s3 M :=
  ⟨h.b.setCell (p := ⟨gb, 2, none⟩) h.ge _, Kd.R_far h.r (p := ⟨gb, 2, none⟩) (fun k hk => hk) _, zP h.x 2 _ rfl, h.ge⟩
end Go.Proofs.Ytelacebdmmanhaa.G
namespace Go.Proofs.Ytelacebdmmanhaa.Pure
open Go.RowKit Go.Proofs.Ytelacebdmmanhaa.G Go.Proofs.YtelacebdmmanhaaW.PrintWords Go.Proofs.YtelacebdmmanhaaW.PrintLast
set_option linter.unusedVariables false
def Ev {α : Type} (f : Nat → Option α) (r : α) : Prop := ∃ k0, ∀ k, k0 ≤ k → f k = some r
theorem Ev.all {α : Type} {f : Nat → Option α} {r : α} (h : ∀ k, f k = some r) : Ev f r := ⟨0, fun k _ => h k⟩
theorem Ev.pure {α : Type} (r : α) : Ev (fun _ => some r) r := .all fun _ => rfl
theorem Ev.of {α : Type} {f : Nat → Option α} {r : α} (m : ∀ k, LeO (f k) (f (k + 1))) {k : Nat} (h : f k = some r) : Ev f r :=
  ⟨k, fun j hj => by
    obtain ⟨d, rfl⟩ : ∃ d, j = k + d := ⟨j - k, by omega⟩
    clear hj
    induction d with
    | zero => exact h
    | succ d ih => exact m _ _ ih⟩
theorem Ev.step {α : Type} {f g : Nat → Option α} {r : α} (hg : Ev g r) (h : ∀ k, f (k + 1) = g k) : Ev f r := by
  obtain ⟨k0, hk⟩ := hg; exact ⟨k0 + 1, fun k hk' => by obtain ⟨m, rfl⟩ : ∃ m, k = m + 1 := ⟨k - 1, by omega⟩; rw [h]; exact hk m (by omega)⟩
theorem Ev.eq {α : Type} {f g : Nat → Option α} {r : α} (hg : Ev g r) (h : ∀ k, f k = g k) : Ev f r := by
  obtain ⟨k0, hk⟩ := hg; exact ⟨k0, fun k hk' => by rw [h]; exact hk k hk'⟩
theorem Ev.bind {α β : Type} {f : Nat → Option α} {g : Nat → α → Option β} {a : α} {r : β} (hf : Ev f a) (hg : Ev (fun k => g k a) r) : Ev (fun k => (f k).bind (g k)) r := by
  obtain ⟨k0, h0⟩ := hf; obtain ⟨k1, h1⟩ := hg; exact ⟨max k0 k1, fun k hk => by show (f k).bind (g k) = some r; rw [h0 k (by omega)]; exact h1 k (by omega)⟩
theorem Ev.via {α β : Type} {f : Nat → Option α} {g F : Nat → Option β} {a : α} {r : β} (hf : Ev f a) (hg : Ev g r) (h : ∀ k, f k = some a → F (k + 1) = g k) : Ev F r := by
  obtain ⟨k0, h0⟩ := hf; obtain ⟨k1, h1⟩ := hg; exact ⟨max k0 k1 + 1, fun k hk => by obtain ⟨m, rfl⟩ : ∃ m, k = m + 1 := ⟨k - 1, by omega⟩; rw [h m (h0 m (by omega))]; exact h1 m (by omega)⟩
theorem Ev.via0 {α β : Type} {f : Nat → Option α} {g F : Nat → Option β} {a : α} {r : β} (hf : Ev f a) (hg : Ev g r) (h : ∀ k, f k = some a → F k = g k) : Ev F r := by
  obtain ⟨k0, h0⟩ := hf; obtain ⟨k1, h1⟩ := hg; exact ⟨max k0 k1, fun k hk => by rw [h k (h0 k (by omega))]; exact h1 k (by omega)⟩
theorem Ev.ex {α : Type} {f : Nat → Option α} {r : α} (h : Ev f r) : ∃ k, f k = some r := by
  obtain ⟨k0, hk⟩ := h; exact ⟨k0, hk k0 (Nat.le_refl _)⟩
theorem Ev.uniq {α : Type} {f : Nat → Option α} {r s : α} (h : Ev f r) (h' : Ev f s) : r = s := by
  obtain ⟨k0, h0⟩ := h; obtain ⟨k1, h1⟩ := h'; have := (h0 (max k0 k1) (by omega)).symm.trans (h1 (max k0 k1) (by omega)); injection this
theorem w1 {i : Int} (h0 : -1000000000000000000 ≤ i) (h : i ≤ 1000000000000000000) : wrap64 (i + 1) = i + 1 := by unfold wrap64; omega
theorem wm {i : Int} (h0 : -1000000000000000000 ≤ i) (h : i ≤ 1000000000000000000) : wrap64 (i - 1) = i - 1 := by unfold wrap64; omega
theorem ww {i : Int} (h0 : -9000000000000000000 ≤ i) (h : i ≤ 9000000000000000000) : wrap64 i = i := by unfold wrap64; omega
theorem rd42_mem (l : List S39) (i : Int) (h0 : 0 ≤ i) (h : i < l.length) : rd_T39 l i ∈ l := by
  unfold rd_T39; rw [List.getD_eq_getElem?_getD, List.getElem?_eq_getElem (by omega)]; exact List.getElem_mem _
theorem bt_range (s : ByteArray) (i : Int) : 0 ≤ bt s i ∧ bt s i < 256 := by
  unfold bt; split; (have := UInt8.toNat_lt (s[i.toNat]'(by assumption)); constructor <;> omega); (omega)
/-- Is a byte one of a name's? -/
def inner (c : Int) (f : Bool) : Bool := (decide (97 ≤ c) && decide (c ≤ 122)) || (decide (48 ≤ c) && decide (c ≤ 57)) || (c == 45) || (f && ((c == 58) || (c == 46)))
def extra (f : Bool) : ByteArray := if f then ⟨#[45, 58, 46]⟩ else ⟨#[45]⟩
theorem inner_ref (c : Int) (f : Bool) : r02_inner.f c f = some (inner c f) := by
  unfold r02_inner.f inner
  by_cases h1 : 97 ≤ c <;> by_cases h2 : c ≤ 122 <;> by_cases h3 : 48 ≤ c <;> by_cases h4 : c ≤ 57 <;> by_cases h5 : c = 45 <;> by_cases h6 : c = 58 <;> by_cases h7 : c = 46 <;>
    first
      | (exfalso; omega)
      | (cases f <;> simp [h1, h2, h3, h4, h5, h6, h7, show (c == 45) = decide (c = 45) from rfl, show (c == 58) = decide (c = 58) from rfl, show (c == 46) = decide (c = 46) from rfl])
theorem index_extra (f : Bool) : ∀ n : Fin 256, (decide (Lib.indexByte (extra f).data.toList n.1.toUInt8 < 0)) = !((n.1 == 45) || (f && ((n.1 == 58) || (n.1 == 46)))) := by
  cases f <;> decide +kernel
theorem index_lt (c : Int) (h0 : 0 ≤ c) (h1 : c < 256) (f : Bool) : Lib.indexByte (extra f).data.toList c.toNat.toUInt8 < 0 ↔ ((c == 45) || (f && ((c == 58) || (c == 46)))) = false := by
  have := index_extra f ⟨c.toNat, by omega⟩; simp only at this; obtain ⟨n, rfl⟩ : ∃ n : Nat, c = n := ⟨c.toNat, by omega⟩; simp only [Int.toNat_natCast] at this ⊢
  have hd : (Lib.indexByte (extra f).data.toList n.toUInt8 < 0) ↔ decide (Lib.indexByte (extra f).data.toList n.toUInt8 < 0) = true := by simp
  rw [hd, this]
  have h (m : Nat) : ((n : Int) == (m : Int)) = (n == m) := by
    by_cases e : n = m
    · subst e; rw [beq_self_eq_true, beq_self_eq_true]
    · have : ¬ (n : Int) = (m : Int) := by omega
      rw [beq_eq_false_iff_ne.2 this, beq_eq_false_iff_ne.2 e]
  rw [show ((45 : Int) = ((45 : Nat) : Int)) from rfl, show ((58 : Int) = ((58 : Nat) : Int)) from rfl, show ((46 : Int) = ((46 : Nat) : Int)) from rfl, h, h, h]; cases f <;> simp
def NamedOK (s : ByteArray) (f : Bool) : Prop := 1 ≤ s.size ∧ s.size ≤ 32 ∧ 97 ≤ bt s 0 ∧ bt s 0 ≤ 122 ∧ ∀ i : Int, 0 ≤ i → i < s.size → inner (bt s i) f = true
theorem named_prog_l0 (s : ByteArray) (f : Bool) (hs : s.size ≤ 32) (d : Nat) : ∀ i : Int, 0 ≤ i → (s.size : Int) - i = d →
    ∃ b, Ev (fun k => chars_named.l0 k s (extra f) s.size i) b ∧ (b = true ↔ ∀ j : Int, i ≤ j → j < s.size → inner (bt s j) f = true) := by
  induction d with
  | zero =>
    intro i h0 hd; exact ⟨true, (Ev.pure true).step (fun k => by rw [chars_named.l0, if_neg (by omega)]), by simp; intro j h1 h2; omega⟩
  | succ d ih =>
    intro i h0 hd; obtain ⟨b, hb, hi⟩ := ih (i + 1) (by omega) (by omega); have hr := bt_range s i; have hw : wrap64 (i + 1) = i + 1 := w1 (by omega) (by omega)
    by_cases hc : inner (bt s i) f = true
    · refine ⟨b, hb.step (fun k => ?_), ?_⟩
      · rw [chars_named.l0, if_pos (by omega), if_pos h0, if_pos (by omega), hw]
        have hidx := index_lt (bt s i) hr.1 hr.2 f
        simp only [chars_small.f, strings_IndexByte.f]
        simp only [inner, Bool.or_eq_true, Bool.and_eq_true, decide_eq_true_eq, beq_iff_eq] at hc
        simp only [Bool.or_eq_false_iff, beq_eq_false_iff_ne] at hidx
        by_cases c1 : bt s i ≥ 97
        · by_cases c2 : bt s i ≤ 122
          · simp [c1, c2]
          · have hn : ¬ Lib.indexByte (extra f).data.toList (bt s i).toNat.toUInt8 < 0 := by
              rw [hidx]
              cases f <;> simp at hc ⊢ <;> omega
            simp [c1, c2, show ¬ bt s i < 48 by omega, show bt s i > 57 by omega, hn]
        · by_cases c2 : bt s i < 48
          · have hn : ¬ Lib.indexByte (extra f).data.toList (bt s i).toNat.toUInt8 < 0 := by
              rw [hidx]
              cases f <;> simp at hc ⊢ <;> omega
            simp [c1, c2, hn]
          · by_cases c3 : bt s i > 57
            · have hn : ¬ Lib.indexByte (extra f).data.toList (bt s i).toNat.toUInt8 < 0 := by
                rw [hidx]
                cases f <;> simp at hc ⊢ <;> omega
              simp [c1, c2, c3, hn]
            · simp [c1, c2, c3]
      · rw [hi]
        constructor
        · intro h j h1 h2
          by_cases e : j = i
          · subst e; exact hc
          · exact h j (by omega) h2
        · intro h j h1 h2
          exact h j (by omega) h2
    · refine ⟨false, (Ev.pure false).step (fun k => ?_), by simp; exact ⟨i, by omega, by omega, by simpa using hc⟩⟩
      rw [chars_named.l0, if_pos (by omega), if_pos h0, if_pos (by omega)]
      have hidx := index_lt (bt s i) hr.1 hr.2 f
      simp only [chars_small.f, strings_IndexByte.f]
      simp only [inner, Bool.not_eq_true, Bool.or_eq_false_iff, Bool.and_eq_false_iff, decide_eq_false_iff_not, beq_eq_false_iff_ne] at hc
      simp only [Bool.or_eq_false_iff, Bool.and_eq_false_iff, beq_eq_false_iff_ne] at hidx
      have hn : Lib.indexByte (extra f).data.toList (bt s i).toNat.toUInt8 < 0 := by
        rw [hidx]; exact ⟨hc.1.2, hc.2⟩
      by_cases c1 : bt s i ≥ 97
      · have c2 : ¬ bt s i ≤ 122 := by omega
        simp [c1, c2, show ¬ bt s i < 48 by omega, show bt s i > 57 by omega, hn]
      · by_cases c2 : bt s i < 48
        · simp [c1, c2, hn]
        · have c3 : bt s i > 57 := by omega
          simp [c1, c2, c3, hn]
theorem named_ref_l0 (s : ByteArray) (f : Bool) (hs : s.size ≤ 32) (d : Nat) : ∀ i : Int, 0 ≤ i → (s.size : Int) - i = d →
    ∃ b, Ev (fun k => r02_Named.l0 k s f i) b ∧ (b = true ↔ ∀ j : Int, i ≤ j → j < s.size → inner (bt s j) f = true) := by
  induction d with
  | zero =>
    intro i h0 hd; exact ⟨true, (Ev.pure true).step (fun k => by rw [r02_Named.l0, if_neg (by omega)]), by simp; intro j h1 h2; omega⟩
  | succ d ih =>
    intro i h0 hd; obtain ⟨b, hb, hi⟩ := ih (i + 1) (by omega) (by omega); have hw : wrap64 (i + 1) = i + 1 := w1 (by omega) (by omega)
    by_cases hc : inner (bt s i) f = true
    · refine ⟨b, hb.step (fun k => ?_), ?_⟩
      · rw [r02_Named.l0, if_pos (by omega), if_pos h0, hw, inner_ref, hc]
        simp
      · rw [hi]
        constructor
        · intro h j h1 h2
          by_cases e : j = i
          · subst e; exact hc
          · exact h j (by omega) h2
        · intro h j h1 h2
          exact h j (by omega) h2
    · refine ⟨false, (Ev.pure false).step (fun k => ?_), by simp; exact ⟨i, by omega, by omega, by simpa using hc⟩⟩
      rw [r02_Named.l0, if_pos (by omega), if_pos h0, inner_ref]; simp [hc]
theorem toList_nil {s : ByteArray} : s.toList = [] ↔ s.size = 0 := by
  rw [Lib.toList_data]; constructor; (intro h; have := congrArg List.length h; simpa using this); (intro h; exact List.eq_nil_of_length_eq_zero (by simpa using h))
/-- The names' test: both come to the same. -/
theorem named (s : ByteArray) (f : Bool) : ∃ b, Ev (fun k => chars_named.f k s (extra f)) b ∧ Ev (fun k => r02_Named.f k s f) b ∧ (b = true ↔ NamedOK s f) := by
  by_cases h0 : s.size = 0
  · refine ⟨false, (Ev.pure false).step (fun k => ?_), (Ev.pure false).step (fun k => ?_), by simp [NamedOK, h0]⟩
    · rw [chars_named.f, if_pos (toList_nil.2 h0), chars_named.j0, if_pos rfl]
    · rw [r02_Named.f, if_pos (by omega), r02_Named.j0, if_pos rfl]
  by_cases h1 : s.size ≤ 32
  · by_cases h2 : 97 ≤ bt s 0 ∧ bt s 0 ≤ 122
    · have hin : inner (bt s 0) f = true := by simp [inner, h2.1, h2.2]
      obtain ⟨b, hb, hi⟩ := named_prog_l0 s f h1 s.size 0 (by omega) (by omega)
      obtain ⟨b', hb', hi'⟩ := named_ref_l0 s f h1 (s.size - 1) 1 (by omega) (by omega)
      have e : b = b' := by
        rw [Bool.eq_iff_iff, hi, hi']; constructor; (intro h j h3 h4; exact h j (by omega) h4)
        · intro h j h3 h4
          by_cases e : j = 0
          · subst e; exact hin
          · exact h j (by omega) h4
      subst e
      refine ⟨b, hb.step (fun k => ?_), hb'.step (fun k => ?_), ?_⟩
      · rw [chars_named.f, if_neg (fun h => h0 (toList_nil.1 h)), if_neg (by omega), if_pos (by omega), chars_small.f, if_pos h2.1]
        simp only [Option.bind_some, h2.2, decide_true, Bool.not_true]
        rw [chars_named.j0, if_neg (by decide)]
      · rw [r02_Named.f, if_neg (by omega), if_neg (by omega), if_pos (by omega), if_neg (by omega), r02_Named.j0, if_neg (by simp; omega)]
      · rw [hi]
        exact ⟨fun h => ⟨by omega, h1, h2.1, h2.2, fun i h3 h4 => h i h3 h4⟩, fun h i h3 h4 => h.2.2.2.2 i h3 h4⟩
    · refine ⟨false, (Ev.pure false).step (fun k => ?_), (Ev.pure false).step (fun k => ?_), by simp [NamedOK]; intro _ _ h3 h4; exact absurd ⟨h3, h4⟩ h2⟩
      · rw [chars_named.f, if_neg (fun h => h0 (toList_nil.1 h)), if_neg (by omega), if_pos (by omega), chars_small.f]
        by_cases c : bt s 0 ≥ 97
        · rw [if_pos c]
          have : ¬ bt s 0 ≤ 122 := fun h => h2 ⟨c, h⟩
          simp [this, chars_named.j0]
        · rw [if_neg c]
          simp [chars_named.j0]
      · rw [r02_Named.f, if_neg (by omega), if_neg (by omega), if_pos (by omega)]
        by_cases c : bt s 0 < 97
        · rw [if_pos c]
          simp [r02_Named.j0]
        · rw [if_neg c, r02_Named.j0, if_pos (by simp; omega)]
  · refine ⟨false, (Ev.pure false).step (fun k => ?_), (Ev.pure false).step (fun k => ?_), by simp [NamedOK]; intro _ h; exact absurd h h1⟩
    · rw [chars_named.f, if_neg (fun h => h0 (toList_nil.1 h)), if_pos (by omega), chars_named.j0, if_pos rfl]
    · rw [r02_Named.f, if_neg (by omega), if_pos (by omega), r02_Named.j0, if_pos rfl]
theorem drop_bt (s : ByteArray) (i : Int) (h0 : 0 ≤ i) (h : i < s.size) : ∃ b : UInt8, (b.toNat : Int) = bt s i ∧ s.toList.drop i.toNat = b :: s.toList.drop (i + 1).toNat := by
  have hl : s.toList.length = s.size := by rw [Lib.toList_data]; simp
  refine ⟨s.toList[i.toNat]'(by omega), ?_, ?_⟩
  · unfold bt
    rw [dif_pos (by omega)]
    congr 1
    simp only [Lib.toList_data]
    rfl
  · rw [List.drop_eq_getElem_cons (by omega), show (i + 1).toNat = i.toNat + 1 by omega]
theorem compare_l0 (x y : ByteArray) (hx : x.size ≤ 140737488351232) (d : Nat) : ∀ i : Int, 0 ≤ i → i ≤ x.size → i ≤ y.size → (x.size : Int) - i = d →
    ∃ t, Ev (fun k => r02_Compare.l0 k x y i) t ∧ (t > 0 ↔ Op.bytesLess (y.toList.drop i.toNat) (x.toList.drop i.toNat) = true) := by
  have hlx : x.toList.length = x.size := by rw [Lib.toList_data]; simp
  have hly : y.toList.length = y.size := by rw [Lib.toList_data]; simp
  induction d with
  | zero =>
    intro i h0 hix hiy hd; have e : x.toList.drop i.toNat = [] := List.drop_eq_nil_of_le (by omega)
    by_cases c : (x.size : Int) < y.size
    (refine ⟨-1, ((Ev.pure (-1)).step (f := fun k => r02_Compare.j1 k x y i false) (fun k => by rw [r02_Compare.j1, if_neg (by decide), if_pos c])).step (fun k => by rw [r02_Compare.l0, if_neg (by omega)]), ?_⟩; rw [e]; cases y.toList.drop i.toNat <;> simp [Op.bytesLess]); (refine ⟨0, ((Ev.pure 0).step (f := fun k => r02_Compare.j1 k x y i false) (fun k => by rw [r02_Compare.j1, if_neg (by decide), if_neg c, if_neg (by omega)])).step (fun k => by rw [r02_Compare.l0, if_neg (by omega)]), ?_⟩; rw [e]; cases y.toList.drop i.toNat <;> simp [Op.bytesLess])
  | succ d ih =>
    intro i h0 hix hiy hd; obtain ⟨bx, ex, dx⟩ := drop_bt x i h0 (by omega)
    by_cases c : i < (y.size : Int)
    · obtain ⟨by', ey, dy⟩ := drop_bt y i h0 c
      have st (g : Nat → Option Int) (t : Int) (hg : Ev g t) (h : ∀ k, r02_Compare.j1 (k + 1) x y i true = g k) : Ev (fun k => r02_Compare.l0 k x y i) t :=
        (hg.step (f := fun k => r02_Compare.j1 k x y i true) h).step (fun k => by rw [r02_Compare.l0, if_pos (by omega), decide_eq_true c])
      rw [dx, dy]
      have lt {a b : UInt8} : a < b ↔ (a.toNat : Int) < b.toNat := by rw [UInt8.lt_iff_toNat_lt]; omega
      by_cases c1 : bt x i < bt y i
      · refine ⟨-1, st _ _ (Ev.pure (-1)) (fun k => by rw [r02_Compare.j1, if_pos rfl, if_pos h0, if_pos (by omega), if_pos c, if_pos c1]), ?_⟩
        have h1 : ¬ by' < bx := by rw [lt]; omega
        have h2 : ¬ by' = bx := by intro e; subst e; omega
        simp [Op.bytesLess, h1, h2]
      · by_cases c2 : bt x i > bt y i
        · refine ⟨1, st _ _ (Ev.pure 1) (fun k => by rw [r02_Compare.j1, if_pos rfl, if_pos h0, if_pos (by omega), if_pos c, if_neg c1, if_pos c2]), ?_⟩
          have h1 : by' < bx := by rw [lt]; omega
          simp [Op.bytesLess, h1]
        · obtain ⟨t, ht, hi⟩ := ih (i + 1) (by omega) (by omega) (by omega) (by omega)
          refine ⟨t, st _ _ ht (fun k => by rw [r02_Compare.j1, if_pos rfl, if_pos h0, if_pos (by omega), if_pos c, if_neg c1, if_neg c2, w1 (by omega) (by omega)]), ?_⟩
          rw [hi]
          have h2 : by' = bx := by apply UInt8.toNat_inj.1; omega
          subst h2
          have h1 : ¬ by' < by' := by rw [lt]; omega
          simp [Op.bytesLess, h1]
    · have e : y.toList.drop i.toNat = [] := List.drop_eq_nil_of_le (by omega)
      refine ⟨1, ((Ev.pure 1).step (f := fun k => r02_Compare.j1 k x y i false) (fun k => by rw [r02_Compare.j1, if_neg (by decide), if_neg (by omega), if_pos (by omega)])).step (fun k => by rw [r02_Compare.l0, if_pos (by omega), decide_eq_false c]), ?_⟩; rw [dx, e]; simp [Op.bytesLess]
theorem compare (x y : ByteArray) (hx : x.size ≤ 140737488351232) : ∃ t, Ev (fun k => r02_Compare.f k x y) t ∧ (t > 0 ↔ Op.bytesLess y.toList x.toList = true) := by
  obtain ⟨t, ht, hi⟩ := compare_l0 x y hx x.size 0 (by omega) (by omega) (by omega) (by omega); exact ⟨t, ht.eq (fun k => rfl), by simpa using hi⟩
theorem attrs_l0 (l : List S39) (hl : l.length ≤ 140737488351232) (hs : ∀ y ∈ l, Sm39 y) (d : Nat) : ∀ i : Int, 0 ≤ i → (l.length : Int) - i = d →
    ∃ r, Ev (fun k => attrs_Check.l0 k l l l.length i) r ∧ Ev (fun k => r09_Check.l0 k l l.length i) r := by
  induction d with
  | zero =>
    intro i h0 hd; exact ⟨(0, 0), (Ev.pure _).step (fun k => by rw [attrs_Check.l0, if_neg (by omega)]), (Ev.pure _).step (fun k => by rw [r09_Check.l0, if_neg (by omega)])⟩
  | succ d ih =>
    intro i h0 hd; obtain ⟨r, hp, hq⟩ := ih (i + 1) (by omega) (by omega)
    have hi : i < (l.length : Int) := by omega
    have hw : wrap64 (i + 1) = i + 1 := w1 (by omega) (by omega); have hv : wrap64 (i - 1) = i - 1 := wm (by omega) (by omega)
    by_cases c64 : i = 64
    (exact ⟨(i, 12), (Ev.pure _).step (fun k => by rw [attrs_Check.l0, if_pos hi, if_pos h0, if_pos hi, if_pos c64, if_neg (by decide)]), (Ev.pure _).step (fun k => by rw [r09_Check.l0, if_pos hi, if_pos c64])⟩); obtain ⟨b, nb, nb', _⟩ := named (rd_T39 l i).f0 true; have nb : Ev (fun k => chars_Name.f k (rd_T39 l i).f0) b := (nb.bind (g := fun _ t => some t) (Ev.pure b)).eq (fun k => rfl)
    cases b with
    | false =>
      exact ⟨(i, 8), nb.via (Ev.pure _) (fun k hk => by rw [attrs_Check.l0, if_pos hi, if_pos h0, if_pos hi, if_neg c64, hk]; rfl),
        nb'.via (Ev.pure _) (fun k hk => by rw [r09_Check.l0, if_pos hi, if_neg c64, if_pos h0, if_pos hi, hk]; rfl)⟩
    | true =>
    by_cases cf : ((rd_T39 l i).f1.size : Int) ≤ 65536
    case neg =>
      refine ⟨(i, 3), nb.via (Ev.pure _) (fun k hk => ?_), nb'.via (Ev.pure _) (fun k hk => ?_)⟩; (rw [attrs_Check.l0, if_pos hi, if_pos h0, if_pos hi, if_neg c64, hk]; simp [chars_Fits.f, cf]); (rw [r09_Check.l0, if_pos hi, if_neg c64, if_pos h0, if_pos hi, hk]; simp [show ((rd_T39 l i).f1.size : Int) > 65536 by omega])
    by_cases ci : i > 0
    case neg =>
      have p0 : Ev (fun k => attrs_Check.j2 k l i 0 l l.length i false) r := hp.step (fun k => by rw [attrs_Check.j2, if_neg (by decide), if_pos rfl, hw]); have p1 : Ev (fun k => attrs_Check.j1 k l i 0 l l.length i false (rd_T39 l i).f0 (rd_T39 l i).f1) r := p0.step (fun k => by rw [attrs_Check.j1, if_neg (by decide), if_neg ci]); have q1 : Ev (fun k => r09_Check.j1 k l i l.length i false) r := hq.step (fun k => by rw [r09_Check.j1, if_neg (by decide), if_neg ci, hw]); refine ⟨r, nb.via p1 (fun k hk => ?_), nb'.via q1 (fun k hk => ?_)⟩; (rw [attrs_Check.l0, if_pos hi, if_pos h0, if_pos hi, if_neg c64, hk]; simp [chars_Fits.f, cf, show ¬ 0 < i by omega]); (rw [r09_Check.l0, if_pos hi, if_neg c64, if_pos h0, if_pos hi, hk]; simp [show ¬ ((rd_T39 l i).f1.size : Int) > 65536 by omega, show ¬ 0 < i by omega])
    have hvi : 0 ≤ wrap64 (i - 1) ∧ wrap64 (i - 1) < (l.length : Int) := by rw [hv]; omega
    obtain ⟨e, he⟩ : ∃ e, ((rd_T39 l (wrap64 (i - 1))).f0.toList == (rd_T39 l i).f0.toList) = e := ⟨_, rfl⟩
    have fin (r : Int × Int) (p1 : Ev (fun k => attrs_Check.j1 k l i 0 l l.length i e (rd_T39 l i).f0 (rd_T39 l i).f1) r) (q1 : Ev (fun k => r09_Check.j1 k l i l.length i e) r) :
        ∃ r, Ev (fun k => attrs_Check.l0 k l l l.length i) r ∧ Ev (fun k => r09_Check.l0 k l l.length i) r := by
      refine ⟨r, nb.via p1 (fun k hk => ?_), nb'.via q1 (fun k hk => ?_)⟩
      · rw [attrs_Check.l0, if_pos hi, if_pos h0, if_pos hi, if_neg c64, hk]; rw [← he]; simp [chars_Fits.f, cf, show 0 < i by omega, hvi]
      · rw [r09_Check.l0, if_pos hi, if_neg c64, if_pos h0, if_pos hi, hk]; rw [← he]; simp [show ¬ ((rd_T39 l i).f1.size : Int) > 65536 by omega, show 0 < i by omega, hvi]
    cases e with
    | true => exact fin (i, 10) ((Ev.pure _).step (fun k => by rw [attrs_Check.j1, if_pos rfl, if_neg (by decide)])) ((Ev.pure _).step (fun k => by rw [r09_Check.j1, if_pos rfl]))
    | false =>
      obtain ⟨t, ht, hti⟩ := compare (rd_T39 l (wrap64 (i - 1))).f0 (rd_T39 l i).f0 (hs _ (rd42_mem l _ hvi.1 hvi.2)).h0; obtain ⟨b, hb⟩ : ∃ b, Op.bytesLess (rd_T39 l i).f0.toList (rd_T39 l (wrap64 (i - 1))).f0.toList = b := ⟨_, rfl⟩; rw [hb] at hti
      cases b with
      | true =>
        have ht0 : t > 0 := hti.2 rfl; refine fin (i, 9) (((Ev.pure (i, (9 : Int))).step (f := fun k => attrs_Check.j2 k l i 0 l l.length i true) (fun k => by rw [attrs_Check.j2, if_pos rfl, if_neg (by decide)])).step (fun k => by rw [attrs_Check.j1, if_neg (by decide), if_pos ci, if_pos hvi.1, if_pos hvi.2, hb])) ?_; refine (ht.bind (g := fun k t => if t > 0 then some (i, 9) else r09_Check.l0 k l l.length (wrap64 (i + 1))) (Ev.all fun k => by rw [if_pos ht0])).step (fun k => ?_); rw [r09_Check.j1, if_neg (by decide), if_pos ci, if_pos hvi.1, if_pos hvi.2, if_pos h0, if_pos hi]
      | false =>
        have ht0 : ¬ t > 0 := fun h => by have := hti.1 h; cases this
        refine fin r ((hp.step (f := fun k => attrs_Check.j2 k l i 0 l l.length i false) (fun k => by rw [attrs_Check.j2, if_neg (by decide), if_pos rfl, hw])).step (fun k => by rw [attrs_Check.j1, if_neg (by decide), if_pos ci, if_pos hvi.1, if_pos hvi.2, hb])) ?_; refine (ht.bind (g := fun k t => if t > 0 then some (i, 9) else r09_Check.l0 k l l.length (wrap64 (i + 1))) (hq.eq fun k => by rw [if_neg ht0, hw])).step (fun k => ?_); rw [r09_Check.j1, if_neg (by decide), if_pos ci, if_pos hvi.1, if_pos hvi.2, if_pos h0, if_pos hi]
/-- The attributes' test: both come to the same. -/
theorem attrs (l : List S39) (hl : l.length ≤ 140737488351232) (hs : ∀ y ∈ l, Sm39 y) : ∃ r, Ev (fun k => attrs_Check.f k l) r ∧ Ev (fun k => r09_Check.f k l) r := by
  obtain ⟨r, h1, h2⟩ := attrs_l0 l hl hs l.length 0 (by omega) (by omega); exact ⟨r, h1.eq fun k => rfl, h2.eq fun k => rfl⟩
theorem sm_h {x : S54} (h : Sm54 x) : x.f0.size ≤ 140737488351232 ∧ x.f1.size ≤ 140737488351232 ∧ x.f2.size ≤ 140737488351232 ∧ x.f3.length * 32 ≤ 140737488351232 ∧ (∀ y ∈ x.f3, Sm39 y) ∧ x.f4.length * 96 ≤ 140737488351232 ∧ ∀ y ∈ x.f4, Sm54 y := by
  cases h with
  | mk h0 h1 h2 h3 h4 h5 => exact ⟨h0, h1, h2, h3.1, h3.2, h4, h5⟩
/-- What is wrong with a node alone: both come to the same. -/
theorem alone (x : S54) (h : Sm54 x) : ∃ e, Ev (fun k => vtree_wrong.f k x.f0 x.f1 x.f2 x.f3 x.f4) e ∧ Ev (fun k => r11_Alone.f k x.f0 x.f1 x.f2 x.f3 x.f4) e := by
  obtain ⟨s0, s1, s2, s3, s3', _, _⟩ := sm_h h; obtain ⟨b, nb, nb', _⟩ := named x.f0 false; have nb : Ev (fun k => chars_Tag.f k x.f0) b := (nb.bind (g := fun _ t => some t) (Ev.pure b)).eq (fun k => rfl)
  cases b with
  | false =>
    exact ⟨7, nb.via0 (Ev.pure _) (fun k hk => by rw [vtree_wrong.f, hk]; rfl), nb'.via0 (Ev.pure _) (fun k hk => by rw [r11_Alone.f, hk]; rfl)⟩
  | true =>
    have fin (e : Int) (p : Ev (fun k => if (x.f1.size : Int) ≤ 65536 then (if (x.f2.size : Int) ≤ 65536 then (attrs_Check.f k x.f3).bind fun t => some t.2 else some 3) else some 3) e)
        (q : Ev (fun k => if (x.f1.size : Int) ≤ 65536 then (if (x.f2.size : Int) ≤ 65536 then (r09_Check.f k x.f3).bind fun t => some t.2 else some 3) else some 3) e) :
        ∃ e, Ev (fun k => vtree_wrong.f k x.f0 x.f1 x.f2 x.f3 x.f4) e ∧ Ev (fun k => r11_Alone.f k x.f0 x.f1 x.f2 x.f3 x.f4) e := by
      refine ⟨e, nb.via0 p (fun k hk => ?_), nb'.via0 q (fun k hk => ?_)⟩
      · rw [vtree_wrong.f, hk]
        by_cases c1 : (x.f1.size : Int) ≤ 65536 <;> by_cases c2 : (x.f2.size : Int) ≤ 65536 <;> simp [chars_Fits.f, c1, c2]
      · rw [r11_Alone.f, hk]
        have g1 : ((x.f1.size : Int) > 65536) = ¬ ((x.f1.size : Int) ≤ 65536) := by rw [Int.not_le]
        have g2 : ((x.f2.size : Int) > 65536) = ¬ ((x.f2.size : Int) ≤ 65536) := by rw [Int.not_le]
        simp only [g1, g2]
        by_cases c1 : (x.f1.size : Int) ≤ 65536 <;> by_cases c2 : (x.f2.size : Int) ≤ 65536 <;> simp [c1, c2]
    by_cases c1 : (x.f1.size : Int) ≤ 65536
    · by_cases c2 : (x.f2.size : Int) ≤ 65536
      · obtain ⟨r, p, q⟩ := attrs x.f3 (by omega) s3'
        exact fin r.2 ((p.bind (g := fun k t => some t.2) (Ev.pure _)).eq fun k => by rw [if_pos c1, if_pos c2]) ((q.bind (g := fun k t => some t.2) (Ev.pure _)).eq fun k => by rw [if_pos c1, if_pos c2])
      · exact fin 3 (Ev.all fun k => by rw [if_pos c1, if_neg c2]) (Ev.all fun k => by rw [if_pos c1, if_neg c2])
    · exact fin 3 (Ev.all fun k => by rw [if_neg c1]) (Ev.all fun k => by rw [if_neg c1])
mutual
def szT : S54 → Int
  | ⟨_, _, _, _, ks⟩ => 1 + szL ks
def szL : List S54 → Int
  | [] => 0
  | y :: ys => szT y + szL ys
end
mutual
def htT : S54 → Int
  | ⟨_, _, _, _, ks⟩ => 1 + htL ks
def htL : List S54 → Int
  | [] => 0
  | y :: ys => max (htT y) (htL ys)
end
theorem szT_eq (x : S54) : szT x = 1 + szL x.f4 := by cases x; rw [szT]
theorem htT_eq (x : S54) : htT x = 1 + htL x.f4 := by cases x; rw [htT]
open Classical in
noncomputable def wr (x : S54) : Int := if h : ∃ e, Ev (fun k => vtree_wrong.f k x.f0 x.f1 x.f2 x.f3 x.f4) e then h.choose else 0
theorem wr_ev {x : S54} (h : Sm54 x) : Ev (fun k => vtree_wrong.f k x.f0 x.f1 x.f2 x.f3 x.f4) (wr x) ∧ Ev (fun k => r11_Alone.f k x.f0 x.f1 x.f2 x.f3 x.f4) (wr x) := by
  obtain ⟨e, h1, h2⟩ := alone x h; have hx : ∃ e, Ev (fun k => vtree_wrong.f k x.f0 x.f1 x.f2 x.f3 x.f4) e := ⟨e, h1⟩
  have hw : wr x = e := by
    unfold wr; rw [dif_pos hx]; exact Ev.uniq hx.choose_spec h1
  rw [hw]; exact ⟨h1, h2⟩
def next (met : List (List UInt8)) (x : S54) : List (List UInt8) := if x.f1.data.toList = [] then met else x.f1.data.toList :: met
theorem pos_of (x : S54) (h : Sm54 x) : 1 ≤ szT x ∧ 1 ≤ htT x := by
  induction h with
  | @mk x h0 h1 h2 h3 h4 h5 ih =>
    rw [szT_eq, htT_eq]
    have (ks : List S54) (hk : ∀ y ∈ ks, 1 ≤ szT y ∧ 1 ≤ htT y) : 0 ≤ szL ks ∧ 0 ≤ htL ks := by
      induction ks with
      | nil => simp [szL, htL]
      | cons y ys ih2 =>
        have a := hk y (by simp); have b := ih2 (fun z hz => hk z (by simp [hz])); rw [szL, htL]; omega
    have := this x.f4 ih; omega
theorem posL (ks : List S54) (h : ∀ y ∈ ks, Sm54 y) : 0 ≤ szL ks ∧ 0 ≤ htL ks := by
  induction ks with
  | nil => simp [szL, htL]
  | cons y ys ih =>
    have a := pos_of y (h y (by simp)); have b := ih (fun z hz => h z (by simp [hz])); rw [szL, htL]; omega
/-- All nodes have few attributes. -/
inductive FewA : S54 → Prop
  | mk {x : S54} (h3 : x.f3.length ≤ 1000000000) (h4 : ∀ y ∈ x.f4, FewA y) : FewA x
def BT (x : S54) : Prop := ∀ (l : List SIt) (depth u : Int), ∃ new, Ev (fun k => blw1 k l x depth u) (l ++ new) ∧ (∀ it ∈ new, Sm54 it.f0) ∧ (¬ (l.length : Int) > 4096 → ∃ rest, new = ⟨x, depth, u⟩ :: rest)
theorem blwL_ev (ks : List S54) (hb : ∀ y ∈ ks, BT y) : ∀ (l : List SIt) (depth u : Int), ∃ new, Ev (fun k => blw k l ks depth u) (l ++ new) ∧ ∀ it ∈ new, Sm54 it.f0 := by
  induction ks with
  | nil => intro l depth u; exact ⟨[], by simpa using (Ev.pure l).step (fun k => rfl), by simp⟩
  | cons y ys ih =>
    intro l depth u
    by_cases c : (l.length : Int) > 4096
    · exact ⟨[], by simpa using (Ev.pure l).step (f := fun k => blw k l (y :: ys) depth u) (fun k => by rw [blw_cons, if_pos c]), by simp⟩
    · obtain ⟨n1, e1, s1, _⟩ := hb y (by simp) l depth u
      obtain ⟨n2, e2, s2⟩ := ih (fun z hz => hb z (by simp [hz])) (l ++ n1) depth u
      refine ⟨n1 ++ n2, e1.via (by rw [← List.append_assoc]; exact e2) (fun k hk => by rw [blw_cons, if_neg c, hk]; rfl), fun it hit => ?_⟩
      rcases List.mem_append.1 hit with h | h
      · exact s1 it h
      · exact s2 it h
theorem blwT_ev (x : S54) (h : Sm54 x) : BT x := by
  induction h with
  | @mk x h0 h1 h2 h3 h4 h5 ih =>
    have hx : Sm54 x := Sm54.mk h0 h1 h2 h3 h4 h5; intro l depth u
    by_cases c : (l.length : Int) > 4096
    · exact ⟨[], by simpa using Ev.all (f := fun k => blw1 k l x depth u) (fun k => by rw [blw1, if_pos c]), by simp, fun h => absurd c h⟩
    · by_cases d : depth > 64
      · exact ⟨[⟨x, depth, u⟩], Ev.all (fun k => by rw [blw1, if_neg c, if_pos d]), by simp [hx], fun _ => ⟨[], rfl⟩⟩
      · obtain ⟨n, e, s⟩ := blwL_ev x.f4 ih (l ++ [⟨x, depth, u⟩]) (depth + 1) l.length
        refine ⟨⟨x, depth, u⟩ :: n, (by simpa using e : Ev (fun k => blw k (l ++ [⟨x, depth, u⟩]) x.f4 (depth + 1) l.length) (l ++ ⟨x, depth, u⟩ :: n)).eq (fun k => by rw [blw1, if_neg c, if_neg d]), fun it hit => ?_, fun _ => ⟨n, rfl⟩⟩
        rcases List.mem_cons.1 hit with h | h
        · rw [h]; exact hx
        · exact s it h
def Twice (L : List SIt) (i : Nat) : Prop := ∃ it jt j, j < i ∧ L[i]? = some it ∧ L[j]? = some jt ∧ 0 ≤ it.f2 ∧ jt.f2 = it.f2 ∧ it.f0.f1.data.toList ≠ [] ∧ jt.f0.f1.data.toList = it.f0.f1.data.toList
def OKat (L : List SIt) (i : Nat) : Prop := ∃ it, L[i]? = some it ∧ i ≠ 4096 ∧ it.f1 ≤ 64 ∧ wr it.f0 = 0 ∧ ¬ Twice L i
def BadAt (L : List SIt) (i : Nat) (e : Int) : Prop := ∃ it, L[i]? = some it ∧ ((i = 4096 ∧ e = 12) ∨ (i ≠ 4096 ∧ it.f1 > 64 ∧ e = 11) ∨ (i ≠ 4096 ∧ it.f1 ≤ 64 ∧ wr it.f0 ≠ 0 ∧ e = wr it.f0) ∨ (i ≠ 4096 ∧ it.f1 ≤ 64 ∧ wr it.f0 = 0 ∧ Twice L i ∧ e = 10))
theorem get_ext {L : List SIt} {i : Nat} {it : SIt} (h : L[i]? = some it) (E : List SIt) : (L ++ E)[i]? = some it := by
  rw [List.getElem?_append_left (List.getElem?_eq_some_iff.1 h).1]; exact h
theorem twice_ext {L : List SIt} {i : Nat} (hi : i < L.length) (E : List SIt) : Twice (L ++ E) i ↔ Twice L i := by
  unfold Twice; constructor; (rintro ⟨it, jt, j, hj, h1, h2, h3⟩; rw [List.getElem?_append_left hi] at h1; rw [List.getElem?_append_left (by omega)] at h2; exact ⟨it, jt, j, hj, h1, h2, h3⟩); (rintro ⟨it, jt, j, hj, h1, h2, h3⟩; exact ⟨it, jt, j, hj, get_ext h1 E, get_ext h2 E, h3⟩)
theorem OKat.ext {L : List SIt} {i : Nat} (h : OKat L i) (E : List SIt) : OKat (L ++ E) i := by
  obtain ⟨it, h1, h2, h3, h4, h5⟩ := h; exact ⟨it, get_ext h1 E, h2, h3, h4, fun ht => h5 ((twice_ext (List.getElem?_eq_some_iff.1 h1).1 E).1 ht)⟩
theorem BadAt.ext {L : List SIt} {i : Nat} {e : Int} (h : BadAt L i e) (E : List SIt) : BadAt (L ++ E) i e := by
  obtain ⟨it, h1, h2⟩ := h; refine ⟨it, get_ext h1 E, ?_⟩; rw [twice_ext (List.getElem?_eq_some_iff.1 h1).1 E]; exact h2
def Met (l : List SIt) (u : Int) (met : List (List UInt8)) : Prop := ∀ key, key ∈ met ↔ key ≠ [] ∧ ∃ jt ∈ l, jt.f2 = u ∧ jt.f0.f1.data.toList = key
def md (d : Int) (it : SIt) : Int := max d it.f1
/-- What a visit tells, against the list. -/
structure Sim (l new : List SIt) (deep : Int) (r : Bool × Int × Int × Int) : Prop where
  sm : ∀ it ∈ new, Sm54 it.f0
  yes : r.1 = true → r.2 = (((l ++ new).length : Int), new.foldl md deep, 0) ∧ (l ++ new).length ≤ 4096 ∧ (∀ i, l.length ≤ i → i < (l ++ new).length → OKat (l ++ new) i) ∧ ∀ it ∈ new, it.f2 < (l ++ new).length
  no : r.1 = false → ∃ p : Nat, r.2.1 = p ∧ l.length ≤ p ∧ p < (l ++ new).length ∧ (∀ i, l.length ≤ i → i < p → OKat (l ++ new) i) ∧ BadAt (l ++ new) p r.2.2.2
def SimT (x : S54) : Prop := ∀ (depth deep : Int) (met : List (List UInt8)) (l : List SIt) (u : Int), l.length ≤ 4096 → u < l.length → (u < 0 → met = []) → Met l u met → (∀ jt ∈ l, jt.f2 < l.length) →
  ∃ r rest, Ev (fun k => vis1 k x depth l.length deep met) r ∧ Ev (fun k => blw1 k l x depth u) (l ++ ⟨x, depth, u⟩ :: rest) ∧ Sim l (⟨x, depth, u⟩ :: rest) deep r ∧ (r.1 = true → ∀ it ∈ rest, (l.length : Int) ≤ it.f2)
theorem sim_L (ks : List S54) (hs : ∀ y ∈ ks, Sm54 y) (hv : ∀ y ∈ ks, SimT y) : ∀ (depth deep : Int) (met : List (List UInt8)) (l : List SIt) (u : Int), l.length ≤ 4096 → u < l.length → 0 ≤ u → Met l u met → (∀ jt ∈ l, jt.f2 < l.length) →
    ∃ r new, Ev (fun k => vis k ks depth l.length deep met) r ∧ Ev (fun k => blw k l ks depth u) (l ++ new) ∧ Sim l new deep r ∧ (r.1 = true → ∀ it ∈ new, it.f2 = u ∨ (l.length : Int) ≤ it.f2) := by
  induction ks with
  | nil =>
    intro depth deep met l u h0 h1 h2 h3 h4; refine ⟨(true, l.length, deep, 0), [], (Ev.pure _).step (fun k => rfl), by simpa using (Ev.pure l).step (fun k => rfl), ⟨by simp, fun _ => ⟨by simp, by simpa using h0, fun i a b => by simp at b; omega, by simp⟩, by simp⟩, by simp⟩
  | cons y ys ih =>
    intro depth deep met l u h0 h1 h2 h3 h4
    have hc : ¬ (l.length : Int) > 4096 := by omega
    obtain ⟨r1, rest, e1, b1, s1, q1⟩ := hv y (by simp) depth deep met l u h0 h1 (fun h => by omega) h3 h4; obtain ⟨n1, hn1⟩ : ∃ n1, (⟨y, depth, u⟩ : SIt) :: rest = n1 := ⟨_, rfl⟩
    have hmem : ∀ it, it ∈ n1 ↔ it = ⟨y, depth, u⟩ ∨ it ∈ rest := by intro it; rw [← hn1]; simp
    rw [hn1] at b1 s1
    cases hr : r1.1 with
    | false =>
      obtain ⟨n2, b2, m2⟩ := blwL_ev ys (fun z hz => blwT_ev z (hs z (by simp [hz]))) (l ++ n1) depth u; obtain ⟨p, p1, p2, p3, p4, p5⟩ := s1.no hr; refine ⟨r1, n1 ++ n2, e1.via (Ev.pure r1) (fun k hk => by rw [vis_cons, hk]; simp [hr]), b1.via (by rw [← List.append_assoc]; exact b2) (fun k hk => by rw [blw_cons, if_neg hc, hk]; rfl), ⟨?_, ?_, ?_⟩, ?_⟩
      · intro it hit
        rcases List.mem_append.1 hit with h | h
        · exact s1.sm it h
        · exact m2 it h
      (intro h; rw [hr] at h; cases h); (intro _; rw [← List.append_assoc]; exact ⟨p, p1, p2, by rw [List.length_append]; omega, fun i a b => (p4 i a b).ext n2, p5.ext n2⟩); (intro h; rw [hr] at h; cases h)
    | true =>
      obtain ⟨y1, y2, y3, y4⟩ := s1.yes hr; have q1 := q1 hr
      have hlen : l.length < (l ++ n1).length := by rw [← hn1]; simp
      obtain ⟨r2, n2, e2, b2, s2, q2⟩ := ih (fun z hz => hs z (by simp [hz])) (fun z hz => hv z (by simp [hz])) depth (n1.foldl md deep) (next met y) (l ++ n1) u y2 (by omega) h2 (by
        intro key
        have hn : key ∈ next met y ↔ key ∈ met ∨ (key ≠ [] ∧ y.f1.data.toList = key) := by
          unfold next
          split
          · next he =>
            constructor; (exact .inl)
            · rintro (h | ⟨h, rfl⟩)
              · exact h
              · exact absurd he h
          · next he =>
            rw [List.mem_cons]; constructor
            · rintro (rfl | h)
              · exact .inr ⟨he, rfl⟩
              · exact .inl h
            · rintro (h | ⟨_, rfl⟩)
              · exact .inr h
              · exact .inl rfl
        rw [hn, h3 key]; constructor
        · rintro (⟨h5, jt, h6, h7⟩ | ⟨h5, h6⟩)
          · exact ⟨h5, jt, List.mem_append_left _ h6, h7⟩
          · exact ⟨h5, ⟨y, depth, u⟩, List.mem_append_right _ ((hmem _).2 (.inl rfl)), rfl, h6⟩
        · rintro ⟨h5, jt, h6, h7, h8⟩
          rcases List.mem_append.1 h6 with h | h
          · exact .inl ⟨h5, jt, h, h7, h8⟩
          · rcases (hmem _).1 h with rfl | h
            · exact .inr ⟨h5, h8⟩
            · have := q1 jt h
              omega) (by
        intro jt hjt
        rcases List.mem_append.1 hjt with h | h
        · have := h4 jt h; omega
        · exact y4 jt h)
      refine ⟨r2, n1 ++ n2, e1.via e2 (fun k hk => by rw [vis_cons, hk]; simp only [Option.bind_some, hr, if_true, y1]; rfl), b1.via (by rw [← List.append_assoc]; exact b2) (fun k hk => by rw [blw_cons, if_neg hc, hk]; rfl), ⟨?_, ?_, ?_⟩, ?_⟩
      · intro it hit
        rcases List.mem_append.1 hit with h | h
        · exact s1.sm it h
        · exact s2.sm it h
      · intro h
        obtain ⟨z1, z2, z3, z4⟩ := s2.yes h
        rw [← List.append_assoc, List.foldl_append]
        refine ⟨z1, z2, fun i a b => ?_, fun it hit => ?_⟩
        · rcases Nat.lt_or_ge i (l ++ n1).length with c | c
          · exact (y3 i a c).ext n2
          · exact z3 i c b
        · rcases List.mem_append.1 hit with h | h
          · have := y4 it h
            rw [List.length_append]
            omega
          · exact z4 it h
      · intro h
        obtain ⟨p, p1, p2, p3, p4, p5⟩ := s2.no h
        rw [← List.append_assoc]
        refine ⟨p, p1, by omega, p3, fun i a b => ?_, p5⟩
        rcases Nat.lt_or_ge i (l ++ n1).length with c | c
        · exact (y3 i a c).ext n2
        · exact p4 i c b
      · intro h it hit
        rcases List.mem_append.1 hit with g | g
        · rcases (hmem _).1 g with rfl | g
          · exact .inl rfl
          · exact .inr (q1 it g)
        · rcases q2 h it g with g | g
          · exact .inl g
          · exact .inr (by omega)
theorem sim_T (x : S54) (h : Sm54 x) : SimT x := by
  induction h with
  | @mk x h0 h1 h2 h3 h4 h5 ih =>
    have hx : Sm54 x := Sm54.mk h0 h1 h2 h3 h4 h5; intro depth deep met l u c0 c1 c2 c3 c4; obtain ⟨it, hit⟩ : ∃ it : SIt, (⟨x, depth, u⟩ : SIt) = it := ⟨_, rfl⟩
    have i0 : it.f0 = x := by rw [← hit]
    have i1 : it.f1 = depth := by rw [← hit]
    have i2 : it.f2 = u := by rw [← hit]
    have hc : ¬ (l.length : Int) > 4096 := by omega
    have hget (rest : List SIt) : (l ++ it :: rest)[l.length]? = some it := by simp
    have hget2 (rest : List SIt) (j : Nat) (hj : j < l.length) : (l ++ it :: rest)[j]? = some (l[j]) := by rw [List.getElem?_append_left hj, List.getElem?_eq_getElem hj]
    obtain ⟨w1, _⟩ := wr_ev hx
    have fin (e0 : Int) (hE : Ev (fun k => visE k x depth l.length) e0) (hne : visX e0 x.f1.data.toList met ≠ 0) (hno : ∀ rest, BadAt (l ++ it :: rest) l.length (visX e0 x.f1.data.toList met)) :
        ∃ r rest, Ev (fun k => vis1 k x depth l.length deep met) r ∧ Ev (fun k => blw1 k l x depth u) (l ++ ⟨x, depth, u⟩ :: rest) ∧ Sim l (⟨x, depth, u⟩ :: rest) deep r ∧ (r.1 = true → ∀ it ∈ rest, (l.length : Int) ≤ it.f2) := by
      obtain ⟨new, b, s, hrest⟩ := blwT_ev x hx l depth u
      obtain ⟨rest, rfl⟩ := hrest hc
      refine ⟨(false, l.length, max deep depth, visX e0 x.f1.data.toList met), rest, hE.via0 (Ev.pure _) (fun k hk => by rw [vis1, if_pos h1, hk]; simp only [Option.bind_some]; rw [if_pos hne]), b, ⟨s, by simp, fun _ => ⟨l.length, rfl, Nat.le_refl _, by simp, fun i a b => by omega, ?_⟩⟩, by simp⟩
      rw [hit]
      exact hno rest
    by_cases cn : (l.length : Int) = 4096
    · exact fin 12 (Ev.all fun k => by rw [visE, if_pos cn]) (by rw [visX_ne (by decide)]; decide) (fun rest => ⟨it, hget rest, .inl ⟨by omega, by rw [visX_ne (by decide)]⟩⟩)
    by_cases cd : depth > 64
    (exact fin 11 (Ev.all fun k => by rw [visE, if_neg cn, if_pos cd]) (by rw [visX_ne (by decide)]; decide) (fun rest => ⟨it, hget rest, .inr (.inl ⟨by omega, by omega, by rw [visX_ne (by decide)]⟩)⟩)); have hE : Ev (fun k => visE k x depth l.length) (wr x) := w1.eq (fun k => by rw [visE, if_neg cn, if_neg cd])
    by_cases cw : wr x = 0
    case neg => exact fin (wr x) hE (by rw [visX_ne cw]; exact cw) (fun rest => ⟨it, hget rest, .inr (.inr (.inl ⟨by omega, by omega, by rw [i0]; exact cw, by rw [visX_ne cw, i0]⟩))⟩)
    have htw (rest : List SIt) : Twice (l ++ it :: rest) l.length ↔ x.f1.data.toList ∈ met := by
      constructor; (rintro ⟨a, jt, j, hj, g1, g2, g3, g4, g5, g6⟩; rw [hget rest] at g1; cases g1; rw [hget2 rest j hj] at g2; cases g2; rw [i0] at g5 g6; rw [i2] at g4; exact (c3 _).2 ⟨g5, l[j], List.getElem_mem _, g4, g6⟩)
      · intro hk
        obtain ⟨g1, jt, g2, g3, g4⟩ := (c3 _).1 hk
        obtain ⟨j, hj, rfl⟩ := List.getElem_of_mem g2
        have hu : 0 ≤ u := by
          rcases Int.lt_or_le u 0 with h | h
          (rw [c2 h] at hk; cases hk); (exact h)
        exact ⟨it, l[j], j, hj, hget rest, hget2 rest j hj, by omega, by rw [g3, i2], by rw [i0]; exact g1, by rw [g4, i0]⟩
    by_cases ck : x.f1.data.toList ∈ met
    · exact fin (wr x) hE (by rw [visX, if_pos ⟨cw, ck⟩]; decide) (fun rest => ⟨it, hget rest, .inr (.inr (.inr ⟨by omega, by omega, by rw [i0]; exact cw, (htw rest).2 ck, by rw [visX, if_pos ⟨cw, ck⟩]⟩))⟩)
    have hX : visX (wr x) x.f1.data.toList met = 0 := by rw [visX, if_neg (fun h => ck h.2)]; exact cw
    have hl1 : (l ++ [it]).length = l.length + 1 := by simp
    obtain ⟨r, new, e, b, s, q⟩ := sim_L x.f4 h5 ih (depth + 1) (max deep depth) [] (l ++ [it]) l.length (by omega) (by omega) (by omega) (by
      intro key; simp only [List.not_mem_nil, false_iff]; rintro ⟨_, jt, g1, g2, _⟩
      rcases List.mem_append.1 g1 with g | g
      · have := c4 jt g; omega
      · simp at g
        subst g
        omega) (by
      intro jt g1
      rcases List.mem_append.1 g1 with g | g
      · have := c4 jt g; omega
      · simp at g
        subst g
        omega)
    have hap : l ++ [it] ++ new = l ++ it :: new := by simp
    have hcast : (((l ++ [it]).length : Nat) : Int) = (l.length : Int) + 1 := by omega
    rw [hcast] at e; rw [hap] at b; have hok : OKat (l ++ it :: new) l.length := ⟨it, hget new, by omega, by omega, by rw [i0]; exact cw, fun h => ck ((htw new).1 h)⟩; refine ⟨r, new, hE.via0 e (fun k hk => by rw [vis1, if_pos h1, hk]; simp only [Option.bind_some]; rw [if_neg (by rw [hX]; decide)]), ?_, ⟨?_, ?_, ?_⟩, ?_⟩; (rw [hit]; exact b.eq (fun k => by rw [blw1, if_neg hc, if_neg cd, hit]))
    · rw [hit]
      intro jt hjt
      rcases List.mem_cons.1 hjt with rfl | g
      · rw [i0]; exact hx
      · exact s.sm jt g
    · rw [hit]
      intro hr
      obtain ⟨z1, z2, z3, z4⟩ := s.yes hr
      rw [hap] at z1 z2 z3 z4
      refine ⟨?_, z2, fun i a b => ?_, fun jt hjt => ?_⟩
      · rw [z1, List.foldl_cons]
        have : md deep it = max deep depth := by unfold md; rw [i1]
        rw [this]
      · rcases Nat.eq_or_lt_of_le a with rfl | a
        · exact hok
        · exact z3 i (by omega) b
      · rcases List.mem_cons.1 hjt with rfl | g
        · simp only [List.length_append, List.length_cons]
          omega
        · exact z4 jt g
    · rw [hit]
      intro hr
      obtain ⟨p, p1, p2, p3, p4, p5⟩ := s.no hr
      rw [hap] at p3 p4 p5
      refine ⟨p, p1, by omega, p3, fun i a b => ?_, p5⟩
      rcases Nat.eq_or_lt_of_le a with rfl | a
      · exact hok
      · exact p4 i (by omega) b
    · intro hr jt hjt
      rcases q hr jt hjt with g | g
      · omega
      · omega
theorem rd32_mem (l : List S32) (i : Int) (h0 : 0 ≤ i) (h : i < l.length) : rd_T32 l i ∈ l := by
  unfold rd_T32; rw [List.getD_eq_getElem?_getD, List.getElem?_eq_getElem (by omega)]; exact List.getElem_mem _
theorem drp32 (xs : List S32) (i : Int) (h0 : 0 ≤ i) (hi : i < xs.length) : xs.drop i.toNat = rd_T32 xs i :: xs.drop (i + 1).toNat := by
  have e : (i + 1).toNat = i.toNat + 1 := by omega
  rw [e, List.drop_eq_getElem_cons (by omega)]; unfold rd_T32; rw [List.getD_eq_getElem?_getD, List.getElem?_eq_getElem (by omega)]; rfl
theorem fewR_l1 (Q : Prop) (l : List S32) (hl : l.length * 88 ≤ 140737488351232) (hs : ∀ y ∈ l, Sm32 y) (n : Int) (hn0 : 0 ≤ n) (hn : n ≤ 5000) (i : Int) (h0 : 0 ≤ i) (hi : i < l.length)
    (hk : ∀ x : Int, x ≤ n - (i + 1) → -4503599627370496 ≤ x → ∃ b, Ev (fun k => pl_FewRows.l0 k l x l.length (i + 1)) b ∧ (b = true → Q)) (hf : ((rd_T32 l i).f5.length : Int) ≤ 5000) (d : Nat) :
    ∀ (j y : Int), 0 ≤ j → ((rd_T32 l i).f5.length : Int) - j = d → y ≤ n - (i + 1) → -(j * 274877906944) ≤ y → ∃ b, Ev (fun k => pl_FewRows.l1 k l y i l.length i ((rd_T32 l i).f5.length : Int) j) b ∧ (b = true → Q) := by
  induction d with
  | zero =>
    intro j y hj0 hd hy1 hy2; obtain ⟨b, hb, hbi⟩ := hk y hy1 (by omega); exact ⟨b, hb.step (fun k => by rw [pl_FewRows.l1, if_neg (by omega), w1 (by omega) (by omega)]), hbi⟩
  | succ d ih =>
    intro j y hj0 hd hy1 hy2
    have hj : j < ((rd_T32 l i).f5.length : Int) := by omega
    have hm := (hs _ (rd32_mem l i h0 hi)).h5.2 _ (rd42_mem (rd_T32 l i).f5 j hj0 hj); have m0 := hm.h0; have m1 := hm.h1
    have e1 : wrap64 (Int.tdiv (wrap64 ((((rd_T39 (rd_T32 l i).f5 j).f1).size : Int) + (((rd_T39 (rd_T32 l i).f5 j).f0).size : Int))) 4096) = ((((rd_T39 (rd_T32 l i).f5 j).f1).size : Int) + (((rd_T39 (rd_T32 l i).f5 j).f0).size : Int)) / 4096 := by
      rw [ww (i := (((rd_T39 (rd_T32 l i).f5 j).f1).size : Int) + (((rd_T39 (rd_T32 l i).f5 j).f0).size : Int)) (by omega) (by omega), Int.tdiv_eq_ediv_of_nonneg (by omega)]; exact ww (by omega) (by omega)
    obtain ⟨b, hb, hbi⟩ := ih (j + 1) (y - ((((rd_T39 (rd_T32 l i).f5 j).f1).size : Int) + (((rd_T39 (rd_T32 l i).f5 j).f0).size : Int)) / 4096) (by omega) (by omega) (by omega) (by omega)
    exact ⟨b, hb.step (fun k => by
      rw [pl_FewRows.l1, if_pos hj, if_pos h0, if_pos hi, if_pos hj0, if_pos hj, e1, ww (i := y - _) (by omega) (by omega), w1 (by omega) (by omega)]), hbi⟩
theorem fewR_l0 (l : List S32) (hl : l.length * 88 ≤ 140737488351232) (hs : ∀ y ∈ l, Sm32 y) (n : Int) (hn0 : 0 ≤ n) (hn : n ≤ 5000) (d : Nat) :
    ∀ (i x : Int), 0 ≤ i → (l.length : Int) - i = d → x ≤ n - i → -4503599627370496 ≤ x → ∃ b, Ev (fun k => pl_FewRows.l0 k l x l.length i) b ∧ (b = true → (l.length : Int) ≤ n ∧ ∀ j, i ≤ j → j < l.length → ((rd_T32 l j).f5.length : Int) ≤ 5000) := by
  induction d with
  | zero =>
    intro i x h0 hd hx1 hx2; refine ⟨decide (x ≥ 0), (Ev.pure _).step (fun k => by rw [pl_FewRows.l0, if_neg (by omega)]), fun hb => ?_⟩; have := of_decide_eq_true hb; exact ⟨by omega, fun j h1 h2 => by omega⟩
  | succ d ih =>
    intro i x h0 hd hx1 hx2
    have hi : i < (l.length : Int) := by omega
    have hm := hs _ (rd32_mem l i h0 hi); have m2 := hm.h2; have m3 := hm.h3; have m4 := hm.h4; have m5 := hm.h5.1
    have e2 : wrap64 (Int.tdiv (wrap64 ((wrap64 ((((rd_T32 l i).f4).size : Int) + (((rd_T32 l i).f3).size : Int))) + (((rd_T32 l i).f2).size : Int))) 4096) = ((((rd_T32 l i).f4).size : Int) + (((rd_T32 l i).f3).size : Int) + (((rd_T32 l i).f2).size : Int)) / 4096 := by
      rw [ww (i := (((rd_T32 l i).f4).size : Int) + (((rd_T32 l i).f3).size : Int)) (by omega) (by omega), ww (i := _ + (((rd_T32 l i).f2).size : Int)) (by omega) (by omega), Int.tdiv_eq_ediv_of_nonneg (by omega)]; exact ww (by omega) (by omega)
    have e3 : wrap64 ((wrap64 ((wrap64 (x - 1)) - (((rd_T32 l i).f5).length : Int))) - (wrap64 (Int.tdiv (wrap64 ((wrap64 ((((rd_T32 l i).f4).size : Int) + (((rd_T32 l i).f3).size : Int))) + (((rd_T32 l i).f2).size : Int))) 4096))) = x - 1 - (((rd_T32 l i).f5).length : Int) - ((((rd_T32 l i).f4).size : Int) + (((rd_T32 l i).f3).size : Int) + (((rd_T32 l i).f2).size : Int)) / 4096 := by
      rw [e2, wm (by omega) (by omega), ww (i := x - 1 - (((rd_T32 l i).f5).length : Int)) (by omega) (by omega), ww (by omega) (by omega)]
    obtain ⟨c, hc⟩ : ∃ c, x - 1 - (((rd_T32 l i).f5).length : Int) - ((((rd_T32 l i).f4).size : Int) + (((rd_T32 l i).f3).size : Int) + (((rd_T32 l i).f2).size : Int)) / 4096 = c := ⟨_, rfl⟩; rw [hc] at e3
    by_cases c0 : c < 0
    · exact ⟨false, (Ev.pure false).step (fun k => by rw [pl_FewRows.l0, if_pos hi, if_pos h0, if_pos hi, e3, if_pos c0]), by simp⟩
    · obtain ⟨b, hb, hbi⟩ := fewR_l1 _ l hl hs n hn0 hn i h0 hi (fun x hx1 hx2 => ih (i + 1) x (by omega) (by omega) hx1 hx2) (by omega) ((rd_T32 l i).f5.length) 0 c (by omega) (by omega) (by omega) (by omega)
      exact ⟨b, hb.step (fun k => by rw [pl_FewRows.l0, if_pos hi, if_pos h0, if_pos hi, e3, if_neg c0]), fun h => ⟨(hbi h).1, fun j h1 h2 => by
        rcases Int.lt_or_eq_of_le h1 with h3 | rfl
        · exact (hbi h).2 j (by omega) h2
        · omega⟩⟩
theorem fewR (l : List S32) (hl : l.length * 88 ≤ 140737488351232) (hs : ∀ y ∈ l, Sm32 y) (n : Int) (hn0 : 0 ≤ n) (hn : n ≤ 5000) : ∃ b, Ev (fun k => pl_FewRows.f k l n) b ∧ (b = true → (l.length : Int) ≤ n) := by
  obtain ⟨b, hb, hbi⟩ := fewR_l0 l hl hs n hn0 hn l.length 0 n (by omega) (by omega) (by omega) (by omega); exact ⟨b, hb, fun h => (hbi h).1⟩
theorem lt48 {L : List SIt} {i : Nat} {it : SIt} (h : L[i]? = some it) : i < L.length := (List.getElem?_eq_some_iff.1 h).1
theorem bad_ne {L : List SIt} {p : Nat} {e : Int} (h : BadAt L p e) : e ≠ 0 := by
  obtain ⟨it, _, h | h | h | h⟩ := h; (omega); (omega); (rw [h.2.2.2]; exact h.2.2.1); (omega)
/-- vtree.Check and its reference, by the list of items. -/
theorem checks (x : S54) (h : Sm54 x) : ∃ L c, Ev (fun k => r11_Items.f k x.f0 x.f1 x.f2 x.f3 x.f4) L ∧ L.length ≤ 4097 ∧ (∀ it ∈ L, Sm54 it.f0) ∧
    Ev (fun k => vtree_Check.f k x.f0 x.f1 x.f2 x.f3 x.f4) c ∧
    ((c.2 = 0 ∧ L.length ≤ 4096 ∧ ∀ i, i < L.length → OKat L i) ∨ (c.2 ≠ 0 ∧ ∃ p : Nat, p < L.length ∧ (∀ i, i < p → OKat L i) ∧ BadAt L p c.2)) := by
  have hxe : (⟨x.f0, x.f1, x.f2, x.f3, x.f4⟩ : S54) = x := by cases x; rfl
  obtain ⟨r, rest, e, bl, s, _⟩ := sim_T x h 1 0 [] [] (-1) (by simp) (by simp) (by simp) (by intro key; simp) (by simp); obtain ⟨L, hL⟩ : ∃ L, (⟨x, 1, -1⟩ : SIt) :: rest = L := ⟨_, rfl⟩; rw [hL] at bl s; simp only [List.nil_append] at bl; have hit : Ev (fun k => r11_Items.f k x.f0 x.f1 x.f2 x.f3 x.f4) L := bl.eq (fun k => by rw [r11_Items.f, hxe])
  have hlen : L.length ≤ 4097 := by
    obtain ⟨k, hk⟩ := bl.ex; exact (blw1_len hk (by simp)).2
  have hchk : Ev (fun k => vtree_check.f k x.f0 x.f1 x.f2 x.f3 x.f4) r.2 := e.via0 (Ev.pure _) (fun k hk => by rw [vtree_check.f, hxe]; rw [show ((([] : List SIt).length : Nat) : Int) = 0 from rfl] at hk; rw [hk]; rfl)
  cases hr : r.1 with
  | true =>
    obtain ⟨y1, y2, y3, _⟩ := s.yes hr; simp only [List.nil_append] at y1 y2 y3
    have hz : r.2.2.2 = 0 := by rw [y1]
    exact ⟨L, (0, 0), hit, hlen, s.sm, hchk.via0 (Ev.pure _) (fun k hk => by rw [vtree_Check.f, hk, Option.bind_some, if_pos hz]), .inl ⟨rfl, y2, fun i hi => y3 i (by simp) hi⟩⟩
  | false =>
    obtain ⟨p, p1, p2, p3, p4, p5⟩ := s.no hr; simp only [List.nil_append] at p3 p4 p5; have hne := bad_ne p5; exact ⟨L, (p, r.2.2.2), hit, hlen, s.sm, hchk.via0 (Ev.pure _) (fun k hk => by rw [vtree_Check.f, hk, Option.bind_some, if_neg hne, p1]), .inr ⟨hne, p, p3, fun i hi => p4 i (by simp) hi, p5⟩⟩
/-- A node as_ a row. -/
def rowOf (x : S54) (up : Int) : S32 := ⟨0, up, x.f0, x.f1, x.f2, x.f3⟩
mutual
/-- The rows of a tree that stands behind so many rows, under a handle. -/
def rowsT : S54 → Int → Int → List S32
  | ⟨a, b, c, d, ks⟩, at_, up => ⟨0, up, a, b, c, d⟩ :: rowsL ks (at_ + 1) (at_ + 1)
def rowsL : List S54 → Int → Int → List S32
  | [], _, _ => []
  | y :: ys, at_, up => rowsT y at_ up ++ rowsL ys (at_ + szT y) up
end
mutual
/-- The items of a tree. -/
def itemsT : S54 → Int → Int → Int → List SIt
  | ⟨a, b, c, d, ks⟩, dp, at_, up => ⟨⟨a, b, c, d, ks⟩, dp, up⟩ :: itemsL ks (dp + 1) (at_ + 1) at_
def itemsL : List S54 → Int → Int → Int → List SIt
  | [], _, _, _ => []
  | y :: ys, dp, at_, up => itemsT y dp at_ up ++ itemsL ys dp (at_ + szT y) up
end
theorem rowsT_eq (x : S54) (at_ up : Int) : rowsT x at_ up = rowOf x up :: rowsL x.f4 (at_ + 1) (at_ + 1) := by cases x; rw [rowsT]; rfl
theorem itemsT_eq (x : S54) (dp at_ up : Int) : itemsT x dp at_ up = ⟨x, dp, up⟩ :: itemsL x.f4 (dp + 1) (at_ + 1) at_ := by cases x; rw [itemsT]
theorem rowsL_len (ks : List S54) (h : ∀ y ∈ ks, ∀ at_ up, ((rowsT y at_ up).length : Int) = szT y) : ∀ at_ up, ((rowsL ks at_ up).length : Int) = szL ks := by
  induction ks with
  | nil => intro at_ up; rfl
  | cons y ys ih =>
    intro at_ up; rw [rowsL, szL, List.length_append]; have h1 := h y (by simp) at_ up; have h2 := ih (fun z hz => h z (by simp [hz])) (at_ + szT y) up; omega
theorem rowsT_len (x : S54) (h : Sm54 x) : ∀ at_ up, ((rowsT x at_ up).length : Int) = szT x := by
  induction h with
  | @mk x h0 h1 h2 h3 h4 h5 ih =>
    intro at_ up; rw [rowsT_eq, szT_eq, List.length_cons]; have := rowsL_len x.f4 ih (at_ + 1) (at_ + 1); omega
theorem itemsL_len (ks : List S54) (h : ∀ y ∈ ks, ∀ dp at_ up, ((itemsT y dp at_ up).length : Int) = szT y) : ∀ dp at_ up, ((itemsL ks dp at_ up).length : Int) = szL ks := by
  induction ks with
  | nil => intro dp at_ up; rfl
  | cons y ys ih =>
    intro dp at_ up; rw [itemsL, szL, List.length_append]; have h1 := h y (by simp) dp at_ up; have h2 := ih (fun z hz => h z (by simp [hz])) dp (at_ + szT y) up; omega
theorem itemsT_len (x : S54) (h : Sm54 x) : ∀ dp at_ up, ((itemsT x dp at_ up).length : Int) = szT x := by
  induction h with
  | @mk x h0 h1 h2 h3 h4 h5 ih =>
    intro dp at_ up; rw [itemsT_eq, szT_eq, List.length_cons]; have := itemsL_len x.f4 ih (dp + 1) (at_ + 1) at_; omega
def ItT (x : S54) : Prop := ∀ (l : List SIt) (dp up : Int), (l.length : Int) + szT x ≤ 4097 → dp + htT x ≤ 66 → Ev (fun k => blw1 k l x dp up) (l ++ itemsT x dp l.length up)
theorem its_L (ks : List S54) (hs : ∀ y ∈ ks, Sm54 y) (hp : ∀ y ∈ ks, ItT y) : ∀ (l : List SIt) (dp up : Int), (l.length : Int) + szL ks ≤ 4097 → dp + htL ks ≤ 66 → Ev (fun k => blw k l ks dp up) (l ++ itemsL ks dp l.length up) := by
  induction ks with
  | nil => intro l dp up hl hd; exact (Ev.pure _).step (fun k => by rw [blw, itemsL, List.append_nil])
  | cons y ys ih =>
    intro l dp up hl hd; rw [szL] at hl; rw [htL] at hd; have p1 := pos_of y (hs y (by simp)); have p2 := posL ys (fun z hz => hs z (by simp [hz])); have e1 := hp y (by simp) l dp up (by omega) (by omega); have hlen := itemsT_len y (hs y (by simp)) dp l.length up
    have hcast : ((l ++ itemsT y dp l.length up).length : Int) = l.length + szT y := by rw [List.length_append]; omega
    have e2 := ih (fun z hz => hs z (by simp [hz])) (fun z hz => hp z (by simp [hz])) (l ++ itemsT y dp l.length up) dp up (by omega) (by omega); rw [hcast] at e2; rw [itemsL, ← List.append_assoc]; exact e1.via e2 (fun k hk => by rw [blw_cons, if_neg (by omega), hk]; rfl)
theorem its_T (x : S54) (h : Sm54 x) : ItT x := by
  induction h with
  | @mk x h0 h1 h2 h3 h4 h5 ih =>
    intro l dp up hl hd; rw [szT_eq] at hl; rw [htT_eq] at hd; have p2 := posL x.f4 h5
    by_cases c : dp > 64
    · have hk : x.f4 = [] := by
        cases hf : x.f4 with
        | nil => rfl
        | cons y ys =>
          rw [hf] at hd h5; have := pos_of y (h5 y (by simp)); rw [htL] at hd; omega
      refine (Ev.pure _).eq (fun k => ?_)
      rw [blw1, if_neg (by omega), if_pos c, itemsT_eq, hk, itemsL]
    have e := its_L x.f4 h5 ih (l ++ [⟨x, dp, up⟩]) (dp + 1) (l.length : Int) (by rw [List.length_append, List.length_singleton]; omega) (by omega); rw [List.length_append, List.length_singleton] at e; rw [itemsT_eq, ← List.singleton_append, ← List.append_assoc]; exact e.eq (fun k => by rw [blw1, if_neg (by omega), if_neg c])
/-- The handle that stands above one. -/
def upOf (l : List S32) (h : Int) : Int := (rd_T32 l (h - 1)).f1
/-- A handle is one, or stands above it. -/
inductive An (l : List S32) (u : Int) : Int → Prop
  | self : 0 < u → An l u u
  | up {x : Int} : 0 < x → An l u (upOf l x) → An l u x
/-- A row stands as_ a tree's does. -/
def GoodRow (l : List S32) (i : Int) : Prop := (i = 0 ∧ upOf l (i + 1) = 0) ∨ (0 < i ∧ An l (upOf l (i + 1)) i)
def GoodTo (l : List S32) (n : Int) : Prop := ∀ i, 0 ≤ i → i < n → GoodRow l i
theorem An.pos {l : List S32} {u x : Int} (h : An l u x) : 0 < u ∧ 0 < x := by
  induction h with
  | self h => exact ⟨h, h⟩
  | up hx _ ih => exact ⟨ih.1, hx⟩
theorem An.le_of {l : List S32} {u x n : Int} (hu : ∀ y, 0 < y → y ≤ n → upOf l y < y) (h : An l u x) (hx : x ≤ n) : u ≤ x := by
  induction h with
  | self h => exact Int.le_refl _
  | @up x h0 _ ih =>
    have := hu x h0 hx; have := ih (by omega); omega
theorem up_lt {l : List S32} {n : Int} (hg : GoodTo l n) (d : Nat) : ∀ x : Int, x.toNat = d → 0 < x → x ≤ n → 0 ≤ upOf l x ∧ upOf l x < x := by
  induction d using Nat.strongRecOn with
  | _ d ih =>
    intro x hd h0 hn; have h := hg (x - 1) (by omega) (by omega); unfold GoodRow at h; rw [show x - 1 + 1 = x by omega] at h
    rcases h with ⟨h1, h2⟩ | ⟨h1, h2⟩
    (omega); (have hp := h2.pos; have hl := h2.le_of (n := x - 1) (fun y hy hy2 => (ih y.toNat (by omega) y rfl hy (by omega)).2) (Int.le_refl _); omega)
theorem GoodTo.up {l : List S32} {n : Int} (hg : GoodTo l n) {x : Int} (h0 : 0 < x) (hn : x ≤ n) : 0 ≤ upOf l x ∧ upOf l x < x := up_lt hg x.toNat x rfl h0 hn
theorem GoodTo.mono {l : List S32} {n m : Int} (hg : GoodTo l n) (h : m ≤ n) : GoodTo l m := fun i h0 h1 => hg i h0 (by omega)
theorem GoodTo.succ {l : List S32} {n : Int} (hg : GoodTo l n) (h : GoodRow l n) : GoodTo l (n + 1) := fun i h0 h1 => by
  rcases Int.lt_or_eq_of_le (show i ≤ n by omega) with h2 | rfl
  · exact hg i h0 h2
  · exact h
theorem An.step {l : List S32} {u x : Int} (h : An l u x) (hne : u ≠ x) : An l u (upOf l x) := by
  cases h with
  | self h => exact absurd rfl hne
  | up _ h => exact h
theorem formed_l1 (l : List S32) (hl : (l.length : Int) ≤ 1000000000) (i : Int) (h0 : 0 ≤ i) (hi : i < l.length) (hg : GoodTo l i) (d : Nat) : ∀ x : Int, x.toNat = d → 0 ≤ x → x ≤ i →
    ((i = 0 ∧ upOf l (i + 1) = 0 ∨ 0 < i ∧ An l (upOf l (i + 1)) x) → ∀ r, Ev (fun k => flat_formed.l0 k l l l.length (i + 1)) r → Ev (fun k => flat_formed.l1 k l i x l l.length i (rd_T32 l i).f0 (rd_T32 l i).f1 (rd_T32 l i).f2 (rd_T32 l i).f3 (rd_T32 l i).f4 (rd_T32 l i).f5) r) ∧
    (¬ (i = 0 ∧ upOf l (i + 1) = 0 ∨ 0 < i ∧ An l (upOf l (i + 1)) x) → Ev (fun k => flat_formed.l1 k l i x l l.length i (rd_T32 l i).f0 (rd_T32 l i).f1 (rd_T32 l i).f2 (rd_T32 l i).f3 (rd_T32 l i).f4 (rd_T32 l i).f5) false) := by
  have hup : upOf l (i + 1) = (rd_T32 l i).f1 := by unfold upOf; rw [show i + 1 - 1 = i by omega]
  induction d using Nat.strongRecOn with
  | _ d ih =>
    intro x hd hx0 hxi; generalize hu : (rd_T32 l i).f1 = u at *; rw [hup] at *
    by_cases c0 : x = 0
    · subst c0
      by_cases c1 : (0 : Int) = u
      · subst c1
        by_cases c2 : i = 0
        · subst c2
          refine ⟨fun _ r hr => hr.step (fun k => ?_), fun h => absurd (.inl ⟨rfl, rfl⟩) h⟩
          rw [flat_formed.l1, if_pos rfl, if_pos rfl, if_neg (by decide), w1 (by omega) (by omega)]
        · refine ⟨fun h => ?_, fun _ => (Ev.pure false).step (fun k => ?_)⟩
          · rcases h with h | h
            · omega
            · have := h.2.pos; omega
          · rw [flat_formed.l1, if_pos rfl, if_pos rfl, if_pos (by rw [show (i == 0) = false by simpa using c2]; decide)]
      · refine ⟨fun h => ?_, fun _ => (Ev.pure false).step (fun k => by rw [flat_formed.l1, if_pos rfl, if_neg c1])⟩
        rcases h with h | h
        · omega
        · have := h.2.pos; omega
    · have c0b : (x == 0) = false := by simpa using c0
      have hib : (i == 0) = false := by simp; omega
      by_cases c1 : x = u
      · refine ⟨fun _ r hr => hr.step (fun k => ?_), fun h => absurd (.inr ⟨by omega, by rw [← c1]; exact An.self (by omega)⟩) h⟩
        rw [flat_formed.l1, if_neg c0, if_pos c1, if_neg (by rw [c0b, hib]; decide), w1 (by omega) (by omega)]
      · have hx := hg.up (x := x) (by omega) hxi
        obtain ⟨ih1, ih2⟩ := ih (upOf l x).toNat (by omega) (upOf l x) rfl hx.1 (by omega)
        have e : ∀ k, flat_formed.l1 (k + 1) l i x l l.length i (rd_T32 l i).f0 u (rd_T32 l i).f2 (rd_T32 l i).f3 (rd_T32 l i).f4 (rd_T32 l i).f5 = flat_formed.l1 k l i (upOf l x) l l.length i (rd_T32 l i).f0 u (rd_T32 l i).f2 (rd_T32 l i).f3 (rd_T32 l i).f4 (rd_T32 l i).f5 := by
          intro k; rw [flat_formed.l1, if_neg c0, if_neg c1, wm (by omega) (by omega), if_pos (by omega), if_pos (by omega)]; rfl
        have hiff : (i = 0 ∧ u = 0 ∨ 0 < i ∧ An l u x) ↔ (i = 0 ∧ u = 0 ∨ 0 < i ∧ An l u (upOf l x)) := by
          constructor
          · rintro (h | h)
            · exact .inl h
            · exact .inr ⟨h.1, h.2.step (fun e => c1 e.symm)⟩
          · rintro (h | h)
            · exact .inl h
            · exact .inr ⟨h.1, .up (by omega) h.2⟩
        rw [hiff]
        exact ⟨fun h r hr => (ih1 h r hr).step e, fun h => (ih2 h).step e⟩
theorem formed_l0 (l : List S32) (hl : (l.length : Int) ≤ 1000000000) (d : Nat) : ∀ i : Int, 0 ≤ i → (l.length : Int) - i = d → GoodTo l i → ∃ b, Ev (fun k => flat_formed.l0 k l l l.length i) b ∧ (b = true ↔ GoodTo l l.length) := by
  induction d with
  | zero =>
    intro i h0 hd hg
    obtain rfl : i = l.length := by omega
    exact ⟨true, (Ev.pure true).step (fun k => by rw [flat_formed.l0, if_neg (by omega)]), by simp [hg]⟩
  | succ d ih =>
    intro i h0 hd hg
    have hi : i < l.length := by omega
    obtain ⟨f1, f2⟩ := formed_l1 l hl i h0 hi hg i.toNat i rfl h0 (Int.le_refl _)
    have e : ∀ k, flat_formed.l0 (k + 1) l l l.length i = flat_formed.l1 k l i i l l.length i (rd_T32 l i).f0 (rd_T32 l i).f1 (rd_T32 l i).f2 (rd_T32 l i).f3 (rd_T32 l i).f4 (rd_T32 l i).f5 := fun k => by rw [flat_formed.l0, if_pos hi, if_pos h0, if_pos hi]
    by_cases c : GoodRow l i
    (obtain ⟨b, hb, hbi⟩ := ih (i + 1) (by omega) (by omega) (hg.succ c); exact ⟨b, (f1 c _ hb).step e, hbi⟩); (exact ⟨false, (f2 c).step e, by simp; exact fun h => c (h i h0 hi)⟩)
theorem formed_ev (l : List S32) (hl : (l.length : Int) ≤ 1000000000) : ∃ b, Ev (fun k => flat_formed.f k l) b ∧ (b = true ↔ GoodTo l l.length) := by
  obtain ⟨b, hb, hi⟩ := formed_l0 l hl l.length 0 (by omega) (by omega) (fun i h0 h1 => by omega); exact ⟨b, hb, hi⟩
theorem rd_drop {l r : List S32} {at_ : Int} {y : S32} (h0 : 0 ≤ at_) (h : l.drop at_.toNat = y :: r) : rd_T32 l at_ = y ∧ at_ < l.length ∧ l.drop (at_ + 1).toNat = r := by
  have hlt : at_.toNat < l.length := by
    rcases Nat.lt_or_ge at_.toNat l.length with h1 | h1
    (exact h1); (rw [List.drop_eq_nil_of_le h1] at h; cases h)
  rw [drp32 l at_ h0 (by omega)] at h; injection h with h1 h2; exact ⟨h1, by omega, h2⟩
theorem drop_app {l r s : List S32} {at_ n : Int} (h0 : 0 ≤ at_) (h : l.drop at_.toNat = r ++ s) (hn : (r.length : Int) = n) : l.drop (at_ + n).toNat = s := by
  rw [show (at_ + n).toNat = at_.toNat + r.length by omega, ← List.drop_drop, h, List.drop_left]
/-- How deep a handle lies: the root's is 1. -/
inductive Dp (l : List S32) : Int → Int → Prop
  | zero : Dp l 0 0
  | up {x d : Int} : 0 < x → Dp l (upOf l x) d → Dp l x (d + 1)
theorem Dp.nn {l : List S32} {x d : Int} (h : Dp l x d) : 0 ≤ x ∧ 0 ≤ d := by
  induction h with
  | zero => omega
  | up h _ ih => omega
theorem Dp.uniq {l : List S32} {x d : Int} (h : Dp l x d) : ∀ {e : Int}, Dp l x e → d = e := by
  induction h with
  | zero =>
    intro e he
    cases he with
    | zero => rfl
    | up h _ => omega
  | up h _ ih =>
    intro e he
    cases he with
    | zero => omega
    | up _ h2 => rw [ih h2]
theorem Dp.ex {l : List S32} {n : Int} (hg : GoodTo l n) (d : Nat) : ∀ x : Int, x.toNat = d → 0 ≤ x → x ≤ n → ∃ e, Dp l x e ∧ e ≤ x := by
  induction d using Nat.strongRecOn with
  | _ d ih =>
    intro x hd h0 hn
    by_cases c : x = 0
    (subst c; exact ⟨0, .zero, Int.le_refl _⟩); (have hu := hg.up (x := x) (by omega) hn; obtain ⟨e, he, hle⟩ := ih (upOf l x).toNat (by omega) (upOf l x) rfl hu.1 (by omega); exact ⟨e + 1, .up (by omega) he, by omega⟩)
theorem deep_l0 (l : List S32) (hl : (l.length : Int) ≤ 1000000000) (hg : GoodTo l l.length) (d : Nat) : ∀ (i : Int) (arr : List Int), 0 ≤ i → (l.length : Int) - i = d → (arr.length : Int) = l.length + 1 →
    (∀ j, 0 ≤ j → j ≤ i → Dp l j (rd arr j)) → (∀ j e, 0 ≤ j → j ≤ i → Dp l j e → e ≤ 64) →
    ∃ b, Ev (fun k => flat_deep.l0 k l arr l l.length i) b ∧ (b = true ↔ (∃ j e : Int, 0 ≤ j ∧ j ≤ l.length ∧ Dp l j e ∧ e > 64) ∨ (l.length : Int) > 4096) := by
  induction d with
  | zero =>
    intro i arr h0 hd ha hdp hsm
    obtain rfl : i = l.length := by omega
    refine ⟨decide ((l.length : Int) > 4096), (Ev.pure _).step (fun k => by rw [flat_deep.l0, if_neg (by omega)]), ?_⟩; rw [decide_eq_true_iff]; constructor; (exact .inr)
    · rintro (⟨j, e, a, b, c, d⟩ | h)
      · have := hsm j e a b c; omega
      · exact h
  | succ d ih =>
    intro i arr h0 hd ha hdp hsm
    have hi : i < l.length := by omega
    have hu := hg.up (x := i + 1) (by omega) (by omega)
    have hup : upOf l (i + 1) = (rd_T32 l i).f1 := by unfold upOf; rw [show i + 1 - 1 = i by omega]
    rw [hup] at hu; have hDu := hdp _ hu.1 (by omega); have hnn := hDu.nn; obtain ⟨e0, he0, hle0⟩ := Dp.ex hg (rd_T32 l i).f1.toNat _ rfl hu.1 (by omega); have hee := hDu.uniq he0; have hDi : Dp l (i + 1) (rd arr (rd_T32 l i).f1 + 1) := .up (by omega) (by rw [hup]; exact hDu); have hw : wrap64 (rd arr (rd_T32 l i).f1 + 1) = rd arr (rd_T32 l i).f1 + 1 := w1 (by omega) (by omega)
    have e : ∀ k, flat_deep.l0 (k + 1) l arr l l.length i = if rd arr (rd_T32 l i).f1 + 1 > 64 then some true else flat_deep.l0 k l (arr.set (i + 1).toNat (rd arr (rd_T32 l i).f1 + 1)) l l.length (i + 1) := by
      intro k
      have hrd : rd (arr.set (i + 1).toNat (rd arr (rd_T32 l i).f1 + 1)) (i + 1) = rd arr (rd_T32 l i).f1 + 1 := by
        unfold rd; rw [List.getD_eq_getElem?_getD, List.getElem?_set_self (by omega)]; rfl
      rw [flat_deep.l0, if_pos hi, if_pos h0, if_pos hi, if_pos hu.1, if_pos (by omega), w1 (by omega) (by omega), if_pos (by omega), if_pos (by omega), hw, Option.bind_some, hrd]
    by_cases c : rd arr (rd_T32 l i).f1 + 1 > 64
    · refine ⟨true, (Ev.pure true).step (fun k => by rw [e, if_pos c]), ?_⟩
      simp only [true_iff]; exact .inl ⟨i + 1, _, by omega, by omega, hDi, c⟩
    · obtain ⟨b, hb, hbi⟩ := ih (i + 1) (arr.set (i + 1).toNat (rd arr (rd_T32 l i).f1 + 1)) (by omega) (by omega) (by rw [List.length_set]; exact ha)
        (fun j j0 j1 => by
          rcases Int.lt_or_eq_of_le j1 with j2 | rfl
          · have : rd (arr.set (i + 1).toNat (rd arr (rd_T32 l i).f1 + 1)) j = rd arr j := by
              unfold rd
              rw [List.getD_eq_getElem?_getD, List.getElem?_set_ne (by omega), ← List.getD_eq_getElem?_getD]
            rw [this]
            exact hdp j j0 (by omega)
          · have : rd (arr.set (i + 1).toNat (rd arr (rd_T32 l i).f1 + 1)) (i + 1) = rd arr (rd_T32 l i).f1 + 1 := by
              unfold rd
              rw [List.getD_eq_getElem?_getD, List.getElem?_set_self (by omega)]
              rfl
            rw [this]
            exact hDi)
        (fun j e j0 j1 he => by
          rcases Int.lt_or_eq_of_le j1 with j2 | rfl
          · exact hsm j e j0 (by omega) he
          · have := hDi.uniq he; omega)
      exact ⟨b, hb.step (fun k => by rw [e, if_neg c]), hbi⟩
theorem deep_ev (l : List S32) (hl : (l.length : Int) ≤ 1000000000) (hg : GoodTo l l.length) : ∃ b, Ev (fun k => flat_deep.f k l) b ∧ (b = true ↔ (∃ j e : Int, 0 ≤ j ∧ j ≤ l.length ∧ Dp l j e ∧ e > 64) ∨ (l.length : Int) > 4096) := by
  have hz : ∀ j, 0 ≤ j → j ≤ (0 : Int) → j = 0 := fun j a b => by omega
  obtain ⟨b, hb, hbi⟩ := deep_l0 l hl hg l.length 0 (List.replicate (l.length + 1) 0) (by omega) (by omega) (by rw [List.length_replicate]; omega)
    (fun j a b => by
      rw [hz j a b]
      have : rd (List.replicate (l.length + 1) 0) 0 = 0 := by unfold rd; rfl
      rw [this]
      exact .zero)
    (fun j e a b he => by
      rw [hz j a b] at he; have := he.uniq .zero
      omega)
  refine ⟨b, hb.eq (fun k => ?_), hbi⟩; rw [flat_deep.f, w1 (by omega) (by omega), if_pos (by omega), if_pos (by omega)]; rw [show ((l.length : Int) + 1).toNat = l.length + 1 by omega]
def DI (x : S54) : Prop := ∀ (L : List S32) (at_ up : Int) (post : List S32) (dp u : Int), 0 ≤ at_ → L.drop at_.toNat = rowsT x at_ up ++ post → Dp L up (dp - 1) →
  ∀ (j : Nat) it, (itemsT x dp at_ u)[j]? = some it → Dp L (at_ + j + 1) it.f1 ∧ it.f1 ≤ dp + htT x - 1
theorem di_L (ks : List S54) (hs : ∀ y ∈ ks, Sm54 y) (hp : ∀ y ∈ ks, DI y) : ∀ (L : List S32) (at_ up : Int) (post : List S32) (dp u : Int), 0 ≤ at_ → L.drop at_.toNat = rowsL ks at_ up ++ post → Dp L up (dp - 1) →
    ∀ (j : Nat) it, (itemsL ks dp at_ u)[j]? = some it → Dp L (at_ + j + 1) it.f1 ∧ it.f1 ≤ dp + htL ks - 1 := by
  induction ks with
  | nil =>
    intro L at_ up post dp u h0 hd hu j it hj; rw [itemsL] at hj; simp at hj
  | cons y ys ih =>
    intro L at_ up post dp u h0 hd hu j it hj; rw [rowsL, List.append_assoc] at hd; have hs1 := itemsT_len y (hs y (by simp)) dp at_ u; have p1 := pos_of y (hs y (by simp)); rw [itemsL] at hj; rw [htL]
    by_cases c : j < (itemsT y dp at_ u).length
    (rw [List.getElem?_append_left c] at hj; have := hp y (by simp) L at_ up _ dp u h0 hd hu j it hj; exact ⟨this.1, by omega⟩); (rw [List.getElem?_append_right (by omega)] at hj; have hd2 := drop_app h0 hd (rowsT_len y (hs y (by simp)) at_ up); have := ih (fun z hz => hs z (by simp [hz])) (fun z hz => hp z (by simp [hz])) L (at_ + szT y) up post dp u (by omega) hd2 hu _ it hj; rw [show at_ + szT y + ((j - (itemsT y dp at_ u).length : Nat) : Int) + 1 = at_ + j + 1 by omega] at this; exact ⟨this.1, by omega⟩)
theorem di_T (x : S54) (h : Sm54 x) : DI x := by
  induction h with
  | @mk x h0 h1 h2 h3 h4 h5 ih =>
    intro L at_ up post dp u ha hd hu j it hj; have p2 := posL x.f4 h5; rw [rowsT_eq, List.cons_append] at hd; obtain ⟨r1, r2, r3⟩ := rd_drop ha hd
    have hup : upOf L (at_ + 1) = up := by
      unfold upOf; rw [show at_ + 1 - 1 = at_ by omega, r1]; rfl
    have hD : Dp L (at_ + 1) dp := by
      have := Dp.up (l := L) (x := at_ + 1) (d := dp - 1) (by omega) (by rw [hup]; exact hu); rwa [show dp - 1 + 1 = dp by omega] at this
    rw [itemsT_eq] at hj; rw [htT_eq]
    cases j with
    | zero =>
      rw [List.getElem?_cons_zero] at hj; obtain rfl := Option.some.inj hj; refine ⟨by simpa using hD, ?_⟩
      show dp ≤ _
      omega
    | succ j =>
      rw [List.getElem?_cons_succ] at hj; have := di_L x.f4 h5 ih L (at_ + 1) (at_ + 1) post (dp + 1) at_ (by omega) r3 (by rwa [show dp + 1 - 1 = dp by omega]) j it hj; rw [show at_ + 1 + (j : Int) + 1 = at_ + ((j + 1 : Nat) : Int) + 1 by omega] at this; exact ⟨this.1, by omega⟩
/-- A row but for its ID. -/
def z0 (y : S32) : S32 := ⟨0, y.f1, y.f2, y.f3, y.f4, y.f5⟩
theorem z0_drop (l : List S32) (i : Int) (h0 : 0 ≤ i) (h : i < l.length) : (l.map z0).drop i.toNat = z0 (rd_T32 l i) :: (l.map z0).drop (i + 1).toNat := by
  rw [← List.map_drop, drp32 l i h0 h, List.map_cons, List.map_drop]
/-- What is built at a place. -/
structure Built (l : List S32) (at_ : Int) (n : S54) (nx : Int) : Prop where
  ev : Ev (fun k => flat_build.f k l at_) (n.f0, n.f1, n.f2, n.f3, n.f4, nx)
  lt : at_ < nx
  le : nx ≤ l.length
  post : nx = l.length ∨ An l (upOf l (nx + 1)) (upOf l (at_ + 1))
  seg : (l.map z0).drop at_.toNat = rowsT n at_ (upOf l (at_ + 1)) ++ (l.map z0).drop nx.toNat
  sm : Sm54 n
  sz : szT n = nx - at_
theorem szL_len (ks : List S54) (hk : ∀ y ∈ ks, Sm54 y) : (ks.length : Int) ≤ szL ks := by
  induction ks with
  | nil => simp [szL]
  | cons y ys ih2 =>
    have a := pos_of y (hk y (by simp)); have b := ih2 (fun z hz => hk z (by simp [hz])); rw [szL, List.length_cons]; omega
theorem builds_loop (l : List S32) (hl : (l.length : Int) ≤ 1000000) (at_ : Int) (h0 : 0 ≤ at_) (hIH : ∀ c, at_ < c → c < l.length → ∃ n nx, Built l c n nx) (a b c : ByteArray) (d : List S39) (e : Nat) :
    ∀ (nx : Int) (done : List S54), at_ < nx → nx ≤ l.length → ((l.length : Int) - nx).toNat = e → (done.length : Int) ≤ nx → (nx = l.length ∨ An l (upOf l (nx + 1)) (at_ + 1)) →
    ∃ ms nx', Ev (fun k => flat_build.l0 k l at_ nx a b c d done) (a, b, c, d, done ++ ms, nx') ∧ nx ≤ nx' ∧ nx' ≤ l.length ∧ (nx' = l.length ∨ An l (upOf l (nx' + 1)) (upOf l (at_ + 1))) ∧ (l.map z0).drop nx.toNat = rowsL ms nx (at_ + 1) ++ (l.map z0).drop nx'.toNat ∧ (∀ y ∈ ms, Sm54 y) ∧ szL ms = nx' - nx := by
  induction e using Nat.strongRecOn with
  | _ e ih =>
    intro nx done h1 h2 he hdn hinv
    by_cases c1 : nx < l.length
    · have hup : upOf l (nx + 1) = (rd_T32 l nx).f1 := by unfold upOf; rw [show nx + 1 - 1 = nx by omega]
      have hA := hinv.resolve_left (by omega)
      by_cases c2 : upOf l (nx + 1) = at_ + 1
      · obtain ⟨n, nx2, hB⟩ := hIH nx h1 c1
        have := hB.lt
        have := hB.le
        obtain ⟨ms, nx', q1, q2, q3, q4, q5, q6, q7⟩ := ih ((l.length : Int) - nx2).toNat (by omega) nx2 (done ++ [n]) (by omega) hB.le rfl (by rw [List.length_append, List.length_singleton]; omega) (by have := hB.post; rwa [c2] at this)
        refine ⟨n :: ms, nx', ?_, by omega, q3, q4, ?_, ?_, by rw [szL, hB.sz, q7]; omega⟩
        · rw [show done ++ n :: ms = done ++ [n] ++ ms by simp]
          refine hB.ev.via q1 (fun k hk => ?_)
          rw [flat_build.l0, if_pos c1, if_pos (by omega), ← hup, c2, w1 (by omega) (by omega), if_pos rfl, hk, Option.bind_some, if_pos (by omega)]
          cases n
          rfl
        · rw [hB.seg, c2, q5, rowsL, hB.sz, show nx + (nx2 - nx) = nx2 by omega, List.append_assoc]
        · intro y hy
          rcases List.mem_cons.1 hy with rfl | hy
          · exact hB.sm
          · exact q6 y hy
      · refine ⟨[], nx, (Ev.pure _).step (fun k => ?_), Int.le_refl _, h2, .inr (hA.step c2), by rw [rowsL]; rfl, by simp, by rw [szL]; omega⟩
        rw [flat_build.l0, if_pos c1, if_pos (by omega), ← hup, w1 (by omega) (by omega), if_neg c2, List.append_nil]
    · exact ⟨[], nx, (Ev.pure _).step (fun k => by rw [flat_build.l0, if_neg c1, List.append_nil]), Int.le_refl _, h2, .inl (by omega), by rw [rowsL]; rfl, by simp, by rw [szL]; omega⟩
theorem builds (l : List S32) (hl : (l.length : Int) ≤ 1000000) (hs : ∀ y ∈ l, Sm32 y) (hg : GoodTo l l.length) (d : Nat) : ∀ at_ : Int, 0 ≤ at_ → at_ < l.length → ((l.length : Int) - at_).toNat = d → ∃ n nx, Built l at_ n nx := by
  induction d using Nat.strongRecOn with
  | _ d ih =>
    intro at_ h0 h1 hd; have hm := hs _ (rd32_mem l at_ h0 h1)
    obtain ⟨ms, nx', q1, q2, q3, q4, q5, q6, q7⟩ := builds_loop l hl at_ h0 (fun c hc1 hc2 => ih ((l.length : Int) - c).toNat (by omega) c (by omega) hc2 rfl) (rd_T32 l at_).f2 (rd_T32 l at_).f3 (rd_T32 l at_).f4 (rd_T32 l at_).f5
      ((l.length : Int) - (at_ + 1)).toNat (at_ + 1) [] (by omega) (by omega) rfl (by simp; omega) (by
        by_cases c : at_ + 1 = l.length
        · exact .inl c
        · rcases hg (at_ + 1) (by omega) (by omega) with h | h
          · omega
          · exact .inr h.2)
    have hlen := szL_len ms q6; refine ⟨⟨(rd_T32 l at_).f2, (rd_T32 l at_).f3, (rd_T32 l at_).f4, (rd_T32 l at_).f5, ms⟩, nx', ⟨?_, by omega, q3, q4, ?_, Sm54.mk hm.h2 hm.h3 hm.h4 hm.h5 (by show ms.length * 96 ≤ _; omega) q6, by rw [szT_eq]; show 1 + szL ms = _; omega⟩⟩
    · rw [List.nil_append] at q1
      refine Ev.step q1 (fun k => ?_)
      rw [flat_build.f, if_pos h0, if_pos h1, w1 (by omega) (by omega)]
      show (api_Attr.f (rd_T32 l at_).f5).bind _ = _
      rw [api_Attr.f, if_pos (by have := hm.h5.1; omega)]
      rfl
    · rw [z0_drop l at_ h0 h1, rowsT_eq, List.cons_append, ← q5]
      have hup : upOf l (at_ + 1) = (rd_T32 l at_).f1 := by unfold upOf; rw [show at_ + 1 - 1 = at_ by omega]
      rw [hup]
      rfl
/-- All rows are built. -/
theorem built_all (l : List S32) (hl : (l.length : Int) ≤ 1000000) (hs : ∀ y ∈ l, Sm32 y) (hg : GoodTo l l.length) (hp : 0 < l.length) : ∃ n, Ev (fun k => flat_build.f k l 0) (n.f0, n.f1, n.f2, n.f3, n.f4, l.length) ∧ l.map z0 = rowsT n 0 0 ∧ Sm54 n ∧ szT n = l.length := by
  obtain ⟨n, nx, hB⟩ := builds l hl hs hg _ 0 (Int.le_refl _) (by omega) rfl
  have hu : upOf l (0 + 1) = 0 := by
    rcases hg 0 (Int.le_refl _) (by omega) with h | h
    (exact h.2); (omega)
  have hn : nx = l.length := by
    rcases hB.post with h | h
    (exact h); (rw [hu] at h; have := h.pos; omega)
  subst hn; refine ⟨n, hB.ev, ?_, hB.sm, by rw [hB.sz]; omega⟩; have := hB.seg; rw [hu, List.drop_eq_nil_of_le (i := (l.length : Int).toNat) (by simp), List.append_nil] at this; exact this
end Go.Proofs.Ytelacebdmmanhaa.Pure
namespace Go.Proofs.Ytelacebdmmanhaa.G
open Go.RowKit Go.Proofs.YtelacebdmmanhaaW.PrintWords Go.Proofs.YtelacebdmmanhaaW.PrintLast Go.Proofs.YtelacebdmmanhaaW.PrintMore
set_option linter.unusedVariables false
set_option linter.unusedSimpArgs false
def eat1 (h c : Int) : Int := IntKind.u64.wrap (bits BinOp.xor IntKind.u64 h (IntKind.u64.wrap c) * 1099511628211)
def hashL (s : ByteArray) : Nat → Int → Int → Int
  | 0, _, h => h
  | k + 1, i, h => hashL s k (i + 1) (eat1 h (bt s i))
def hash8 : Nat → Int → Int → Int
  | 0, _, h => h
  | k + 1, m, h => hash8 k (m / 256) (eat1 h (m % 256))
/-- A label's number. -/
def hashF (a b : ByteArray) (n : Int) : Int := bits BinOp.xor IntKind.u64 (hash8 8 (IntKind.u64.wrap n) (hashL b b.size 0 (eat1 (hashL a a.size 0 14695981039346656037) 255))) (hash8 8 (IntKind.u64.wrap n) (hashL b b.size 0 (eat1 (hashL a a.size 0 14695981039346656037) 255)) / 536870912)
theorem eat (g : Nat) (h c : Int) (w : World) (hb : w.heap[g]? = some (.cells #[.int .u64 h] 80 (0, 0))) : Calls Try.prog 49 #[.int .u8 c, .pointer (some ⟨g, 0, none⟩)] w fun e w' => e = .returned (.tuple #[]) ∧ w' = w.setCell ⟨g, 0, none⟩ (.int .u64 (eat1 h c)) := by
  have hc : w.cell? ⟨g, 0, none⟩ = some (.int .u64 h) := (zC hb 0).trans rfl; have hf := zR hb 0; clear hb
  go_enter Try.func49, Try.ntmps49
  go_wp2_with fail
  refine bodyPost_end (results_none rfl _ _ _) rfl ?_; exact ⟨rfl, rfl⟩
/-- The parameter in memory, and the number under way. -/
structure HS (w : World) (gk g : Nat) (a b : ByteArray) (n h : Int) (W : World) : Prop where
  bk : W.heap[gk]? = some (.cells #[.string a, .string b, .int .i64 n] 37 (0, 0))
  bh : W.heap[g]? = some (.cells #[.int .u64 h] 80 (0, 0))
  B : Below w.heap.size w W
  l1 : w.heap.size ≤ gk
  l2 : gk < g
theorem HS.put {w W : World} {gk g : Nat} {a b : ByteArray} {n h : Int} (s : HS w gk g a b n h W) (h' : Int) : HS w gk g a b n h' (W.setCell ⟨g, 0, none⟩ (.int .u64 h')) :=
  ⟨zG s.bk (p := ⟨g, 0, none⟩) (Nat.ne_of_lt s.l2) _, zP s.bh 0 _ rfl, zS s.B (Nat.le_trans s.l1 (Nat.le_of_lt s.l2)), s.l1, s.l2⟩
set_option maxHeartbeats 4000000 in
set_option maxRecDepth 100000 in
theorem hash (a b : ByteArray) (n : Int) (w : World) (ha : a.size ≤ 140737488351232) (hb : b.size ≤ 140737488351232) : Calls Try.prog 46 #[.agg #[.string a, .string b, .int .i64 n]] w fun e w' => e = .returned (.int .u64 (hashF a b n)) ∧ Below w.heap.size w w' := by
  have HA := Aside0.mk ha; have HB := Aside0.mk hb; clear ha hb
  have hmf : ∀ (fn : Fn) (first cap : Array Value) (w : World), (Instr.makeFunc fn first cap).run Try.prog w = .ok (.func fn first cap) w := fun _ _ _ _ => rfl
  go_enter Try.func46, Try.ntmps46
  go_wp2_with (first | ((with_reducible refine zgd (N := 1) rfl ?_); refine zb ?hg (N := 1) ?hd (cs := #[.string a, .string b, .int .i64 n]) (t := 37) ?hr ?_; (case hd => rfl); (case hg => rfl); (case hr => first | (go_simp; done) | (go_simp; rfl)); intro gl hg w1 hbox hb; have G1 := Aside0.mk hg; have X1 := Aside0.mk hbox; have B1 := Aside0.mk hb; clear hbox hb hg) | ((with_reducible refine zgd (N := 3) rfl ?_); refine zb ?hg (N := 3) ?hd (cs := #[.int .u64 0]) (t := 80) ?hr ?_; (case hd => rfl); (case hg => rfl); (case hr => first | (go_simp; done) | (go_simp; rfl)); intro g hg w2 hbox hb; have G2 := Aside0.mk hg; have X2 := Aside0.mk hbox; have B2 := Aside0.mk hb; have c0 : w2.cell? ⟨g, 0, none⟩ = some (.int .u64 0) := (zC hbox 0).trans rfl; have f0 := zR hbox 0; have c10 : w2.cell? ⟨gl, 0, none⟩ = some (.string a) := (zC (blk_below X1.out hb) 0).trans rfl; have nlg : ¬ gl = g := (by have := blk_lt X1.out; omega); clear hbox hb hg))
  have T := Aside0.mk (show HS w gl g a b n 14695981039346656037 (w2.setCell ⟨g, 0, none⟩ (.int .u64 14695981039346656037)) from by
    have h1 := G1.out; have h2 := G2.out; have h3 := blk_lt X1.out; have h4 := B1.out.size
    refine HS.put (h := 0) ⟨blk_below X1.out B2.out, X2.out, B1.out.trans (B2.out.mono h4), by omega, by omega⟩ _)
  clear c0 f0 c10 nlg X1 X2 B1 B2 G1 G2
  go_loopg [5, 13] a.size (fun kq v5 v13 W => ∃ (i h : Int), v13 = .int .i64 i ∧ Aside0 (0 ≤ i ∧ i + kq = a.size ∧ hashL a kq i h = hashL a a.size 0 14695981039346656037) ∧ Aside0 (HS w gl g a b n h W))
  case atStart => exact ⟨0, _, rfl, ⟨by omega, by omega, rfl⟩, T⟩
  case round =>
  clear T; obtain ⟨i, h, rfl, HI, T⟩ := hrel; have c10 : wr.cell? ⟨gl, 0, none⟩ = some (.string a) := (zC T.out.bk 0).trans rfl
  by_cases hi : i < a.size
  case neg =>
    have hib : decide (i < (a.size : Int)) = false := decide_eq_false hi
    have HE := Aside0.mk (show h = hashL a a.size 0 14695981039346656037 by
      have h1 := HI.out
      obtain rfl : gk = 0 := by omega
      exact h1.2.2)
    clear HI hi
    have c11 : ∀ v, (wr.setCell ⟨g, 0, none⟩ v).cell? ⟨gl, 1, none⟩ = some (.string b) := fun v => (zC (zG T.out.bk (p := ⟨g, 0, none⟩) (Nat.ne_of_lt T.out.l2) v) 1).trans rfl
    go_wp2_with (go_at_call 49; refine (eat g h _ wr T.out.bh).mono ?_; rintro e w3 ⟨rfl, rfl⟩)
    obtain ⟨W, hW⟩ : ∃ W, wr.setCell ⟨g, 0, none⟩ (.int .u64 (eat1 h 255)) = W := ⟨_, rfl⟩; rw [hW]; replace T := Aside0.mk (show HS w gl g a b n (eat1 h 255) W from hW ▸ T.out.put _); obtain ⟨h2, hh2⟩ : ∃ h2, eat1 h 255 = h2 := ⟨_, rfl⟩; rw [hh2] at T; replace HE := Aside0.mk (show h2 = eat1 (hashL a a.size 0 14695981039346656037) 255 by rw [← hh2, HE.out]); clear hW hh2 c10 c11
    go_loopg [6, 28] b.size (fun kq v6 v28 W => ∃ (i h : Int), v28 = .int .i64 i ∧ Aside0 (0 ≤ i ∧ i + kq = b.size ∧ hashL b kq i h = hashL b b.size 0 h2) ∧ Aside0 (HS w gl g a b n h W))
    case atStart => exact ⟨0, _, rfl, ⟨by omega, by omega, rfl⟩, T⟩
    case round =>
    clear T; obtain ⟨j, h, rfl, HI, T⟩ := hrel; have c11 : wr.cell? ⟨gl, 1, none⟩ = some (.string b) := (zC T.out.bk 1).trans rfl
    by_cases hj : j < b.size
    case neg =>
      have hib : decide (j < (b.size : Int)) = false := decide_eq_false hj
      have HE2 := Aside0.mk (show h = hashL b b.size 0 h2 by
        have h1 := HI.out
        obtain rfl : gk = 0 := by omega
        exact h1.2.2)
      clear HI hj; have c12 : wr.cell? ⟨gl, 2, none⟩ = some (.int .i64 n) := (zC T.out.bk 2).trans rfl
      go_wp2_with fail
      go_loopg [7, 8] 8 (fun kq v7 v8 W => ∃ (m i h3 : Int), v7 = .int .u64 m ∧ v8 = .int .i64 i ∧ Aside0 (0 ≤ i ∧ i + kq = 8 ∧ hash8 kq m h3 = hash8 8 (IntKind.u64.wrap n) h) ∧ Aside0 (HS w gl g a b n h3 W))
      case atStart => exact ⟨_, 0, _, rfl, rfl, ⟨by omega, by omega, rfl⟩, T⟩
      case round =>
      clear T; obtain ⟨m, i3, h3, rfl, rfl, HI, T⟩ := hrel
      by_cases h8 : i3 < 8
      case neg =>
        have hib : decide (i3 < 8) = false := decide_eq_false h8
        have HE3 := Aside0.mk (show h3 = hash8 8 (IntKind.u64.wrap n) h by
          have h1 := HI.out
          obtain rfl : gk = 0 := by omega
          exact h1.2.2)
        have BF := Aside0.mk T.out.B; have c0 : wr.cell? ⟨g, 0, none⟩ = some (.int .u64 h3) := (zC T.out.bh 0).trans rfl; clear HI h8 T
        go_wp2_with fail
        go_ret; refine ⟨?_, BF.out⟩
        show Ending.returned (.int .u64 (bits BinOp.xor IntKind.u64 h3 (h3 / 536870912))) = _
        rw [HE3.out, HE2.out, HE.out]; rfl
      obtain ⟨h0, hk, hh⟩ := HI.out; have hib : decide (i3 < 8) = true := decide_eq_true h8; have hwi : IntKind.i64.wrap (i3 + 1) = i3 + 1 := IntWalk.i64_in _ (by omega); have HH := Aside0.mk hh; have HK := Aside0.mk hk; clear hh hk
      go_wp2_with (go_at_call 49; refine (eat g h3 _ _ T.out.bh).mono ?_; rintro e w3 ⟨rfl, rfl⟩)
      cases gk with
      | zero => exact absurd HK.out (by omega)
      | succ k1 =>
        go_roundg k1
        case measure => omega
        case rel => exact ⟨_, i3 + 1, _, rfl, rfl, ⟨by omega, by have := HK.out; omega, by rw [← HH.out, hash8]⟩, ⟨T.out.put _⟩⟩
    obtain ⟨h0, hk, hh⟩ := HI.out; have hib : decide (j < (b.size : Int)) = true := decide_eq_true hj; have hi0 : decide (0 ≤ j) = true := decide_eq_true h0; have hwi : IntKind.i64.wrap (j + 1) = j + 1 := IntWalk.i64_in _ (by have := HB.out; omega); have HH := Aside0.mk hh; have HK := Aside0.mk hk; clear hh hk
    go_wp2_with (go_at_call 49; refine (eat g h _ _ T.out.bh).mono ?_; rintro e w3 ⟨rfl, rfl⟩)
    cases gk with
    | zero => exact absurd HK.out (by omega)
    | succ k1 =>
      go_roundg k1
      case measure => omega
      case rel => exact ⟨j + 1, _, rfl, ⟨by omega, by have := HK.out; omega, by rw [← HH.out, hashL, bt_at]⟩, ⟨T.out.put _⟩⟩
  obtain ⟨h0, hk, hh⟩ := HI.out; have hib : decide (i < (a.size : Int)) = true := decide_eq_true hi; have hi0 : decide (0 ≤ i) = true := decide_eq_true h0; have hwi : IntKind.i64.wrap (i + 1) = i + 1 := IntWalk.i64_in _ (by have := HA.out; omega); have HH := Aside0.mk hh; have HK := Aside0.mk hk; clear hh hk
  go_wp2_with (go_at_call 49; refine (eat g h _ wr T.out.bh).mono ?_; rintro e w3 ⟨rfl, rfl⟩)
  cases gk with
  | zero => exact absurd HK.out (by omega)
  | succ k1 =>
    go_roundg k1
    case measure => omega
    case rel => exact ⟨i + 1, _, rfl, ⟨by omega, by have := HK.out; omega, by rw [← HH.out, hashL, bt_at]⟩, ⟨T.out.put _⟩⟩
theorem u64_range (x : Int) : 0 ≤ IntKind.u64.wrap x ∧ IntKind.u64.wrap x < 18446744073709551616 := by
  rw [IntKind.wrap_u64]; omega
theorem hash8_range (k : Nat) : ∀ m h, 0 ≤ hash8 (k + 1) m h ∧ hash8 (k + 1) m h < 18446744073709551616 := by
  induction k with
  | zero => intro m h; exact u64_range _
  | succ k ih => intro m h; exact ih _ _
theorem hashF_nat (a b : ByteArray) (n : Int) : ∃ h : Nat, hashF a b n = (h : Int) ∧ h < 18446744073709551616 := by
  unfold hashF; obtain ⟨q0, q1⟩ := hash8_range 7 (IntKind.u64.wrap n) (hashL b b.size 0 (eat1 (hashL a a.size 0 14695981039346656037) 255)); obtain ⟨x, hx⟩ : ∃ x : Nat, hash8 8 (IntKind.u64.wrap n) (hashL b b.size 0 (eat1 (hashL a a.size 0 14695981039346656037) 255)) = (x : Int) := ⟨_, (Int.toNat_of_nonneg q0).symm⟩; rw [hx] at q1 ⊢
  have e : (x : Int) / 536870912 = ((x / 536870912 : Nat) : Int) := by omega
  rw [e, bits_xor_u64_nat _ _ (by omega) (by omega)]; refine ⟨_, rfl, ?_⟩; have := Nat.xor_lt_two_pow (x := x) (y := x / 536870912) (n := 64) (by omega) (by omega); omega
/-- A label's number, as_ a natural number. -/
def hashN (k : S37) : Nat := (hashF k.f0 k.f1 k.f2).toNat
theorem hashN_eq (k : S37) : hashF k.f0 k.f1 k.f2 = (hashN k : Int) ∧ hashN k < 18446744073709551616 := by
  obtain ⟨h, e, hl⟩ := hashF_nat k.f0 k.f1 k.f2; unfold hashN; rw [e]; exact ⟨rfl, hl⟩
/-- A slot of a table: its state, its label, its number. -/
structure S72 where
  f0 : Int
  f1 : S37
  f2 : Int
def z72 : S72 := ⟨0, ⟨⟨#[]⟩, ⟨#[]⟩, 0⟩, 0⟩
/-- The cells of a table's places. -/
def fs : List S72 → List Value
  | [] => []
  | x :: l => .int .i64 x.f0 :: .string x.f1.f0 :: .string x.f1.f1 :: .int .i64 x.f1.f2 :: .int .i64 x.f2 :: fs l
theorem fs_len (l : List S72) : (fs l).length = l.length * 5 := by
  induction l with
  | nil => rfl
  | cons x l ih => simp [fs, ih]; omega
theorem fs_drop (l : List S72) : ∀ i : Nat, (fs l).drop (i * 5) = fs (l.drop i) := by
  induction l with
  | nil => intro i; simp [fs]
  | cons x l ih =>
    intro i
    cases i with
    | zero => simp
    | succ i =>
      rw [show (i + 1) * 5 = i * 5 + 1 + 1 + 1 + 1 + 1 by omega, fs, List.drop_succ_cons, List.drop_succ_cons, List.drop_succ_cons, List.drop_succ_cons, List.drop_succ_cons, ih, List.drop_succ_cons]
theorem fs_at (l : List S72) (i : Nat) (h : i < l.length) (j : Nat) (hj : j < 5) : (fs l)[i * 5 + j]? = [Value.int .i64 l[i].f0, .string l[i].f1.f0, .string l[i].f1.f1, .int .i64 l[i].f1.f2, .int .i64 l[i].f2][j]? := by
  rw [← List.getElem?_drop, fs_drop, List.drop_eq_getElem_cons h, fs]
  match j, hj with
  | 0, _ => rfl
  | 1, _ => rfl
  | 2, _ => rfl
  | 3, _ => rfl
  | 4, _ => rfl
def at60 (S : List S72) (i : Nat) : S72 := S.getD i z72
theorem at60_eq (S : List S72) (i : Nat) (h : i < S.length) : at60 S i = S[i] := by
  unfold at60; rw [List.getD_eq_getElem?_getD, List.getElem?_eq_getElem h]; rfl
/-- A table in memory: p its variable, g its places. -/
structure TW (W : World) (base p g : Nat) (S : List S72) (live used : Int) : Prop where
  bp : W.heap[p]? = some (.cells #[.slice (some ⟨g, 0, none⟩) S.length S.length, .int .i64 live, .int .i64 used] 62 (0, 0))
  bg : W.heap[g]? = some (.cells (fs S).toArray 72 (0, 0))
  hp : base ≤ p
  hg : base ≤ g
theorem TW.below {W W' : World} {base p g : Nat} {S : List S72} {live used : Int} (h : TW W base p g S live used) (hb : Below W.heap.size W W') : TW W' base p g S live used := ⟨blk_below h.bp hb, blk_below h.bg hb, h.hp, h.hg⟩
theorem TW.cell {W : World} {base p g : Nat} {S : List S72} {live used : Int} (h : TW W base p g S live used) (i : Nat) (hi : i < S.length) (j : Nat) (hj : j < 5) : W.cell? ⟨g, i * 5 + j, none⟩ = [Value.int .i64 (at60 S i).f0, .string (at60 S i).f1.f0, .string (at60 S i).f1.f1, .int .i64 (at60 S i).f1.f2, .int .i64 (at60 S i).f2][j]? := by
  rw [zC h.bg, at60_eq S i hi, ← fs_at S i hi j hj]; simp
/-- The place that has a label, or the one that it would get. -/
def plc (S : List S72) (k : S37) : Nat → Nat → Int → Option (Int × Bool)
  | 0, _, _ => none
  | f + 1, i, sp => if (at60 S i).f0 = 0 then some (if 0 ≤ sp then sp else i, false) else if (at60 S i).f0 = 1 ∧ ((at60 S i).f1.f0.toList = k.f0.toList ∧ (at60 S i).f1.f1.toList = k.f1.toList ∧ (at60 S i).f1.f2 = k.f2) then some ((i : Int), true) else plc S k f ((i + 1) % S.length) (if (at60 S i).f0 = 2 ∧ sp < 0 then i else sp)
theorem eqK50 (d : Nat) (w : World) (x0 y0 x1 y1 : ByteArray) (x2 y2 : Int) :
    (Op.equalIn (d + 2) 37 (.agg #[.string x0, .string x1, .int .i64 x2]) (.agg #[.string y0, .string y1, .int .i64 y2])).run Try.prog w = .ok (x0.toList == y0.toList && (x1.toList == y1.toList && (x2 == y2))) w := by
  refine eqA_of Try.underlying37 (by kernel_rfl) ?_; refine eqf_cons (by rfl) (by go_simp; rfl) (by go_simp; rfl) (by go_simp) ?_; refine eqf_cons (by rfl) (by go_simp; rfl) (by go_simp; rfl) (by go_simp) ?_; exact eqf_last (by rfl) (by go_simp; rfl) (by go_simp; rfl) (by go_simp)
attribute [local go_sem high] eqK50
set_option maxHeartbeats 4000000 in
set_option maxRecDepth 100000 in
theorem place (f : Nat) (W : World) (base p g : Nat) (S : List S72) (live used : Int) (k : S37) (e : Nat) (r : Int × Bool) (hT : TW W base p g S live used) (hS : S.length = 2 ^ e) (he : e ≤ 40) (hr : plc S k f (hashN k % S.length) (-1) = some r) (h0 : k.f0.size ≤ 140737488351232) (h1 : k.f1.size ≤ 140737488351232) :
    Calls Try.prog 38 #[.pointer (some ⟨p, 0, none⟩), .agg #[.string k.f0, .string k.f1, .int .i64 k.f2]] W fun e w' => e = .returned (.tuple #[.int .i64 r.1, .bool r.2]) ∧ Below W.heap.size W w' := by
  have HT := Aside0.mk hT; have HS := Aside0.mk hS; have HE := Aside0.mk he; have HR := Aside0.mk hr; have H0 := Aside0.mk h0; have H1 := Aside0.mk h1; obtain ⟨hh1, hh2⟩ := hashN_eq k; have HH := Aside0.mk hh1; have HH2 := Aside0.mk hh2; have hM : Aside0 (1 ≤ S.length ∧ S.length ≤ 1099511627776) := ⟨by rw [hS]; exact ⟨Nat.one_le_two_pow, Nat.pow_le_pow_right (by omega) he⟩⟩; have hp0 : W.cell? ⟨p, 0, none⟩ = some (.slice (some ⟨g, 0, none⟩) S.length S.length) := (zC hT.bp 0).trans rfl; obtain ⟨mk, hmk⟩ : ∃ mk : Nat, S.length = mk + 1 := ⟨S.length - 1, by have := hM.out; omega⟩; have HMK := Aside0.mk hmk
  have hw : wrap64 ((S.length : Int) - 1) = (mk : Int) := by have := hM.out; unfold wrap64; omega
  have hw2 : IntKind.u64.wrap (mk : Int) = (mk : Int) := by
    have := hM.out; rw [IntKind.wrap_u64]; omega
  have hand : ∀ x : Nat, x < 18446744073709551616 → bits BinOp.and IntKind.u64 (x : Int) (mk : Int) = ((x % S.length : Nat) : Int) := by
    intro x hx
    have e2 : mk = 2 ^ e - 1 := by omega
    rw [bits_and_u64_nat _ _ hx (by have := hM.out; omega), hS, e2, Nat.and_two_pow_sub_one_eq_mod]
  have HA := Aside0.mk hand; have ha0 := hand (hashN k) hh2; clear hT hS he hr h0 h1 hh1 hh2 hand hmk
  go_enter Try.func38, Try.ntmps38
  go_wp2_with (first | ((with_reducible refine zgd (N := 3) rfl ?_); refine zb ?hg (N := 3) ?hd (cs := #[.string k.f0, .string k.f1, .int .i64 k.f2]) (t := 37) ?hr ?_; (case hd => rfl); (case hg => rfl); (case hr => first | (go_simp; done) | (go_simp; rfl)); intro gb hg w1 hbox hb; have G1 := Aside0.mk hg; have X1 := Aside0.mk hbox; have B1 := Aside0.mk hb; have hp0 : w1.cell? ⟨p, 0, none⟩ = some (.slice (some ⟨g, 0, none⟩) S.length S.length) := (zC (HT.out.below hb).bp 0).trans rfl; have c0 : w1.cell? ⟨gb, 0, none⟩ = some (.string k.f0) := (zC hbox 0).trans rfl; have c1 : w1.cell? ⟨gb, 1, none⟩ = some (.string k.f1) := (zC hbox 1).trans rfl; have c2 : w1.cell? ⟨gb, 2, none⟩ = some (.int .i64 k.f2) := (zC hbox 2).trans rfl; clear hbox hb hg) | (go_at_call 46; refine (hash k.f0 k.f1 k.f2 _ H0.out H1.out).mono ?_; rw [HH.out]; rintro e w2 ⟨rfl, hb⟩; have B2 := Aside0.mk hb; clear hb))
  have HB := Aside0.mk (B1.out.trans (B2.out.mono B1.out.size)); have HX := Aside0.mk (blk_below X1.out B2.out); clear hp0 c0 c1 c2 B1 B2 X1
  go_loopg [7, 8, 9] f (fun kq v7 v8 v9 W' => ∃ (i : Nat) (sp : Int), v7 = .int .i64 sp ∧ v8 = .int .u64 i ∧ Aside0 (i < S.length ∧ plc S k kq i sp = some r) ∧ Aside0 (Below W.heap.size W W') ∧ Aside0 (W'.heap[gb]? = some (.cells #[.string k.f0, .string k.f1, .int .i64 k.f2] 37 (0, 0))))
  case atStart => exact ⟨hashN k % S.length, -1, rfl, rfl, ⟨Nat.mod_lt _ (by have := hM.out; omega), HR.out⟩, HB, HX⟩
  case round =>
  clear HB HX HR; obtain ⟨i, sp, rfl, rfl, HI, HB, HX⟩ := hrel
  cases gk with
  | zero => exact absurd HI.out.2 (by simp [plc])
  | succ k1 =>
  have hil := HI.out.1; have hplc := HI.out.2; rw [plc] at hplc; have TT := Aside0.mk (HT.out.below HB.out); have hp0 : wr.cell? ⟨p, 0, none⟩ = some (.slice (some ⟨g, 0, none⟩) S.length S.length) := (zC TT.out.bp 0).trans rfl; obtain ⟨y, hy⟩ : ∃ y, at60 S i = y := ⟨_, rfl⟩; have t0 : wr.cell? ⟨g, i * 5, none⟩ = some (.int .i64 y.f0) := hy ▸ TT.out.cell i hil 0 (by omega); have t1 : wr.cell? ⟨g, i * 5 + 1, none⟩ = some (.string y.f1.f0) := hy ▸ TT.out.cell i hil 1 (by omega); have t2 : wr.cell? ⟨g, i * 5 + 2, none⟩ = some (.string y.f1.f1) := hy ▸ TT.out.cell i hil 2 (by omega); have t3 : wr.cell? ⟨g, i * 5 + 3, none⟩ = some (.int .i64 y.f1.f2) := hy ▸ TT.out.cell i hil 3 (by omega); have c0 : wr.cell? ⟨gb, 0, none⟩ = some (.string k.f0) := (zC HX.out 0).trans rfl; have c1 : wr.cell? ⟨gb, 1, none⟩ = some (.string k.f1) := (zC HX.out 1).trans rfl; have c2 : wr.cell? ⟨gb, 2, none⟩ = some (.int .i64 k.f2) := (zC HX.out 2).trans rfl; rw [hy] at hplc; have HPL := Aside0.mk hplc; have HIL := Aside0.mk hil; have hi0 : decide ((0 : Int) ≤ (i : Int)) = true := decide_eq_true (by omega); have hib : decide ((i : Int) < (S.length : Int)) = true := decide_eq_true (by omega)
  have hwi : wrap64 (i : Int) = (i : Int) := by have := hM.out; unfold wrap64; omega
  have HY := Aside0.mk hy; clear hplc hy HI
  by_cases s0 : y.f0 = 0
  · have s0b : (y.f0 == 0) = true := by simp [s0]
    by_cases hsp : 0 ≤ sp
    · have hspb : decide (0 ≤ sp) = true := decide_eq_true hsp
      have HR := Aside0.mk (show r = (sp, false) by have h := HPL.out; rw [if_pos s0, if_pos hsp] at h; exact (Option.some.inj h).symm)
      clear hsp s0
      go_wp2_with fail
      go_ret2
      exact ⟨by rw [HR.out]; rfl, HB.out⟩
    · have hspb : decide (0 ≤ sp) = false := decide_eq_false hsp
      have HR := Aside0.mk (show r = ((i : Int), false) by have h := HPL.out; rw [if_pos s0, if_neg hsp] at h; exact (Option.some.inj h).symm)
      clear hsp s0
      go_wp2_with fail
      go_ret2
      refine ⟨?_, HB.out⟩
      rw [HR.out]
      show Ending.returned (.tuple #[.int .i64 (wrap64 (i : Int)), .bool false]) = _
      rw [hwi]
  · have s0b : (y.f0 == 0) = false := by simp [s0]
    have hw1 : IntKind.u64.wrap ((i : Int) + 1) = (i : Int) + 1 := by have := hM.out; rw [IntKind.wrap_u64]; omega
    have ha1 : bits BinOp.and IntKind.u64 ((i : Int) + 1) (mk : Int) = (((i + 1) % S.length : Nat) : Int) := HA.out (i + 1) (by have := hM.out; omega)
    have HN := Aside0.mk (show (i + 1) % S.length < S.length from Nat.mod_lt _ (by have := hM.out; omega))
    obtain ⟨i1, hi1⟩ : ∃ i1, (i + 1) % S.length = i1 := ⟨_, rfl⟩
    have HPL2 := Aside0.mk (show _ from by have h := HPL.out; rw [if_neg s0, hi1] at h; exact h)
    rw [hi1] at ha1 HN
    clear hi1 HPL
    by_cases s1 : y.f0 = 1
    · have s1b : (y.f0 == 1) = true := by simp [s1]
      have s2b : (y.f0 == 2) = false := by rw [s1]; rfl
      obtain ⟨b, hb⟩ : ∃ b, (y.f1.f0.toList == k.f0.toList && (y.f1.f1.toList == k.f1.toList && (y.f1.f2 == k.f2))) = b := ⟨_, rfl⟩
      have HBB := Aside0.mk hb
      have HS1 := Aside0.mk s1
      clear s0 s1
      go_upto_region 10 with (fail)
      refine start_ (n := 14) (S := (fun w' => w'.cell? ⟨g, i * 5, none⟩ = some (.int .i64 y.f0) ∧ w'.cell? ⟨g, i * 5 + 1, none⟩ = some (.string y.f1.f0) ∧ w'.cell? ⟨g, i * 5 + 2, none⟩ = some (.string y.f1.f1) ∧ w'.cell? ⟨g, i * 5 + 3, none⟩ = some (.int .i64 y.f1.f2) ∧ w'.cell? ⟨gb, 0, none⟩ = some (.string k.f0) ∧ w'.cell? ⟨gb, 1, none⟩ = some (.string k.f1) ∧ w'.cell? ⟨gb, 2, none⟩ = some (.int .i64 k.f2))) (ds := []) #[false, false, false, false, false, false, false, false, false, false, false, false, false, false] (by kernel_rfl) rfl rfl ?_ ?_
      · exact ⟨t0, t1, t2, t3, c0, c1, c2⟩
      intro hHeld
      refine pure_ (i := 0) (N := some 43) (v := ?_) (a' := ?_) #[true, false, false, false, false, false, false, false, false, false, false, false, false, false] rfl rfl (by kernel_rfl) (fun _ _ _ h => h) (Or.inl ⟨by rfl, ?_⟩) ?_ ?_
      rotate_left
      · intro w'
        go_simp
        with_reducible rfl
      rotate_left
      · simp only [Act.put, List.setIfInBounds_toArray, List.set_cons_zero, List.set_cons_succ, i64_w, i32_w]
        rfl
      refine pure_ (i := 1) (N := some 44) (v := ?_) (a' := ?_) #[true, true, false, false, false, false, false, false, false, false, false, false, false, false] rfl rfl (by kernel_rfl) (fun _ _ _ h => h) (Or.inl ⟨by rfl, ?_⟩) ?_ ?_
      rotate_left
      · intro w'
        go_simp
        with_reducible rfl
      rotate_left
      · simp only [Act.put, List.setIfInBounds_toArray, List.set_cons_zero, List.set_cons_succ, i64_w, i32_w]
        rfl
      refine pure_ (i := 2) (N := some 45) (v := ?_) (a' := ?_) #[true, true, true, false, false, false, false, false, false, false, false, false, false, false] rfl rfl (by kernel_rfl) (fun _ _ _ h => h) (Or.inl ⟨by rfl, ?_⟩) ?_ ?_
      rotate_left
      · intro w'
        go_simp
        with_reducible rfl
      rotate_left
      · simp only [Act.put, List.setIfInBounds_toArray, List.set_cons_zero, List.set_cons_succ, i64_w, i32_w]
        rfl
      refine take_ (i := 3) (N := some 46) (v := ?_) (a' := ?_) #[true, true, true, true, false, false, false, false, false, false, false, false, false, false] rfl rfl (by kernel_rfl) (fun _ _ _ h => h) (Or.inl ⟨by rfl, ?_⟩) hHeld ?_ ?_
      rotate_left
      · rintro w' ⟨s0, s1, s2, s3, s4, s5, s6⟩
        go_simp
        with_reducible rfl
      rotate_left
      · simp only [Act.put, List.setIfInBounds_toArray, List.set_cons_zero, List.set_cons_succ, i64_w, i32_w]
        rfl
      refine pure_ (i := 4) (N := some 47) (v := ?_) (a' := ?_) #[true, true, true, true, true, false, false, false, false, false, false, false, false, false] rfl rfl (by kernel_rfl) (fun _ _ _ h => h) (Or.inl ⟨by rfl, ?_⟩) ?_ ?_
      rotate_left
      · intro w'
        go_simp
        with_reducible rfl
      rotate_left
      · simp only [Act.put, List.setIfInBounds_toArray, List.set_cons_zero, List.set_cons_succ, i64_w, i32_w]
        rfl
      refine pure_ (i := 5) (N := some 48) (v := ?_) (a' := ?_) #[true, true, true, true, true, true, false, false, false, false, false, false, false, false] rfl rfl (by kernel_rfl) (fun _ _ _ h => h) (Or.inl ⟨by rfl, ?_⟩) ?_ ?_
      rotate_left
      · intro w'
        go_simp
        with_reducible rfl
      rotate_left
      · simp only [Act.put, List.setIfInBounds_toArray, List.set_cons_zero, List.set_cons_succ, i64_w, i32_w]
        rfl
      refine pure_ (i := 6) (N := some 49) (v := ?_) (a' := ?_) #[true, true, true, true, true, true, true, false, false, false, false, false, false, false] rfl rfl (by kernel_rfl) (fun _ _ _ h => h) (Or.inl ⟨by rfl, ?_⟩) ?_ ?_
      rotate_left
      · intro w'
        go_simp
        with_reducible rfl
      rotate_left
      · simp only [Act.put, List.setIfInBounds_toArray, List.set_cons_zero, List.set_cons_succ, i64_w, i32_w]
        rfl
      refine pure_ (i := 7) (N := some 50) (v := ?_) (a' := ?_) #[true, true, true, true, true, true, true, true, false, false, false, false, false, false] rfl rfl (by kernel_rfl) (fun _ _ _ h => h) (Or.inl ⟨by rfl, ?_⟩) ?_ ?_
      rotate_left
      · intro w'
        go_simp
        with_reducible rfl
      rotate_left
      · simp only [Act.put, List.setIfInBounds_toArray, List.set_cons_zero, List.set_cons_succ, i64_w, i32_w]
        rfl
      refine pure_ (i := 8) (N := some 51) (v := ?_) (a' := ?_) #[true, true, true, true, true, true, true, true, true, false, false, false, false, false] rfl rfl (by kernel_rfl) (fun _ _ _ h => h) (Or.inl ⟨by rfl, ?_⟩) ?_ ?_
      rotate_left
      · intro w'
        go_simp
        with_reducible rfl
      rotate_left
      · simp only [Act.put, List.setIfInBounds_toArray, List.set_cons_zero, List.set_cons_succ, i64_w, i32_w]
        rfl
      refine take_ (i := 9) (N := some 52) (v := ?_) (a' := ?_) #[true, true, true, true, true, true, true, true, true, true, false, false, false, false] rfl rfl (by kernel_rfl) (fun _ _ _ h => h) (Or.inl ⟨by rfl, ?_⟩) hHeld ?_ ?_
      rotate_left
      · rintro w' ⟨s0, s1, s2, s3, s4, s5, s6⟩
        go_simp
        with_reducible rfl
      rotate_left
      · simp only [Act.put, List.setIfInBounds_toArray, List.set_cons_zero, List.set_cons_succ, i64_w, i32_w]
        rfl
      refine take_ (i := 10) (N := some 53) (v := ?_) (a' := ?_) #[true, true, true, true, true, true, true, true, true, true, true, false, false, false] rfl rfl (by kernel_rfl) (fun _ _ _ h => h) (Or.inl ⟨by rfl, ?_⟩) hHeld ?_ ?_
      rotate_left
      · rintro w' ⟨s0, s1, s2, s3, s4, s5, s6⟩
        go_simp
        with_reducible rfl
      rotate_left
      · simp only [Act.put, List.setIfInBounds_toArray, List.set_cons_zero, List.set_cons_succ, i64_w, i32_w]
        rfl
      refine pure_ (i := 11) (N := some 54) (v := ?_) (a' := ?_) #[true, true, true, true, true, true, true, true, true, true, true, true, false, false] rfl rfl (by kernel_rfl) (fun _ _ _ h => h) (Or.inl ⟨by rfl, ?_⟩) ?_ ?_
      rotate_left
      · intro w'
        go_simp
        with_reducible rfl
      rotate_left
      · simp only [Act.put, List.setIfInBounds_toArray, List.set_cons_zero, List.set_cons_succ, i64_w, i32_w]
        rfl
      refine pure_ (i := 12) (N := some 55) (v := ?_) (a' := ?_) #[true, true, true, true, true, true, true, true, true, true, true, true, true, false] rfl rfl (by kernel_rfl) (fun _ _ _ h => h) (Or.inl ⟨by rfl, ?_⟩) ?_ ?_
      rotate_left
      · intro w'
        go_simp
        with_reducible rfl
      rotate_left
      · simp only [Act.put, List.setIfInBounds_toArray, List.set_cons_zero, List.set_cons_succ, i64_w, i32_w]
        rfl
      refine pure_ (i := 13) (N := some 42) (v := ?_) (a' := ?_) #[true, true, true, true, true, true, true, true, true, true, true, true, true, true] rfl rfl (by kernel_rfl) (fun _ _ _ h => h) (Or.inl ⟨by rfl, ?_⟩) ?_ ?_
      rotate_left
      · intro w'
        go_simp
        with_reducible rfl
      rotate_left
      · simp only [Act.put, List.setIfInBounds_toArray, List.set_cons_zero, List.set_cons_succ, i64_w, i32_w]
        rfl
      refine done_ (by kernel_rfl) ?_
      have t0 : wr.drew.cell? ⟨g, i * 5, none⟩ = some (.int .i64 y.f0) := t0
      have HB' := Aside0.mk (show Below W.heap.size W wr.drew from HB.out.drew)
      have HX' := Aside0.mk (show wr.drew.heap[gb]? = some (.cells #[.string k.f0, .string k.f1, .int .i64 k.f2] 37 (0, 0)) from HX.out)
      obtain ⟨W5, hW5⟩ : ∃ W5, wr.drew = W5 := ⟨_, rfl⟩
      rw [hW5] at t0 HB' HX' ⊢
      clear t1 t2 t3 c0 c1 c2 HB HX hW5
      cases b with
      | true =>
        have HR := Aside0.mk (show r = ((i : Int), true) by
          have h := HPL2.out; have h2 := HBB.out; simp only [Bool.and_eq_true, beq_iff_eq] at h2; rw [if_pos ⟨HS1.out, h2⟩] at h
          exact (Option.some.inj h).symm)
        clear HPL2 HBB
        go_wp2_with fail
        go_ret2
        refine ⟨?_, HB'.out⟩; rw [HR.out]
        show Ending.returned (.tuple #[.int .i64 (wrap64 (i : Int)), .bool true]) = _
        rw [hwi]
      | false =>
        have HP3 := Aside0.mk (show plc S k k1 i1 sp = some r by
          have h := HPL2.out; have h2 := HBB.out; rw [if_neg (fun q => by rw [q.2.1, q.2.2.1, q.2.2.2] at h2; simp at h2), if_neg (fun q => by rw [HS1.out] at q; exact absurd q.1 (by decide))] at h
          exact h)
        clear HPL2 HBB
        go_wp2_with fail
        go_roundg k1
        case rel => exact ⟨i1, sp, rfl, rfl, ⟨HN.out, HP3.out⟩, HB', HX'⟩
        case measure => omega
    · have s1b : (y.f0 == 1) = false := by simp [s1]
      have HP3 := Aside0.mk (show plc S k k1 i1 (if y.f0 = 2 ∧ sp < 0 then i else sp) = some r by
          have h := HPL2.out; rw [if_neg (fun q => s1 q.1)] at h
          exact h)
      clear HPL2 s0 s1
      go_upto_region 10 with (fail)
      refine start_ (n := 14) (S := (fun w' => w'.cell? ⟨g, i * 5, none⟩ = some (.int .i64 y.f0) ∧ w'.cell? ⟨g, i * 5 + 1, none⟩ = some (.string y.f1.f0) ∧ w'.cell? ⟨g, i * 5 + 2, none⟩ = some (.string y.f1.f1) ∧ w'.cell? ⟨g, i * 5 + 3, none⟩ = some (.int .i64 y.f1.f2) ∧ w'.cell? ⟨gb, 0, none⟩ = some (.string k.f0) ∧ w'.cell? ⟨gb, 1, none⟩ = some (.string k.f1) ∧ w'.cell? ⟨gb, 2, none⟩ = some (.int .i64 k.f2))) (ds := []) #[false, false, false, false, false, false, false, false, false, false, false, false, false, false] (by kernel_rfl) rfl rfl ?_ ?_
      · exact ⟨t0, t1, t2, t3, c0, c1, c2⟩
      intro hHeld
      refine pure_ (i := 0) (N := some 43) (v := ?_) (a' := ?_) #[true, false, false, false, false, false, false, false, false, false, false, false, false, false] rfl rfl (by kernel_rfl) (fun _ _ _ h => h) (Or.inl ⟨by rfl, ?_⟩) ?_ ?_
      rotate_left
      · intro w'
        go_simp
        with_reducible rfl
      rotate_left
      · simp only [Act.put, List.setIfInBounds_toArray, List.set_cons_zero, List.set_cons_succ, i64_w, i32_w]
        rfl
      refine pure_ (i := 1) (N := some 44) (v := ?_) (a' := ?_) #[true, true, false, false, false, false, false, false, false, false, false, false, false, false] rfl rfl (by kernel_rfl) (fun _ _ _ h => h) (Or.inl ⟨by rfl, ?_⟩) ?_ ?_
      rotate_left
      · intro w'
        go_simp
        with_reducible rfl
      rotate_left
      · simp only [Act.put, List.setIfInBounds_toArray, List.set_cons_zero, List.set_cons_succ, i64_w, i32_w]
        rfl
      refine pure_ (i := 2) (N := some 45) (v := ?_) (a' := ?_) #[true, true, true, false, false, false, false, false, false, false, false, false, false, false] rfl rfl (by kernel_rfl) (fun _ _ _ h => h) (Or.inl ⟨by rfl, ?_⟩) ?_ ?_
      rotate_left
      · intro w'
        go_simp
        with_reducible rfl
      rotate_left
      · simp only [Act.put, List.setIfInBounds_toArray, List.set_cons_zero, List.set_cons_succ, i64_w, i32_w]
        rfl
      refine take_ (i := 3) (N := some 46) (v := ?_) (a' := ?_) #[true, true, true, true, false, false, false, false, false, false, false, false, false, false] rfl rfl (by kernel_rfl) (fun _ _ _ h => h) (Or.inl ⟨by rfl, ?_⟩) hHeld ?_ ?_
      rotate_left
      · rintro w' ⟨s0, s1, s2, s3, s4, s5, s6⟩
        go_simp
        with_reducible rfl
      rotate_left
      · simp only [Act.put, List.setIfInBounds_toArray, List.set_cons_zero, List.set_cons_succ, i64_w, i32_w]
        rfl
      refine pure_ (i := 4) (N := some 47) (v := ?_) (a' := ?_) #[true, true, true, true, true, false, false, false, false, false, false, false, false, false] rfl rfl (by kernel_rfl) (fun _ _ _ h => h) (Or.inl ⟨by rfl, ?_⟩) ?_ ?_
      rotate_left
      · intro w'
        go_simp
        with_reducible rfl
      rotate_left
      · simp only [Act.put, List.setIfInBounds_toArray, List.set_cons_zero, List.set_cons_succ, i64_w, i32_w]
        rfl
      refine pure_ (i := 5) (N := some 48) (v := ?_) (a' := ?_) #[true, true, true, true, true, true, false, false, false, false, false, false, false, false] rfl rfl (by kernel_rfl) (fun _ _ _ h => h) (Or.inl ⟨by rfl, ?_⟩) ?_ ?_
      rotate_left
      · intro w'
        go_simp
        with_reducible rfl
      rotate_left
      · simp only [Act.put, List.setIfInBounds_toArray, List.set_cons_zero, List.set_cons_succ, i64_w, i32_w]
        rfl
      refine pure_ (i := 6) (N := some 49) (v := undef) (a' := ?_) #[true, true, true, true, true, true, true, false, false, false, false, false, false, false] rfl rfl (by kernel_rfl) (fun _ _ _ h => h) (Or.inr ⟨by rfl, rfl⟩) ?_ ?_
      rotate_left
      · simp only [Act.put, List.setIfInBounds_toArray, List.set_cons_zero, List.set_cons_succ, i64_w, i32_w]
        rfl
      refine pure_ (i := 7) (N := some 50) (v := undef) (a' := ?_) #[true, true, true, true, true, true, true, true, false, false, false, false, false, false] rfl rfl (by kernel_rfl) (fun _ _ _ h => h) (Or.inr ⟨by rfl, rfl⟩) ?_ ?_
      rotate_left
      · simp only [Act.put, List.setIfInBounds_toArray, List.set_cons_zero, List.set_cons_succ, i64_w, i32_w]
        rfl
      refine pure_ (i := 8) (N := some 51) (v := undef) (a' := ?_) #[true, true, true, true, true, true, true, true, true, false, false, false, false, false] rfl rfl (by kernel_rfl) (fun _ _ _ h => h) (Or.inr ⟨by rfl, rfl⟩) ?_ ?_
      rotate_left
      · simp only [Act.put, List.setIfInBounds_toArray, List.set_cons_zero, List.set_cons_succ, i64_w, i32_w]
        rfl
      refine pure_ (i := 9) (N := some 52) (v := undef) (a' := ?_) #[true, true, true, true, true, true, true, true, true, true, false, false, false, false] rfl rfl (by kernel_rfl) (fun _ _ _ h => h) (Or.inr ⟨by rfl, rfl⟩) ?_ ?_
      rotate_left
      · simp only [Act.put, List.setIfInBounds_toArray, List.set_cons_zero, List.set_cons_succ, i64_w, i32_w]
        rfl
      refine pure_ (i := 10) (N := some 53) (v := undef) (a' := ?_) #[true, true, true, true, true, true, true, true, true, true, true, false, false, false] rfl rfl (by kernel_rfl) (fun _ _ _ h => h) (Or.inr ⟨by rfl, rfl⟩) ?_ ?_
      rotate_left
      · simp only [Act.put, List.setIfInBounds_toArray, List.set_cons_zero, List.set_cons_succ, i64_w, i32_w]
        rfl
      refine pure_ (i := 11) (N := some 54) (v := undef) (a' := ?_) #[true, true, true, true, true, true, true, true, true, true, true, true, false, false] rfl rfl (by kernel_rfl) (fun _ _ _ h => h) (Or.inr ⟨by rfl, rfl⟩) ?_ ?_
      rotate_left
      · simp only [Act.put, List.setIfInBounds_toArray, List.set_cons_zero, List.set_cons_succ, i64_w, i32_w]
        rfl
      refine pure_ (i := 12) (N := some 55) (v := ?_) (a' := ?_) #[true, true, true, true, true, true, true, true, true, true, true, true, true, false] rfl rfl (by kernel_rfl) (fun _ _ _ h => h) (Or.inl ⟨by rfl, ?_⟩) ?_ ?_
      rotate_left
      · intro w'
        go_simp
        with_reducible rfl
      rotate_left
      · simp only [Act.put, List.setIfInBounds_toArray, List.set_cons_zero, List.set_cons_succ, i64_w, i32_w]
        rfl
      refine pure_ (i := 13) (N := some 42) (v := ?_) (a' := ?_) #[true, true, true, true, true, true, true, true, true, true, true, true, true, true] rfl rfl (by kernel_rfl) (fun _ _ _ h => h) (Or.inl ⟨by rfl, ?_⟩) ?_ ?_
      rotate_left
      · intro w'
        go_simp
        with_reducible rfl
      rotate_left
      · simp only [Act.put, List.setIfInBounds_toArray, List.set_cons_zero, List.set_cons_succ, i64_w, i32_w]
        rfl
      refine done_ (by kernel_rfl) ?_
      have t0 : wr.drew.cell? ⟨g, i * 5, none⟩ = some (.int .i64 y.f0) := t0
      have HB' := Aside0.mk (show Below W.heap.size W wr.drew from HB.out.drew)
      have HX' := Aside0.mk (show wr.drew.heap[gb]? = some (.cells #[.string k.f0, .string k.f1, .int .i64 k.f2] 37 (0, 0)) from HX.out)
      obtain ⟨W5, hW5⟩ : ∃ W5, wr.drew = W5 := ⟨_, rfl⟩
      rw [hW5] at t0 HB' HX' ⊢
      clear t1 t2 t3 c0 c1 c2 HB HX hW5
      by_cases s2 : y.f0 = 2
      · have s2b : (y.f0 == 2) = true := by simp [s2]
        by_cases hsp : sp < 0
        · have hspb : decide (sp < 0) = true := decide_eq_true hsp
          have HP4 := Aside0.mk (show plc S k k1 i1 (i : Int) = some r by have h := HP3.out; rw [if_pos ⟨s2, hsp⟩] at h; exact h)
          clear HP3 s2 hsp
          go_wp2_with fail
          go_roundg k1
          case rel => exact ⟨i1, (i : Int), by rw [hwi], rfl, ⟨HN.out, HP4.out⟩, HB', HX'⟩
          case measure => omega
        · have hspb : decide (sp < 0) = false := decide_eq_false hsp
          have HP4 := Aside0.mk (show plc S k k1 i1 sp = some r by have h := HP3.out; rw [if_neg (fun q => hsp q.2)] at h; exact h)
          clear HP3 s2 hsp
          go_wp2_with fail
          go_roundg k1
          case rel => exact ⟨i1, sp, rfl, rfl, ⟨HN.out, HP4.out⟩, HB', HX'⟩
          case measure => omega
      · have s2b : (y.f0 == 2) = false := by simp [s2]
        have HP4 := Aside0.mk (show plc S k k1 i1 sp = some r by have h := HP3.out; rw [if_neg (fun q => s2 q.1)] at h; exact h)
        clear HP3 s2
        go_wp2_with fail
        go_roundg k1
        case rel => exact ⟨i1, sp, rfl, rfl, ⟨HN.out, HP4.out⟩, HB', HX'⟩
        case measure => omega
end Go.Proofs.Ytelacebdmmanhaa.G
namespace Go.Proofs.Ytelacebdmmanhaa.G
open Go.RowKit Go.Proofs.YtelacebdmmanhaaW.PrintWords
set_option linter.unusedVariables false
set_option linter.unusedSimpArgs false
theorem bytes_eq {a b : ByteArray} (h : a.toList = b.toList) : a = b := by
  rw [ByteArray.toList_eq, ByteArray.toList_eq] at h; cases a; cases b
  congr 1
  exact Array.toList_inj.1 h
theorem key_iff (x k : S37) : (x.f0.toList = k.f0.toList ∧ x.f1.toList = k.f1.toList ∧ x.f2 = k.f2) ↔ x = k := by
  constructor; (rintro ⟨a, b, c⟩; cases x; cases k; simp only at a b c; rw [bytes_eq a, bytes_eq b, c]); (rintro rfl; exact ⟨rfl, rfl, rfl⟩)
theorem at60_set (S : List S72) (j : Nat) (x : S72) (i : Nat) (hj : j < S.length) : at60 (S.set j x) i = if i = j then x else at60 S i := by
  unfold at60; rw [List.getD_eq_getElem?_getD, List.getD_eq_getElem?_getD, List.getElem?_set]
  by_cases h : j = i
  (subst h; simp [hj]); (rw [if_neg h, if_neg (fun q => h q.symm)])
theorem at60_rep (n i : Nat) : at60 (List.replicate n z72) i = z72 := by
  unfold at60; rw [List.getD_eq_getElem?_getD, List.getElem?_replicate]; split <;> rfl
open Classical in
/-- A map with one label's number changed. -/
noncomputable def upd (D : S37 → Option Int) (k : S37) (o : Option Int) : S37 → Option Int := fun k' => if k' = k then o else D k'
theorem upd_same (D : S37 → Option Int) (k : S37) (o : Option Int) : upd D k o k = o := by unfold upd; rw [if_pos rfl]
theorem upd_other (D : S37 → Option Int) {k k' : S37} (o : Option Int) (h : k' ≠ k) : upd D k o k' = D k' := by unfold upd; rw [if_neg h]
/-- The sizes that a label's texts may have. -/
def Fit (k : S37) : Prop := k.f0.size ≤ 140737488351232 ∧ k.f1.size ≤ 140737488351232
/-- Places that hold a map. -/
structure OK (S : List S72) (live used : Nat) (D : S37 → Option Int) : Prop where
  pw : ∃ e, S.length = 2 ^ e ∧ e ≤ 40
  hl : live = S.countP (fun x => x.f0 == 1)
  hu : used = S.countP (fun x => !(x.f0 == 0))
  pr : ∀ j, j < S.length → (at60 S j).f0 = 1 → ∃ t, j = (hashN (at60 S j).f1 + t) % S.length ∧ ∀ u, u < t → ¬ (at60 S ((hashN (at60 S j).f1 + u) % S.length)).f0 = 0
  un : ∀ i j, i < S.length → j < S.length → (at60 S i).f0 = 1 → (at60 S j).f0 = 1 → (at60 S i).f1 = (at60 S j).f1 → i = j
  dd : ∀ k v, D k = some v ↔ ∃ j, j < S.length ∧ (at60 S j).f0 = 1 ∧ (at60 S j).f1 = k ∧ (at60 S j).f2 = v
  sz : ∀ j, j < S.length → (at60 S j).f0 = 1 → Fit (at60 S j).f1
theorem two_pos (e : Nat) : 0 < 2 ^ e := Nat.two_pow_pos e
theorem OK.len {S : List S72} {live used : Nat} {D : S37 → Option Int} (h : OK S live used D) : 0 < S.length ∧ S.length ≤ 1099511627776 := by
  obtain ⟨e, h1, h2⟩ := h.pw; rw [h1]; exact ⟨two_pos e, Nat.pow_le_pow_right (by omega) h2⟩
theorem OK.live_le {S : List S72} {live used : Nat} {D : S37 → Option Int} (h : OK S live used D) : live ≤ used ∧ used ≤ S.length := by
  rw [h.hl, h.hu]; refine ⟨List.countP_mono_left ?_, List.countP_le_length⟩; intro x _ hx; simp only [beq_iff_eq] at hx; simp [hx]
theorem at60_mem {S : List S72} {x : S72} (h : x ∈ S) : ∃ j, j < S.length ∧ at60 S j = x := by
  obtain ⟨j, hj, e⟩ := List.getElem_of_mem h; exact ⟨j, hj, by rw [at60_eq S j hj, e]⟩
theorem mem_at60 {S : List S72} {j : Nat} (h : j < S.length) : at60 S j ∈ S := by
  rw [at60_eq S j h]; exact List.getElem_mem h
theorem least (p : Nat → Prop) : ∀ n, p n → ∃ t, t ≤ n ∧ p t ∧ ∀ u, u < t → ¬ p u := by
  classical
  intro n
  induction n using Nat.strongRecOn with
  | ind n ih =>
    intro hn
    by_cases h : ∃ m, m < n ∧ p m
    (obtain ⟨m, hm, pm⟩ := h; obtain ⟨t, a, b, c⟩ := ih m hm pm; exact ⟨t, by omega, b, c⟩); (exact ⟨n, Nat.le_refl n, hn, fun u hu pu => h ⟨u, hu, pu⟩⟩)
theorem OK.place {S : List S72} {live used : Nat} {D : S37 → Option Int} (ok : OK S live used D) (hf : used < S.length) (k : S37) :
    ∃ f r, plc S k f (hashN k % S.length) (-1) = some r ∧
      ((∃ j, j < S.length ∧ r = ((j : Int), true) ∧ (at60 S j).f0 = 1 ∧ (at60 S j).f1 = k) ∨
       (∃ j, j < S.length ∧ r = ((j : Int), false) ∧ (at60 S j).f0 ≠ 1 ∧ (∀ i, i < S.length → (at60 S i).f0 = 1 → (at60 S i).f1 ≠ k) ∧ ∃ t, j = (hashN k + t) % S.length ∧ ∀ u, u < t → ¬ (at60 S ((hashN k + u) % S.length)).f0 = 0)) := by
  obtain ⟨h0, hh⟩ : ∃ h0, hashN k = h0 := ⟨_, rfl⟩; rw [hh]; obtain ⟨hL, _⟩ := ok.len
  have hq : ∃ q, q < S.length ∧ (at60 S q).f0 = 0 := by
    apply Classical.byContradiction; intro h
    have : S.countP (fun x => !(x.f0 == 0)) = S.length := by
      rw [List.countP_eq_length]; intro x hx; obtain ⟨j, hj, rfl⟩ := at60_mem hx
      have : ¬ (at60 S j).f0 = 0 := fun q => h ⟨j, hj, q⟩
      simp [this]
    have := ok.hu; omega
  obtain ⟨q, hq1, hq2⟩ := hq
  have hT : ∃ n, (at60 S ((h0 + n) % S.length)).f0 = 0 := by
    refine ⟨q + S.length - h0 % S.length, ?_⟩; have h1 := Nat.mod_lt (h0) hL; have h2 := Nat.mod_add_div (h0) S.length
    have e : h0 + (q + S.length - h0 % S.length) = q + S.length * (h0 / S.length + 1) := by
      rw [Nat.mul_add]; omega
    rw [e, Nat.add_mul_mod_self_left, Nat.mod_eq_of_lt hq1]; exact hq2
  obtain ⟨n, hn⟩ := hT; obtain ⟨T, _, hT1, hT2⟩ := least (fun n => (at60 S ((h0 + n) % S.length)).f0 = 0) n hn
  have main : ∀ d t, t + d = T → ∀ sp : Int, (∀ u, u < t → ¬ ((at60 S ((h0 + u) % S.length)).f0 = 1 ∧ (at60 S ((h0 + u) % S.length)).f1 = k)) → (sp = -1 ∨ ∃ s, s < t ∧ sp = (((h0 + s) % S.length : Nat) : Int) ∧ (at60 S ((h0 + s) % S.length)).f0 = 2) →
      ∃ r, plc S k (d + 1) ((h0 + t) % S.length) sp = some r ∧
      ((∃ j, j < S.length ∧ r = ((j : Int), true) ∧ (at60 S j).f0 = 1 ∧ (at60 S j).f1 = k) ∨
       (∃ j, j < S.length ∧ r = ((j : Int), false) ∧ (at60 S j).f0 ≠ 1 ∧ (∀ i, i < S.length → (at60 S i).f0 = 1 → (at60 S i).f1 ≠ k) ∧ ∃ t, j = (h0 + t) % S.length ∧ ∀ u, u < t → ¬ (at60 S ((h0 + u) % S.length)).f0 = 0)) := by
    intro d
    induction d with
    | zero =>
      intro t ht sp hu hs; have ht : t = T := ht; subst ht; refine ⟨_, by rw [plc, if_pos hT1], Or.inr ?_⟩
      have none : ∀ i, i < S.length → (at60 S i).f0 = 1 → (at60 S i).f1 ≠ k := by
        intro i hi h1 h2; obtain ⟨t', e, hn⟩ := ok.pr i hi h1; rw [h2, hh] at e hn
        rcases Nat.lt_trichotomy t' t with h | h | h
        (exact hu t' h ⟨e ▸ h1, e ▸ h2⟩); (rw [h] at e; rw [e] at h1; rw [hT1] at h1; exact absurd h1 (by decide)); (exact hn t h hT1)
      rcases hs with rfl | ⟨s, hs1, rfl, hs2⟩
      (refine ⟨(h0 + t) % S.length, Nat.mod_lt _ hL, by rw [if_neg (by omega)], by rw [hT1]; decide, none, t, rfl, hT2⟩); (refine ⟨(h0 + s) % S.length, Nat.mod_lt _ hL, by rw [if_pos (by omega)], by rw [hs2]; decide, none, s, rfl, fun u hu => hT2 u (by omega)⟩)
    | succ d ih =>
      intro t ht sp hu hs; have hnf := hT2 t (by omega); rw [plc, if_neg hnf]
      by_cases hk : (at60 S ((h0 + t) % S.length)).f0 = 1 ∧ (at60 S ((h0 + t) % S.length)).f1 = k
      · rw [if_pos ⟨hk.1, (key_iff _ _).2 hk.2⟩]
        exact ⟨_, rfl, Or.inl ⟨_, Nat.mod_lt _ hL, rfl, hk.1, hk.2⟩⟩
      · rw [if_neg (fun q => hk ⟨q.1, (key_iff _ _).1 q.2⟩), Nat.mod_add_mod, Nat.add_assoc]
        refine ih (t + 1) (by omega) _ ?_ ?_
        · intro u h
          by_cases hut : u = t
          · rw [hut]; exact hk
          · exact hu u (by omega)
        · by_cases h2 : (at60 S ((h0 + t) % S.length)).f0 = 2 ∧ sp < 0
          · rw [if_pos h2]
            exact Or.inr ⟨t, by omega, rfl, h2.1⟩
          · rw [if_neg h2]
            rcases hs with h | ⟨s, a, b, c⟩
            · exact Or.inl h
            · exact Or.inr ⟨s, by omega, b, c⟩
  obtain ⟨r, h1, h2⟩ := main T 0 (by omega) (-1) (fun u h => absurd h (by omega)) (Or.inl rfl); rw [Nat.add_zero] at h1; exact ⟨T + 1, r, h1, h2⟩
theorem OK.none_of {S : List S72} {live used : Nat} {D : S37 → Option Int} (ok : OK S live used D) {k : S37} (h : ∀ i, i < S.length → (at60 S i).f0 = 1 → (at60 S i).f1 ≠ k) : D k = none := by
  cases hd : D k with
  | none => rfl
  | some v =>
    obtain ⟨j, hj, a, b, _⟩ := (ok.dd k v).1 hd; exact absurd b (h j hj a)
theorem OK.some_of {S : List S72} {live used : Nat} {D : S37 → Option Int} (ok : OK S live used D) {k : S37} {j : Nat} (hj : j < S.length) (h1 : (at60 S j).f0 = 1) (h2 : (at60 S j).f1 = k) : D k = some (at60 S j).f2 :=
  (ok.dd k _).2 ⟨j, hj, h1, h2, rfl⟩
theorem OK.put {S : List S72} {live used : Nat} {D : S37 → Option Int} (ok : OK S live used D) {k : S37} {j : Nat} (v : Int) (hj : j < S.length) (h1 : (at60 S j).f0 ≠ 1)
    (hn : ∀ i, i < S.length → (at60 S i).f0 = 1 → (at60 S i).f1 ≠ k) (ht : ∃ t, j = (hashN k + t) % S.length ∧ ∀ u, u < t → ¬ (at60 S ((hashN k + u) % S.length)).f0 = 0) (hk : Fit k) :
    OK (S.set j ⟨1, k, v⟩) (live + 1) (if (at60 S j).f0 = 0 then used + 1 else used) (upd D k (some v)) := by
  have hz : ∀ u, ¬ (at60 S u).f0 = 0 → ¬ (at60 (S.set j ⟨1, k, v⟩) u).f0 = 0 := by
    intro u hu; rw [at60_set S j _ u hj]; split
    · show ¬ (1 : Int) = 0
      decide
    · exact hu
  constructor; (rw [List.length_set]; exact ok.pw); (rw [List.countP_set hj, ok.hl, ← at60_eq S j hj, if_neg (by simpa using h1), if_pos (by rfl)]; omega)
  · rw [List.countP_set hj, ok.hu, ← at60_eq S j hj]
    have : 0 < S.length := by omega
    by_cases h0 : (at60 S j).f0 = 0
    · rw [if_pos h0, if_neg (by simp [h0]), if_pos (by rfl)]
      omega
    · rw [if_neg h0, if_pos (by simp [h0]), if_pos (by rfl)]
      have : 0 < S.countP (fun x => !(x.f0 == 0)) := List.countP_pos_iff.2 ⟨at60 S j, mem_at60 hj, by simp [h0]⟩
      omega
  · rw [List.length_set]
    intro i hi hs
    by_cases hij : i = j
    · subst hij
      rw [at60_set S i _ i hj, if_pos rfl]
      obtain ⟨t, e, hu⟩ := ht
      exact ⟨t, e, fun u h => hz _ (hu u h)⟩
    · rw [at60_set S j _ i hj, if_neg hij] at hs ⊢
      obtain ⟨t, e, hu⟩ := ok.pr i hi hs
      exact ⟨t, e, fun u h => hz _ (hu u h)⟩
  · rw [List.length_set]
    intro a b ha hb sa sb he
    rw [at60_set S j _ a hj] at sa he
    rw [at60_set S j _ b hj] at sb he
    by_cases haj : a = j
    · by_cases hbj : b = j
      · omega
      · rw [if_pos haj, if_neg hbj] at he
        rw [if_neg hbj] at sb
        exact absurd he.symm (hn b hb sb)
    · rw [if_neg haj] at sa
      by_cases hbj : b = j
      · rw [if_neg haj, if_pos hbj] at he
        exact absurd he (hn a ha sa)
      · rw [if_neg haj, if_neg hbj] at he
        rw [if_neg hbj] at sb
        exact ok.un a b ha hb sa sb he
  · intro k' v'
    rw [List.length_set]
    by_cases hkk : k' = k
    · subst hkk
      rw [upd_same]
      constructor
      · intro h
        refine ⟨j, hj, ?_⟩
        rw [at60_set S j _ j hj, if_pos rfl]
        exact ⟨rfl, rfl, Option.some.inj h⟩
      · rintro ⟨i, hi, a, b, c⟩
        rw [at60_set S j _ i hj] at a b c
        by_cases hij : i = j
        · rw [if_pos hij] at c
          exact congrArg some c
        · rw [if_neg hij] at a b
          exact absurd b (hn i hi a)
    · rw [upd_other _ _ hkk, ok.dd]
      constructor
      · rintro ⟨i, hi, a, b, c⟩
        refine ⟨i, hi, ?_⟩
        rw [at60_set S j _ i hj, if_neg (fun q => h1 (by rw [← q]; exact a))]
        exact ⟨a, b, c⟩
      · rintro ⟨i, hi, a, b, c⟩
        rw [at60_set S j _ i hj] at a b c
        by_cases hij : i = j
        · rw [if_pos hij] at b
          exact absurd b.symm hkk
        · rw [if_neg hij] at a b c
          exact ⟨i, hi, a, b, c⟩
  · rw [List.length_set]
    intro i hi hs
    rw [at60_set S j _ i hj] at hs ⊢
    by_cases hij : i = j
    · rw [if_pos hij]; exact hk
    · rw [if_neg hij] at hs ⊢; exact ok.sz i hi hs
theorem OK.drop {S : List S72} {live used : Nat} {D : S37 → Option Int} (ok : OK S live used D) {k : S37} {j : Nat} (hj : j < S.length) (h1 : (at60 S j).f0 = 1) (h2 : (at60 S j).f1 = k) :
    OK (S.set j ⟨2, z37, 0⟩) (live - 1) used (upd D k none) := by
  have hz : ∀ u, ¬ (at60 S u).f0 = 0 → ¬ (at60 (S.set j ⟨2, z37, 0⟩) u).f0 = 0 := by
    intro u hu; rw [at60_set S j _ u hj]; split
    · show ¬ (2 : Int) = 0
      decide
    · exact hu
  have old : ∀ i, (at60 (S.set j ⟨2, z37, 0⟩) i).f0 = 1 → i ≠ j ∧ at60 (S.set j ⟨2, z37, 0⟩) i = at60 S i := by
    intro i h
    by_cases hij : i = j
    (rw [hij, at60_set S j _ j hj, if_pos rfl] at h; exact absurd h (by decide)); (rw [at60_set S j _ i hj, if_neg hij]; exact ⟨hij, rfl⟩)
  constructor; (rw [List.length_set]; exact ok.pw); (rw [List.countP_set hj, ok.hl, ← at60_eq S j hj, if_pos (by simp [h1]), if_neg (by decide)]; rfl); (rw [List.countP_set hj, ok.hu, ← at60_eq S j hj, if_pos (by simp [h1]), if_pos (by rfl)]; have : 0 < S.countP (fun x => !(x.f0 == 0)) := List.countP_pos_iff.2 ⟨at60 S j, mem_at60 hj, by simp [h1]⟩; omega); (rw [List.length_set]; intro i hi hs; obtain ⟨hij, e⟩ := old i hs; rw [e] at hs ⊢; obtain ⟨t, e, hu⟩ := ok.pr i hi hs; exact ⟨t, e, fun u h => hz _ (hu u h)⟩); (rw [List.length_set]; intro a b ha hb sa sb he; obtain ⟨_, ea⟩ := old a sa; obtain ⟨_, eb⟩ := old b sb; rw [ea] at sa he; rw [eb] at sb he; exact ok.un a b ha hb sa sb he)
  · intro k' v'
    rw [List.length_set]
    by_cases hkk : k' = k
    · subst hkk
      rw [upd_same]
      constructor
      · intro h; cases h
      · rintro ⟨i, hi, a, b, c⟩
        obtain ⟨hij, e⟩ := old i a
        rw [e] at a b
        exact absurd (ok.un i j hi hj a h1 (b.trans h2.symm)) hij
    · rw [upd_other _ _ hkk, ok.dd]
      constructor
      · rintro ⟨i, hi, a, b, c⟩
        refine ⟨i, hi, ?_⟩
        rw [at60_set S j _ i hj, if_neg (fun q => hkk (by rw [← b, ← h2, q]))]
        exact ⟨a, b, c⟩
      · rintro ⟨i, hi, a, b, c⟩
        obtain ⟨hij, e⟩ := old i a
        rw [e] at a b c
        exact ⟨i, hi, a, b, c⟩
  · rw [List.length_set]
    intro i hi hs; obtain ⟨_, e⟩ := old i hs; rw [e] at hs ⊢; exact ok.sz i hi hs
theorem OK.fresh (n : Nat) (hp : ∃ e, n = 2 ^ e ∧ e ≤ 40) : OK (List.replicate n z72) 0 0 (fun _ => none) := by
  have h0 : ∀ j, ¬ (at60 (List.replicate n z72) j).f0 = 1 := by
    intro j; rw [at60_rep]; decide
  constructor; (rw [List.length_replicate]; exact hp); (rw [List.countP_replicate, if_neg (by decide)]); (rw [List.countP_replicate, if_neg (by decide)]); (intro j _ h; exact absurd h (h0 j)); (intro i j _ _ h; exact absurd h (h0 i))
  · intro k v
    constructor
    · intro h; cases h
    · rintro ⟨j, _, a, _⟩; exact absurd a (h0 j)
  · intro j _ h; exact absurd h (h0 j)
theorem OK.zero {S : List S72} {used : Nat} {D : S37 → Option Int} (ok : OK S 0 used D) : D = fun _ => none := by
  funext k
  refine ok.none_of ?_; intro i hi h; have hp : 0 < S.countP (fun x : S72 => x.f0 == 1) := List.countP_pos_iff.2 ⟨at60 S i, mem_at60 hi, by simp [h]⟩; have := ok.hl; omega
/-- The map of the first places. -/
noncomputable def part (S : List S72) (D : S37 → Option Int) (i : Nat) : S37 → Option Int := by
  classical
  exact fun k => if ∃ j, j < i ∧ (at60 S j).f0 = 1 ∧ (at60 S j).f1 = k then D k else none
theorem part_zero (S : List S72) (D : S37 → Option Int) : part S D 0 = fun _ => none := by
  funext k
  unfold part; rw [if_neg]; rintro ⟨j, h, _⟩; omega
theorem part_all {S : List S72} {live used : Nat} {D : S37 → Option Int} (ok : OK S live used D) : part S D S.length = D := by
  funext k
  unfold part; split; (rfl)
  · rename_i h
    exact (ok.none_of (fun i hi a b => h ⟨i, hi, a, b⟩)).symm
theorem part_skip (S : List S72) (D : S37 → Option Int) (i : Nat) (h : ¬ (at60 S i).f0 = 1) : part S D (i + 1) = part S D i := by
  funext k
  unfold part
  by_cases h1 : ∃ j, j < i ∧ (at60 S j).f0 = 1 ∧ (at60 S j).f1 = k
  · rw [if_pos h1, if_pos (by obtain ⟨j, a, b⟩ := h1; exact ⟨j, by omega, b⟩)]
  · rw [if_neg h1, if_neg]
    rintro ⟨j, a, b⟩
    by_cases hji : j = i
    · exact h (hji ▸ b.1)
    · exact h1 ⟨j, by omega, b⟩
theorem part_step {S : List S72} {live used : Nat} {D : S37 → Option Int} (ok : OK S live used D) (i : Nat) (hi : i < S.length) (h : (at60 S i).f0 = 1) :
    part S D i (at60 S i).f1 = none ∧ part S D (i + 1) = upd (part S D i) (at60 S i).f1 (some (at60 S i).f2) := by
  have no : ¬ ∃ j, j < i ∧ (at60 S j).f0 = 1 ∧ (at60 S j).f1 = (at60 S i).f1 := by
    rintro ⟨j, a, b, c⟩; have := ok.un j i (by omega) hi b h c; omega
  refine ⟨by unfold part; rw [if_neg no], ?_⟩
  funext k
  by_cases hk : k = (at60 S i).f1
  · subst hk
    rw [upd_same]; unfold part; rw [if_pos ⟨i, by omega, h, rfl⟩]; exact ok.some_of hi h rfl
  · rw [upd_other _ _ hk]
    unfold part
    by_cases h1 : ∃ j, j < i ∧ (at60 S j).f0 = 1 ∧ (at60 S j).f1 = k
    · rw [if_pos h1, if_pos (by obtain ⟨j, a, b⟩ := h1; exact ⟨j, by omega, b⟩)]
    · rw [if_neg h1, if_neg]
      rintro ⟨j, a, b⟩
      by_cases hji : j = i
      · exact hk (by rw [← b.2, hji])
      · exact h1 ⟨j, by omega, b⟩
/-- How many of the first places are taken. -/
def cnt (S : List S72) (i : Nat) : Nat := (S.take i).countP (fun x => x.f0 == 1)
theorem cnt_zero (S : List S72) : cnt S 0 = 0 := rfl
theorem cnt_all (S : List S72) : cnt S S.length = S.countP (fun x => x.f0 == 1) := by unfold cnt; rw [List.take_length]
theorem cnt_step (S : List S72) (i : Nat) (hi : i < S.length) : cnt S (i + 1) = cnt S i + if (at60 S i).f0 = 1 then 1 else 0 := by
  unfold cnt; rw [List.take_add_one, List.getElem?_eq_getElem hi, List.countP_append, ← at60_eq S i hi]
  congr 1
  by_cases h : (at60 S i).f0 = 1
  (rw [if_pos h]; simp [h]); (rw [if_neg h]; simp [h])
theorem cnt_le (S : List S72) (i : Nat) : cnt S i ≤ S.countP (fun x => x.f0 == 1) := by
  unfold cnt
  conv => rhs; rw [← List.take_append_drop i S, List.countP_append]
  omega
end Go.Proofs.Ytelacebdmmanhaa.G
namespace Go.Proofs.Ytelacebdmmanhaa.G
open Go.RowKit Go.Proofs.YtelacebdmmanhaaW.PrintWords Go.Proofs.YtelacebdmmanhaaW.PrintLast Go.Proofs.YtelacebdmmanhaaW.PrintMore
set_option linter.unusedVariables false
set_option linter.unusedSimpArgs false
/-- All blocks but two are kept. -/
structure Kp (W w : World) (p g : Nat) : Prop where
  os : w.os = W.os
  tape : w.tape = W.tape
  output : w.output = W.output
  size : W.heap.size ≤ w.heap.size
  block : ∀ b, b < W.heap.size → b ≠ p → b ≠ g → w.heap[b]? = W.heap[b]?
theorem Kp.of {W w : World} (h : Below W.heap.size W w) (p g : Nat) : Kp W w p g := ⟨h.os, h.tape, h.output, h.size, fun b hb _ _ => h.block b hb⟩
theorem Kp.below {W w : World} {p g base : Nat} (h : Kp W w p g) (hp : base ≤ p) (hg : base ≤ g) (hs : base ≤ W.heap.size) : Below base W w := ⟨h.os, h.tape, h.output, h.size, fun b hb => h.block b (by omega) (by omega) (by omega)⟩
theorem Kp.trans {W w v : World} {p g g' : Nat} (h : Kp W w p g) (hg : g' = g ∨ W.heap.size ≤ g') (h2 : Kp w v p g') : Kp W v p g :=
  ⟨h2.os.trans h.os, h2.tape.trans h.tape, h2.output.trans h.output, Nat.le_trans h.size h2.size, fun b hb h3 h4 => (h2.block b (Nat.lt_of_lt_of_le hb h.size) h3 (by rcases hg with e | e <;> omega)).trans (h.block b hb h3 h4)⟩
theorem Kp.set {W : World} {p g : Nat} (a : Addr) (v : Value) (ha : a.block = p ∨ a.block = g) : Kp W (W.setCell a v) p g := by
  have h := (Below.refl a.block W).setCell (Nat.le_refl _) v; exact ⟨h.os, h.tape, h.output, h.size, fun b hb h1 h2 => Below.heap_setCell W a v b (by rcases ha with e | e <;> omega)⟩
/-- A table in memory that holds a map. -/
structure TB (W : World) (base p g : Nat) (S : List S72) (n used : Nat) (D : S37 → Option Int) : Prop where
  tw : TW W base p g S (n : Int) (used : Int)
  ok : OK S n used D
  le : 4 * used ≤ 3 * S.length
theorem TB.below {W W' : World} {base p g : Nat} {S : List S72} {n used : Nat} {D : S37 → Option Int} (h : TB W base p g S n used D) (hb : Below W.heap.size W W') : TB W' base p g S n used D := ⟨h.tw.below hb, h.ok, h.le⟩
set_option maxHeartbeats 4000000 in
set_option maxRecDepth 100000 in
theorem grow_no (W : World) (base p g : Nat) (S : List S72) (n used : Nat) (D : S37 → Option Int) (h : TB W base p g S n used D) (hn : 4 * (used + 1) ≤ 3 * S.length) :
    Calls Try.prog 37 #[.pointer (some ⟨p, 0, none⟩)] W fun e w' => e = .returned (.tuple #[]) ∧ Below W.heap.size W w' := by
  have HT := Aside0.mk h; have hp0 : W.cell? ⟨p, 0, none⟩ = some (.slice (some ⟨g, 0, none⟩) S.length S.length) := (zC h.tw.bp 0).trans rfl; have hp2 : W.cell? ⟨p, 2, none⟩ = some (.int .i64 (used : Int)) := (zC h.tw.bp 2).trans rfl; have hL := h.ok.len.2
  have w1 : wrap64 ((used : Int) + 1) = (used : Int) + 1 := by unfold wrap64; omega
  have w2 : wrap64 (4 * ((used : Int) + 1)) = 4 * ((used : Int) + 1) := by unfold wrap64; omega
  have w3 : wrap64 (3 * (S.length : Int)) = 3 * (S.length : Int) := by unfold wrap64; omega
  have hd : decide (4 * ((used : Int) + 1) ≤ 3 * (S.length : Int)) = true := decide_eq_true (by omega); clear h hn hL
  go_enter Try.func37, Try.ntmps37
  go_upto_region 0 with (fail)
  refine start_ (n := 13) (S := (fun w' => w'.cell? ⟨p, 0, none⟩ = some (.slice (some ⟨g, 0, none⟩) S.length S.length) ∧ w'.cell? ⟨p, 2, none⟩ = some (.int .i64 (used : Int)))) (ds := []) #[false, false, false, false, false, false, false, false, false, false, false, false, false] (by kernel_rfl) rfl rfl ?_ ?_; (exact ⟨hp0, hp2⟩); intro hHeld; refine pure_ (i := 0) (N := some 6) (v := ?_) (a' := ?_) #[true, false, false, false, false, false, false, false, false, false, false, false, false] rfl rfl (by kernel_rfl) (fun _ _ _ h => h) (Or.inl ⟨by rfl, ?_⟩) ?_ ?_; rotate_left; (intro w'; go_simp; (with_reducible rfl)); rotate_left; (simp only [Act.put, List.setIfInBounds_toArray, List.set_cons_zero, List.set_cons_succ, i64_w, i32_w]; rfl); refine pure_ (i := 1) (N := some 7) (v := ?_) (a' := ?_) #[true, true, false, false, false, false, false, false, false, false, false, false, false] rfl rfl (by kernel_rfl) (fun _ _ _ h => h) (Or.inl ⟨by rfl, ?_⟩) ?_ ?_; rotate_left; (intro w'; go_simp; (with_reducible rfl)); rotate_left; (simp only [Act.put, List.setIfInBounds_toArray, List.set_cons_zero, List.set_cons_succ, i64_w, i32_w]; rfl); refine pure_ (i := 2) (N := some 8) (v := ?_) (a' := ?_) #[true, true, true, false, false, false, false, false, false, false, false, false, false] rfl rfl (by kernel_rfl) (fun _ _ _ h => h) (Or.inl ⟨by rfl, ?_⟩) ?_ ?_; rotate_left; (intro w'; go_simp; (with_reducible rfl)); rotate_left; (simp only [Act.put, List.setIfInBounds_toArray, List.set_cons_zero, List.set_cons_succ, i64_w, i32_w]; rfl); refine pure_ (i := 6) (N := some 12) (v := ?_) (a' := ?_) #[true, true, true, false, false, false, true, false, false, false, false, false, false] rfl rfl (by kernel_rfl) (fun _ _ _ h => h) (Or.inl ⟨by rfl, ?_⟩) ?_ ?_; rotate_left; (intro w'; go_simp; (with_reducible rfl)); rotate_left; (simp only [Act.put, List.setIfInBounds_toArray, List.set_cons_zero, List.set_cons_succ, i64_w, i32_w]; rfl); refine pure_ (i := 7) (N := some 13) (v := ?_) (a' := ?_) #[true, true, true, false, false, false, true, true, false, false, false, false, false] rfl rfl (by kernel_rfl) (fun _ _ _ h => h) (Or.inl ⟨by rfl, ?_⟩) ?_ ?_; rotate_left; (intro w'; go_simp; (with_reducible rfl)); rotate_left; (simp only [Act.put, List.setIfInBounds_toArray, List.set_cons_zero, List.set_cons_succ, i64_w, i32_w]; rfl); refine pure_ (i := 8) (N := some 14) (v := ?_) (a' := ?_) #[true, true, true, false, false, false, true, true, true, false, false, false, false] rfl rfl (by kernel_rfl) (fun _ _ _ h => h) (Or.inl ⟨by rfl, ?_⟩) ?_ ?_; rotate_left; (intro w'; go_simp; (with_reducible rfl)); rotate_left; (simp only [Act.put, List.setIfInBounds_toArray, List.set_cons_zero, List.set_cons_succ, i64_w, i32_w]; rfl); refine take_ (i := 3) (N := some 9) (v := ?_) (a' := ?_) #[true, true, true, true, false, false, true, true, true, false, false, false, false] rfl rfl (by kernel_rfl) (fun _ _ _ h => h) (Or.inl ⟨by rfl, ?_⟩) hHeld ?_ ?_; rotate_left; (rintro w' ⟨s0, s1⟩; go_simp; (with_reducible rfl)); rotate_left; (simp only [Act.put, List.setIfInBounds_toArray, List.set_cons_zero, List.set_cons_succ, i64_w, i32_w]; rfl); refine pure_ (i := 4) (N := some 10) (v := ?_) (a' := ?_) #[true, true, true, true, true, false, true, true, true, false, false, false, false] rfl rfl (by kernel_rfl) (fun _ _ _ h => h) (Or.inl ⟨by rfl, ?_⟩) ?_ ?_; rotate_left; (intro w'; go_simp; (with_reducible rfl)); rotate_left; (simp only [Act.put, List.setIfInBounds_toArray, List.set_cons_zero, List.set_cons_succ, i64_w, i32_w]; rfl); refine pure_ (i := 5) (N := some 11) (v := ?_) (a' := ?_) #[true, true, true, true, true, true, true, true, true, false, false, false, false] rfl rfl (by kernel_rfl) (fun _ _ _ h => h) (Or.inl ⟨by rfl, ?_⟩) ?_ ?_; rotate_left; (intro w'; go_simp; (with_reducible rfl)); rotate_left; (simp only [Act.put, List.setIfInBounds_toArray, List.set_cons_zero, List.set_cons_succ, i64_w, i32_w]; rfl); refine take_ (i := 9) (N := some 15) (v := ?_) (a' := ?_) #[true, true, true, true, true, true, true, true, true, true, false, false, false] rfl rfl (by kernel_rfl) (fun _ _ _ h => h) (Or.inl ⟨by rfl, ?_⟩) hHeld ?_ ?_; rotate_left; (rintro w' ⟨s0, s1⟩; go_simp; (with_reducible rfl)); rotate_left; (simp only [Act.put, List.setIfInBounds_toArray, List.set_cons_zero, List.set_cons_succ, i64_w, i32_w]; rfl); refine pure_ (i := 10) (N := some 16) (v := ?_) (a' := ?_) #[true, true, true, true, true, true, true, true, true, true, true, false, false] rfl rfl (by kernel_rfl) (fun _ _ _ h => h) (Or.inl ⟨by rfl, ?_⟩) ?_ ?_; rotate_left; (intro w'; go_simp; (with_reducible rfl)); rotate_left; (simp only [Act.put, List.setIfInBounds_toArray, List.set_cons_zero, List.set_cons_succ, i64_w, i32_w]; rfl); refine pure_ (i := 11) (N := some 17) (v := ?_) (a' := ?_) #[true, true, true, true, true, true, true, true, true, true, true, true, false] rfl rfl (by kernel_rfl) (fun _ _ _ h => h) (Or.inl ⟨by rfl, ?_⟩) ?_ ?_; rotate_left; (intro w'; go_simp; (with_reducible rfl)); rotate_left; (simp only [Act.put, List.setIfInBounds_toArray, List.set_cons_zero, List.set_cons_succ, i64_w, i32_w]; rfl); refine pure_ (i := 12) (N := some 18) (v := ?_) (a' := ?_) #[true, true, true, true, true, true, true, true, true, true, true, true, true] rfl rfl (by kernel_rfl) (fun _ _ _ h => h) (Or.inl ⟨by rfl, ?_⟩) ?_ ?_; rotate_left; (intro w'; go_simp; (with_reducible rfl)); rotate_left; (simp only [Act.put, List.setIfInBounds_toArray, List.set_cons_zero, List.set_cons_succ, i64_w, i32_w]; rfl); refine done_ (by kernel_rfl) ?_
  go_wp2_with fail
  refine bodyPost_ret (results_none rfl _ _ _) rfl ?_; exact ⟨rfl, (Below.refl _ W).drew⟩
theorem TB.ne {W : World} {base p g : Nat} {S : List S72} {n used : Nat} {D : S37 → Option Int} (h : TB W base p g S n used D) : p ≠ g := by
  intro e; have a := h.tw.bp; have b := h.tw.bg; rw [e] at a; rw [a] at b; simp at b
theorem OK.place2 {S : List S72} {live used : Nat} {D : S37 → Option Int} (ok : OK S live used D) (hf : 4 * used ≤ 3 * S.length) (k : S37) :
    ∃ (f j : Nat) (b : Bool), plc S k f (hashN k % S.length) (-1) = some ((j : Int), b) ∧ j < S.length ∧
      ((b = true ∧ (at60 S j).f0 = 1 ∧ (at60 S j).f1 = k) ∨
       (b = false ∧ (at60 S j).f0 ≠ 1 ∧ (∀ i, i < S.length → (at60 S i).f0 = 1 → (at60 S i).f1 ≠ k) ∧ ∃ t, j = (hashN k + t) % S.length ∧ ∀ u, u < t → ¬ (at60 S ((hashN k + u) % S.length)).f0 = 0)) := by
  have hL := ok.len.1; obtain ⟨f, r, h1, ⟨j, hj, rfl, h2⟩ | ⟨j, hj, rfl, h2⟩⟩ := ok.place (by omega) k; (exact ⟨f, j, true, h1, hj, Or.inl ⟨rfl, h2⟩⟩); (exact ⟨f, j, false, h1, hj, Or.inr ⟨rfl, h2⟩⟩)
theorem fs_set (x : S72) : ∀ (S : List S72) (j : Nat), j < S.length → ((((((fs S).set (j * 5) (.int .i64 x.f0)).set (j * 5 + 1) (.string x.f1.f0)).set (j * 5 + 2) (.string x.f1.f1)).set (j * 5 + 3) (.int .i64 x.f1.f2)).set (j * 5 + 4) (.int .i64 x.f2)) = fs (S.set j x) := by
  intro S
  induction S with
  | nil => intro j h; exact absurd h (Nat.not_lt_zero _)
  | cons y S ih =>
    intro j h
    cases j with
    | zero => rfl
    | succ j =>
      have h' : j < S.length := by simpa using h
      rw [List.set_cons_succ, fs, fs, ← ih j h', show (j + 1) * 5 = j * 5 + 5 by omega]; rfl
theorem TW.slot {W : World} {base p g : Nat} {S : List S72} {live used : Int} (h : TW W base p g S live used) (hpg : p ≠ g) (j : Nat) (hj : j < S.length) (x : S72) :
    TW (((((W.setCell ⟨g, j * 5, none⟩ (.int .i64 x.f0)).setCell ⟨g, j * 5 + 1, none⟩ (.string x.f1.f0)).setCell ⟨g, j * 5 + 2, none⟩ (.string x.f1.f1)).setCell ⟨g, j * 5 + 3, none⟩ (.int .i64 x.f1.f2)).setCell ⟨g, j * 5 + 4, none⟩ (.int .i64 x.f2)) base p g (S.set j x) live used := by
  have e := zP (zP (zP (zP (zP h.bg (j * 5) (.int .i64 x.f0) rfl) (j * 5 + 1) (.string x.f1.f0) rfl) (j * 5 + 2) (.string x.f1.f1) rfl) (j * 5 + 3) (.int .i64 x.f1.f2) rfl) (j * 5 + 4) (.int .i64 x.f2) rfl; refine ⟨?_, ?_, h.hp, h.hg⟩; (rw [List.length_set]; exact zG (zG (zG (zG (zG h.bp (p := ⟨g, j * 5, none⟩) hpg _) (p := ⟨g, j * 5 + 1, none⟩) hpg _) (p := ⟨g, j * 5 + 2, none⟩) hpg _) (p := ⟨g, j * 5 + 3, none⟩) hpg _) (p := ⟨g, j * 5 + 4, none⟩) hpg _); (rw [e]; simp only [List.setIfInBounds_toArray]; rw [fs_set x S j hj])
theorem Kp.slot {W V : World} {p g g' : Nat} (h : Kp W V p g) (hg : g' = g ∨ W.heap.size ≤ g') (a b c d e : Nat) (v1 v2 v3 v4 v5 : Value) :
    Kp W (((((V.setCell ⟨g', a, none⟩ v1).setCell ⟨g', b, none⟩ v2).setCell ⟨g', c, none⟩ v3).setCell ⟨g', d, none⟩ v4).setCell ⟨g', e, none⟩ v5) p g :=
  ((((h.trans hg (Kp.set _ _ (Or.inr rfl))).trans hg (Kp.set _ _ (Or.inr rfl))).trans hg (Kp.set _ _ (Or.inr rfl))).trans hg (Kp.set _ _ (Or.inr rfl))).trans hg (Kp.set _ _ (Or.inr rfl))
theorem TW.used {W : World} {base p g : Nat} {S : List S72} {live used : Int} (h : TW W base p g S live used) (hpg : p ≠ g) (u : Int) : TW (W.setCell ⟨p, 2, none⟩ (.int .i64 u)) base p g S live u :=
  ⟨zP h.bp 2 _ rfl, zG h.bg (p := ⟨p, 2, none⟩) (Ne.symm hpg) _, h.hp, h.hg⟩
theorem TW.live {W : World} {base p g : Nat} {S : List S72} {live used : Int} (h : TW W base p g S live used) (hpg : p ≠ g) (u : Int) : TW (W.setCell ⟨p, 1, none⟩ (.int .i64 u)) base p g S u used :=
  ⟨zP h.bp 1 _ rfl, zG h.bg (p := ⟨p, 1, none⟩) (Ne.symm hpg) _, h.hp, h.hg⟩
theorem box_kept {W w1 w2 : World} {gb p g : Nat} {o : Obj} (h : w1.heap[gb]? = some o) (hgb : gb = W.heap.size) (hl : p < W.heap.size ∧ g < W.heap.size) (hk : Kp w1 w2 p g) : w2.heap[gb]? = some o :=
  (hk.block gb (blk_lt h) (by omega) (by omega)).trans h
/-- What growing leaves. -/
def Grown (W w : World) (base p g n : Nat) (D : S37 → Option Int) (P : Nat → Nat → Prop) : Prop := Kp W w p g ∧ ∃ g' S' used', (g' = g ∨ W.heap.size ≤ g') ∧ TB w base p g' S' n used' D ∧ 4 * (used' + 1) ≤ 3 * S'.length ∧ P S'.length used'
/-- What putting leaves. -/
def Put (W w : World) (base p g n : Nat) (D : S37 → Option Int) (P : Nat → Nat → Prop) : Prop := Kp W w p g ∧ ∃ g' S' used', (g' = g ∨ W.heap.size ≤ g') ∧ TB w base p g' S' n used' D ∧ ∃ u, P S'.length u ∧ used' ≤ u + 1
set_option maxHeartbeats 4000000 in
set_option maxRecDepth 100000 in
theorem put_walk (W : World) (base p g : Nat) (n : Nat) (D : S37 → Option Int) (k : S37) (v : Int) (hk : Fit k) (hnb : n ≤ 1073741824) (P : Nat → Nat → Prop)
    (HT0 : ∃ S used, TB W base p g S n used D)
    (Hg : ∀ W1, Below W.heap.size W W1 → Calls Try.prog 37 #[.pointer (some ⟨p, 0, none⟩)] W1 fun e w' => e = .returned (.tuple #[]) ∧ Grown W1 w' base p g n D P) :
    Calls Try.prog 31 #[.pointer (some ⟨p, 0, none⟩), .agg #[.string k.f0, .string k.f1, .int .i64 k.f2], .int .i64 v] W fun e w' => (D k ≠ none ∧ e = .returned (.bool false) ∧ Put W w' base p g n D P) ∨ (D k = none ∧ e = .returned (.bool true) ∧ Put W w' base p g (n + 1) (upd D k (some v)) P) := by
  have HK := Aside0.mk hk; have HN := Aside0.mk hnb; have HG := Aside0.mk Hg; have hlt : Aside0 (p < W.heap.size ∧ g < W.heap.size) := ⟨by obtain ⟨S, used, h⟩ := HT0; exact ⟨blk_lt h.tw.bp, blk_lt h.tw.bg⟩⟩; clear hk hnb Hg HT0
  go_enter Try.func31, Try.ntmps31
  go_upto_region 3 with (first | ((with_reducible refine zgd (N := 4) rfl ?_); refine zb ?hg (N := 4) ?hd (cs := #[.string k.f0, .string k.f1, .int .i64 k.f2]) (t := 37) ?hr ?_; (case hd => rfl); (case hg => rfl); (case hr => first | (go_simp; done) | (go_simp; rfl)); intro gb hg w1 hbox hb; have G1 := Aside0.mk hg; have X1 := Aside0.mk hbox; have B1 := Aside0.mk hb; clear hbox hb hg) | (go_at_call 37; refine (HG.out w1 B1.out).mono ?_; rintro e w2 ⟨rfl, hgr⟩; obtain ⟨hk2, g', S', used', hgg, hT2, hle, hP⟩ := hgr; have PP := Aside0.mk hP; obtain ⟨f, j, b, hplc, hjl, hcase⟩ := hT2.ok.place2 hT2.le k; have K2 := Aside0.mk hk2; have GG := Aside0.mk hgg; have T2 := Aside0.mk hT2; have LE := Aside0.mk hle; have PL := Aside0.mk hplc; have JL := Aside0.mk hjl; have CA := Aside0.mk hcase; have X2 := Aside0.mk (box_kept X1.out G1.out hlt.out hk2); clear hgg hT2 hle hplc hjl hcase hk2 hP; have c0 : w2.cell? ⟨gb, 0, none⟩ = some (.string k.f0) := (zC X2.out 0).trans rfl; have c1 : w2.cell? ⟨gb, 1, none⟩ = some (.string k.f1) := (zC X2.out 1).trans rfl; have c2 : w2.cell? ⟨gb, 2, none⟩ = some (.int .i64 k.f2) := (zC X2.out 2).trans rfl) | (go_at_call 38; refine (place f w2 base p g' S' n used' k _ _ T2.out.tw T2.out.ok.pw.choose_spec.1 T2.out.ok.pw.choose_spec.2 PL.out HK.out.1 HK.out.2).mono ?_; rintro e w3 ⟨rfl, hb3⟩; have B3 := Aside0.mk hb3; clear hb3))
  have T3 := Aside0.mk (T2.out.below B3.out); have X3 := Aside0.mk (blk_below X2.out B3.out); have KP := Aside0.mk (show Kp W w3 p g from ((Kp.of B1.out p g).trans (Or.inl rfl) K2.out).trans (by have := GG.out; have := B1.out.size; rcases GG.out with e | e <;> omega) (Kp.of B3.out p g')); have GF := Aside0.mk (show g' = g ∨ W.heap.size ≤ g' from by have := B1.out.size; rcases GG.out with e | e <;> omega)
  have GB := Aside0.mk (show gb ≠ p ∧ gb ≠ g' from by
    have h1 := G1.out; have h2 := hlt.out; have h3 := X3.out; refine ⟨by omega, fun e => ?_⟩; have h4 := T3.out.tw.bg; rw [← e, h3] at h4
    simp at h4)
  clear c0 c1 c2 T2 X2 X1 B1 B3 K2 GG HG G1
  rcases CA.out with ⟨rfl, q1, q2⟩ | ⟨rfl, q1, q2, q3⟩
  · have Q := Aside0.mk (T3.out.ok.some_of JL.out q1 q2)
    clear q1 q2 CA
    go_wp2_with fail
    refine bodyPost_ret (results_tmp rfl _ _ _) rfl ?_
    exact Or.inl ⟨(by rw [Q.out]; intro h; cases h), rfl, KP.out, g', S', used', GF.out, T3.out, used', PP.out, by omega⟩
  · have hp0 : w3.cell? ⟨p, 0, none⟩ = some (.slice (some ⟨g', 0, none⟩) S'.length S'.length) := (zC T3.out.tw.bp 0).trans rfl
    have hp1 : w3.cell? ⟨p, 1, none⟩ = some (.int .i64 (n : Int)) := (zC T3.out.tw.bp 1).trans rfl
    have hp2 : w3.cell? ⟨p, 2, none⟩ = some (.int .i64 (used' : Int)) := (zC T3.out.tw.bp 2).trans rfl
    have fz := zR T3.out.tw.bp 2
    have fz1 := zR T3.out.tw.bp 1
    obtain ⟨s0, hs0⟩ : ∃ s0, (at60 S' j).f0 = s0 := ⟨_, rfl⟩
    have t0 : w3.cell? ⟨g', j * 5, none⟩ = some (.int .i64 s0) := hs0 ▸ T3.out.tw.cell j JL.out 0 (by omega)
    have c0 : w3.cell? ⟨gb, 0, none⟩ = some (.string k.f0) := (zC X3.out 0).trans rfl
    have c1 : w3.cell? ⟨gb, 1, none⟩ = some (.string k.f1) := (zC X3.out 1).trans rfl
    have c2 : w3.cell? ⟨gb, 2, none⟩ = some (.int .i64 k.f2) := (zC X3.out 2).trans rfl
    have hjb : (0 : Int) ≤ (j : Int) ∧ (j : Int) < (S'.length : Int) := by have := JL.out; omega
    have Q1 := Aside0.mk q1
    have Q2 := Aside0.mk q2
    have Q3 := Aside0.mk q3
    have HS0 := Aside0.mk hs0
    clear q1 q2 q3 CA hs0
    by_cases h0 : s0 = 0
    · have h0b : (s0 == 0) = true := by simp [h0]
      have U4 := Aside0.mk (show (if (at60 S' j).f0 = 0 then used' + 1 else used') = used' + 1 from by rw [HS0.out, if_pos h0])
      clear h0
      go_upto_region 7 with (fail)
      obtain ⟨w4, hw4⟩ : ∃ w4, w3.setCell ⟨p, 2, none⟩ (.int .i64 (wrap64 ((used' : Int) + 1))) = w4 := ⟨_, rfl⟩
      rw [hw4]
      have hwu : wrap64 ((used' : Int) + 1) = ((used' + 1 : Nat) : Int) := by have := LE.out; have := T3.out.ok.len.2; unfold wrap64; omega
      rw [hwu] at hw4
      obtain ⟨u4, hu4⟩ : ∃ u4, used' + 1 = u4 := ⟨_, rfl⟩
      have U4 := Aside0.mk (show (if (at60 S' j).f0 = 0 then used' + 1 else used') = u4 from U4.out.trans hu4)
      rw [hu4] at hw4
      have HU := Aside0.mk (show u4 ≤ used' + 1 from by omega)
      have T4 := Aside0.mk (show TW w4 base p g' S' (n : Int) (u4 : Int) from hw4 ▸ T3.out.tw.used T3.out.ne _)
      have X4 := Aside0.mk (show w4.heap[gb]? = some (.cells #[.string k.f0, .string k.f1, .int .i64 k.f2] 37 (0, 0)) from by
        rw [← hw4]; refine zG (p := ⟨p, 2, none⟩) X3.out ?_ _; have := GB.out.1
        exact this)
      have KP4 := Aside0.mk (show Kp W w4 p g from hw4 ▸ KP.out.trans GF.out (Kp.set _ _ (Or.inl rfl)))
      clear hp0 hp1 hp2 t0 c0 c1 c2 fz fz1 hw4 X3 KP
      have hp0 : w4.cell? ⟨p, 0, none⟩ = some (.slice (some ⟨g', 0, none⟩) S'.length S'.length) := (zC T4.out.bp 0).trans rfl
      have c0 : w4.cell? ⟨gb, 0, none⟩ = some (.string k.f0) := (zC X4.out 0).trans rfl
      have c1 : w4.cell? ⟨gb, 1, none⟩ = some (.string k.f1) := (zC X4.out 1).trans rfl
      have c2 : w4.cell? ⟨gb, 2, none⟩ = some (.int .i64 k.f2) := (zC X4.out 2).trans rfl
      refine start_ (n := 10) (S := (fun w' => w'.cell? ⟨p, 0, none⟩ = some (.slice (some ⟨g', 0, none⟩) S'.length S'.length) ∧ w'.cell? ⟨gb, 0, none⟩ = some (.string k.f0) ∧ w'.cell? ⟨gb, 1, none⟩ = some (.string k.f1) ∧ w'.cell? ⟨gb, 2, none⟩ = some (.int .i64 k.f2))) (ds := [9]) #[false, false, false, false, false, false, false, false, false, false] (by kernel_rfl) rfl rfl ?_ ?_
      · exact ⟨hp0, c0, c1, c2⟩
      intro hHeld
      refine pure_ (i := 0) (N := some 34) (v := ?_) (a' := ?_) #[true, false, false, false, false, false, false, false, false, false] rfl rfl (by kernel_rfl) (fun _ _ _ h => h) (Or.inl ⟨by rfl, ?_⟩) ?_ ?_
      rotate_left
      · intro w'
        go_simp
        with_reducible rfl
      rotate_left
      · simp only [Act.put, List.setIfInBounds_toArray, List.set_cons_zero, List.set_cons_succ, i64_w, i32_w]
        rfl
      refine pure_ (i := 1) (N := some 35) (v := ?_) (a' := ?_) #[true, true, false, false, false, false, false, false, false, false] rfl rfl (by kernel_rfl) (fun _ _ _ h => h) (Or.inl ⟨by rfl, ?_⟩) ?_ ?_
      rotate_left
      · intro w'
        go_simp
        with_reducible rfl
      rotate_left
      · simp only [Act.put, List.setIfInBounds_toArray, List.set_cons_zero, List.set_cons_succ, i64_w, i32_w]
        rfl
      refine pure_ (i := 2) (N := some 36) (v := ?_) (a' := ?_) #[true, true, true, false, false, false, false, false, false, false] rfl rfl (by kernel_rfl) (fun _ _ _ h => h) (Or.inl ⟨by rfl, ?_⟩) ?_ ?_
      rotate_left
      · intro w'
        go_simp
        with_reducible rfl
      rotate_left
      · simp only [Act.put, List.setIfInBounds_toArray, List.set_cons_zero, List.set_cons_succ, i64_w, i32_w]
        rfl
      refine pure_ (i := 4) (N := some 38) (v := ?_) (a' := ?_) #[true, true, true, false, true, false, false, false, false, false] rfl rfl (by kernel_rfl) (fun _ _ _ h => h) (Or.inl ⟨by rfl, ?_⟩) ?_ ?_
      rotate_left
      · intro w'
        go_simp
        with_reducible rfl
      rotate_left
      · simp only [Act.put, List.setIfInBounds_toArray, List.set_cons_zero, List.set_cons_succ, i64_w, i32_w]
        rfl
      refine pure_ (i := 6) (N := some 40) (v := ?_) (a' := ?_) #[true, true, true, false, true, false, true, false, false, false] rfl rfl (by kernel_rfl) (fun _ _ _ h => h) (Or.inl ⟨by rfl, ?_⟩) ?_ ?_
      rotate_left
      · intro w'
        go_simp
        with_reducible rfl
      rotate_left
      · simp only [Act.put, List.setIfInBounds_toArray, List.set_cons_zero, List.set_cons_succ, i64_w, i32_w]
        rfl
      refine take_ (i := 3) (N := some 37) (v := ?_) (a' := ?_) #[true, true, true, true, true, false, true, false, false, false] rfl rfl (by kernel_rfl) (fun _ _ _ h => h) (Or.inl ⟨by rfl, ?_⟩) hHeld ?_ ?_
      rotate_left
      · rintro w' ⟨s0, s1, s2, s3⟩
        go_simp
        with_reducible rfl
      rotate_left
      · simp only [Act.put, List.setIfInBounds_toArray, List.set_cons_zero, List.set_cons_succ, i64_w, i32_w]
        rfl
      refine take_ (i := 5) (N := some 39) (v := ?_) (a' := ?_) #[true, true, true, true, true, true, true, false, false, false] rfl rfl (by kernel_rfl) (fun _ _ _ h => h) (Or.inl ⟨by rfl, ?_⟩) hHeld ?_ ?_
      rotate_left
      · rintro w' ⟨s0, s1, s2, s3⟩
        go_simp
        with_reducible rfl
      rotate_left
      · simp only [Act.put, List.setIfInBounds_toArray, List.set_cons_zero, List.set_cons_succ, i64_w, i32_w]
        rfl
      refine pure_ (i := 7) (N := some 41) (v := ?_) (a' := ?_) #[true, true, true, true, true, true, true, true, false, false] rfl rfl (by kernel_rfl) (fun _ _ _ h => h) (Or.inl ⟨by rfl, ?_⟩) ?_ ?_
      rotate_left
      · intro w'
        go_simp
        with_reducible rfl
      rotate_left
      · simp only [Act.put, List.setIfInBounds_toArray, List.set_cons_zero, List.set_cons_succ, i64_w, i32_w]
        rfl
      refine pure_ (i := 8) (N := some 42) (v := ?_) (a' := ?_) #[true, true, true, true, true, true, true, true, true, false] rfl rfl (by kernel_rfl) (fun _ _ _ h => h) (Or.inl ⟨by rfl, ?_⟩) ?_ ?_
      rotate_left
      · intro w'
        go_simp
        with_reducible rfl
      rotate_left
      · simp only [Act.put, List.setIfInBounds_toArray, List.set_cons_zero, List.set_cons_succ, i64_w, i32_w]
        rfl
      refine last_ (i := 9) (N := none) #[true, true, true, true, true, true, true, true, true, true] rfl rfl (by kernel_rfl) (by decide) (fun K hK => ?_)
      obtain ⟨W5, hW5⟩ : ∃ W5, w4.drew = W5 := ⟨_, rfl⟩
      rw [hW5]
      have T5 := Aside0.mk (show TW W5 base p g' S' (n : Int) (u4 : Int) from hW5 ▸ T4.out.below ((Below.refl _ w4).drew))
      have KP5 := Aside0.mk (show Kp W W5 p g from hW5 ▸ KP4.out.trans GF.out (Kp.of (Below.refl _ w4).drew p g'))
      have z0 := zR T5.out.bg (j * 5)
      have z1 := zR T5.out.bg (j * 5 + 1)
      have z2 := zR T5.out.bg (j * 5 + 2)
      have z3 := zR T5.out.bg (j * 5 + 3)
      have z4 := zR T5.out.bg (j * 5 + 4)
      have y0 : W5.cell? ⟨g', j * 5, none⟩ = some (.int .i64 (at60 S' j).f0) := T5.out.cell j JL.out 0 (by omega)
      have y1 : W5.cell? ⟨g', j * 5 + 1, none⟩ = some (.string (at60 S' j).f1.f0) := T5.out.cell j JL.out 1 (by omega)
      have y2 : W5.cell? ⟨g', j * 5 + 2, none⟩ = some (.string (at60 S' j).f1.f1) := T5.out.cell j JL.out 2 (by omega)
      have y3 : W5.cell? ⟨g', j * 5 + 3, none⟩ = some (.int .i64 (at60 S' j).f1.f2) := T5.out.cell j JL.out 3 (by omega)
      have y4 : W5.cell? ⟨g', j * 5 + 4, none⟩ = some (.int .i64 (at60 S' j).f2) := T5.out.cell j JL.out 4 (by omega)
      refine skip_ (w1 := ?_) (by rfl) rfl ?_ ?_
      rotate_left
      · go_simp
        rfl
      refine hK.out _ _ ?_
      clear hK K
      refine done_ (by kernel_rfl) ?_
      obtain ⟨W6, hW6⟩ : ∃ W6, ((((W5.setCell ⟨g', j * 5, none⟩ (.int .i64 1)).setCell ⟨g', j * 5 + 1, none⟩ (.string k.f0)).setCell ⟨g', j * 5 + 2, none⟩ (.string k.f1)).setCell ⟨g', j * 5 + 3, none⟩ (.int .i64 k.f2)).setCell ⟨g', j * 5 + 4, none⟩ (.int .i64 v) = W6 := ⟨_, rfl⟩
      rw [hW6]
      have T6 := Aside0.mk (show TW W6 base p g' (S'.set j ⟨1, k, v⟩) (n : Int) (u4 : Int) from hW6 ▸ T5.out.slot T3.out.ne j JL.out ⟨1, k, v⟩)
      have KP6 := Aside0.mk (show Kp W W6 p g from hW6 ▸ KP5.out.slot GF.out _ _ _ _ _ _ _ _ _ _)
      have hp1 : W6.cell? ⟨p, 1, none⟩ = some (.int .i64 (n : Int)) := (zC T6.out.bp 1).trans rfl
      have fz1 := zR T6.out.bp 1
      clear hW6 z0 z1 z2 z3 z4 y0 y1 y2 y3 y4 hp0 c0 c1 c2 hHeld hW5
      go_wp2_with fail
      refine bodyPost_ret (results_tmp rfl _ _ _) rfl ?_
      have hwn : wrap64 ((n : Int) + 1) = ((n + 1 : Nat) : Int) := by have := HN.out; unfold wrap64; omega
      rw [hwn]
      have K7 := KP6.out.trans GF.out (Kp.set (W := W6) (p := p) (g := g') ⟨p, 1, none⟩ (.int .i64 ((n + 1 : Nat) : Int)) (Or.inl rfl))
      have T7 := T6.out.live T3.out.ne ((n + 1 : Nat) : Int)
      have O7 := T3.out.ok.put v JL.out Q1.out Q2.out Q3.out HK.out
      rw [U4.out] at O7
      exact Or.inr ⟨T3.out.ok.none_of Q2.out, rfl, K7, g', _, u4, GF.out, ⟨T7, O7, by rw [List.length_set]; have := LE.out; have := HU.out; omega⟩, used', by rw [List.length_set]; exact PP.out, HU.out⟩
    · have h0b : (s0 == 0) = false := by simp [h0]
      have U4 := Aside0.mk (show (if (at60 S' j).f0 = 0 then used' + 1 else used') = used' from by rw [HS0.out, if_neg h0])
      clear h0
      go_upto_region 7 with (fail)
      obtain ⟨w4, hw4⟩ : ∃ w4, w3 = w4 := ⟨_, rfl⟩
      obtain ⟨u4, hu4⟩ : ∃ u4, used' = u4 := ⟨_, rfl⟩
      have HU := Aside0.mk (show u4 ≤ used' + 1 from by omega)
      have U4 := Aside0.mk (show (if (at60 S' j).f0 = 0 then used' + 1 else used') = u4 from U4.out.trans hu4)
      have T4 := Aside0.mk (show TW w4 base p g' S' (n : Int) (u4 : Int) from by rw [← hw4, ← hu4]; exact T3.out.tw)
      have X4 := Aside0.mk (hw4 ▸ X3.out)
      have KP4 := Aside0.mk (hw4 ▸ KP.out)
      rw [hw4]
      clear hp0 hp1 hp2 t0 c0 c1 c2 fz fz1 hw4 hu4 X3 KP
      have hp0 : w4.cell? ⟨p, 0, none⟩ = some (.slice (some ⟨g', 0, none⟩) S'.length S'.length) := (zC T4.out.bp 0).trans rfl
      have c0 : w4.cell? ⟨gb, 0, none⟩ = some (.string k.f0) := (zC X4.out 0).trans rfl
      have c1 : w4.cell? ⟨gb, 1, none⟩ = some (.string k.f1) := (zC X4.out 1).trans rfl
      have c2 : w4.cell? ⟨gb, 2, none⟩ = some (.int .i64 k.f2) := (zC X4.out 2).trans rfl
      refine start_ (n := 10) (S := (fun w' => w'.cell? ⟨p, 0, none⟩ = some (.slice (some ⟨g', 0, none⟩) S'.length S'.length) ∧ w'.cell? ⟨gb, 0, none⟩ = some (.string k.f0) ∧ w'.cell? ⟨gb, 1, none⟩ = some (.string k.f1) ∧ w'.cell? ⟨gb, 2, none⟩ = some (.int .i64 k.f2))) (ds := [9]) #[false, false, false, false, false, false, false, false, false, false] (by kernel_rfl) rfl rfl ?_ ?_
      · exact ⟨hp0, c0, c1, c2⟩
      intro hHeld
      refine pure_ (i := 0) (N := some 34) (v := ?_) (a' := ?_) #[true, false, false, false, false, false, false, false, false, false] rfl rfl (by kernel_rfl) (fun _ _ _ h => h) (Or.inl ⟨by rfl, ?_⟩) ?_ ?_
      rotate_left
      · intro w'
        go_simp
        with_reducible rfl
      rotate_left
      · simp only [Act.put, List.setIfInBounds_toArray, List.set_cons_zero, List.set_cons_succ, i64_w, i32_w]
        rfl
      refine pure_ (i := 1) (N := some 35) (v := ?_) (a' := ?_) #[true, true, false, false, false, false, false, false, false, false] rfl rfl (by kernel_rfl) (fun _ _ _ h => h) (Or.inl ⟨by rfl, ?_⟩) ?_ ?_
      rotate_left
      · intro w'
        go_simp
        with_reducible rfl
      rotate_left
      · simp only [Act.put, List.setIfInBounds_toArray, List.set_cons_zero, List.set_cons_succ, i64_w, i32_w]
        rfl
      refine pure_ (i := 2) (N := some 36) (v := ?_) (a' := ?_) #[true, true, true, false, false, false, false, false, false, false] rfl rfl (by kernel_rfl) (fun _ _ _ h => h) (Or.inl ⟨by rfl, ?_⟩) ?_ ?_
      rotate_left
      · intro w'
        go_simp
        with_reducible rfl
      rotate_left
      · simp only [Act.put, List.setIfInBounds_toArray, List.set_cons_zero, List.set_cons_succ, i64_w, i32_w]
        rfl
      refine pure_ (i := 4) (N := some 38) (v := ?_) (a' := ?_) #[true, true, true, false, true, false, false, false, false, false] rfl rfl (by kernel_rfl) (fun _ _ _ h => h) (Or.inl ⟨by rfl, ?_⟩) ?_ ?_
      rotate_left
      · intro w'
        go_simp
        with_reducible rfl
      rotate_left
      · simp only [Act.put, List.setIfInBounds_toArray, List.set_cons_zero, List.set_cons_succ, i64_w, i32_w]
        rfl
      refine pure_ (i := 6) (N := some 40) (v := ?_) (a' := ?_) #[true, true, true, false, true, false, true, false, false, false] rfl rfl (by kernel_rfl) (fun _ _ _ h => h) (Or.inl ⟨by rfl, ?_⟩) ?_ ?_
      rotate_left
      · intro w'
        go_simp
        with_reducible rfl
      rotate_left
      · simp only [Act.put, List.setIfInBounds_toArray, List.set_cons_zero, List.set_cons_succ, i64_w, i32_w]
        rfl
      refine take_ (i := 3) (N := some 37) (v := ?_) (a' := ?_) #[true, true, true, true, true, false, true, false, false, false] rfl rfl (by kernel_rfl) (fun _ _ _ h => h) (Or.inl ⟨by rfl, ?_⟩) hHeld ?_ ?_
      rotate_left
      · rintro w' ⟨s0, s1, s2, s3⟩
        go_simp
        with_reducible rfl
      rotate_left
      · simp only [Act.put, List.setIfInBounds_toArray, List.set_cons_zero, List.set_cons_succ, i64_w, i32_w]
        rfl
      refine take_ (i := 5) (N := some 39) (v := ?_) (a' := ?_) #[true, true, true, true, true, true, true, false, false, false] rfl rfl (by kernel_rfl) (fun _ _ _ h => h) (Or.inl ⟨by rfl, ?_⟩) hHeld ?_ ?_
      rotate_left
      · rintro w' ⟨s0, s1, s2, s3⟩
        go_simp
        with_reducible rfl
      rotate_left
      · simp only [Act.put, List.setIfInBounds_toArray, List.set_cons_zero, List.set_cons_succ, i64_w, i32_w]
        rfl
      refine pure_ (i := 7) (N := some 41) (v := ?_) (a' := ?_) #[true, true, true, true, true, true, true, true, false, false] rfl rfl (by kernel_rfl) (fun _ _ _ h => h) (Or.inl ⟨by rfl, ?_⟩) ?_ ?_
      rotate_left
      · intro w'
        go_simp
        with_reducible rfl
      rotate_left
      · simp only [Act.put, List.setIfInBounds_toArray, List.set_cons_zero, List.set_cons_succ, i64_w, i32_w]
        rfl
      refine pure_ (i := 8) (N := some 42) (v := ?_) (a' := ?_) #[true, true, true, true, true, true, true, true, true, false] rfl rfl (by kernel_rfl) (fun _ _ _ h => h) (Or.inl ⟨by rfl, ?_⟩) ?_ ?_
      rotate_left
      · intro w'
        go_simp
        with_reducible rfl
      rotate_left
      · simp only [Act.put, List.setIfInBounds_toArray, List.set_cons_zero, List.set_cons_succ, i64_w, i32_w]
        rfl
      refine last_ (i := 9) (N := none) #[true, true, true, true, true, true, true, true, true, true] rfl rfl (by kernel_rfl) (by decide) (fun K hK => ?_)
      obtain ⟨W5, hW5⟩ : ∃ W5, w4.drew = W5 := ⟨_, rfl⟩
      rw [hW5]
      have T5 := Aside0.mk (show TW W5 base p g' S' (n : Int) (u4 : Int) from hW5 ▸ T4.out.below ((Below.refl _ w4).drew))
      have KP5 := Aside0.mk (show Kp W W5 p g from hW5 ▸ KP4.out.trans GF.out (Kp.of (Below.refl _ w4).drew p g'))
      have z0 := zR T5.out.bg (j * 5)
      have z1 := zR T5.out.bg (j * 5 + 1)
      have z2 := zR T5.out.bg (j * 5 + 2)
      have z3 := zR T5.out.bg (j * 5 + 3)
      have z4 := zR T5.out.bg (j * 5 + 4)
      have y0 : W5.cell? ⟨g', j * 5, none⟩ = some (.int .i64 (at60 S' j).f0) := T5.out.cell j JL.out 0 (by omega)
      have y1 : W5.cell? ⟨g', j * 5 + 1, none⟩ = some (.string (at60 S' j).f1.f0) := T5.out.cell j JL.out 1 (by omega)
      have y2 : W5.cell? ⟨g', j * 5 + 2, none⟩ = some (.string (at60 S' j).f1.f1) := T5.out.cell j JL.out 2 (by omega)
      have y3 : W5.cell? ⟨g', j * 5 + 3, none⟩ = some (.int .i64 (at60 S' j).f1.f2) := T5.out.cell j JL.out 3 (by omega)
      have y4 : W5.cell? ⟨g', j * 5 + 4, none⟩ = some (.int .i64 (at60 S' j).f2) := T5.out.cell j JL.out 4 (by omega)
      refine skip_ (w1 := ?_) (by rfl) rfl ?_ ?_
      rotate_left
      · go_simp
        rfl
      refine hK.out _ _ ?_
      clear hK K
      refine done_ (by kernel_rfl) ?_
      obtain ⟨W6, hW6⟩ : ∃ W6, ((((W5.setCell ⟨g', j * 5, none⟩ (.int .i64 1)).setCell ⟨g', j * 5 + 1, none⟩ (.string k.f0)).setCell ⟨g', j * 5 + 2, none⟩ (.string k.f1)).setCell ⟨g', j * 5 + 3, none⟩ (.int .i64 k.f2)).setCell ⟨g', j * 5 + 4, none⟩ (.int .i64 v) = W6 := ⟨_, rfl⟩
      rw [hW6]
      have T6 := Aside0.mk (show TW W6 base p g' (S'.set j ⟨1, k, v⟩) (n : Int) (u4 : Int) from hW6 ▸ T5.out.slot T3.out.ne j JL.out ⟨1, k, v⟩)
      have KP6 := Aside0.mk (show Kp W W6 p g from hW6 ▸ KP5.out.slot GF.out _ _ _ _ _ _ _ _ _ _)
      have hp1 : W6.cell? ⟨p, 1, none⟩ = some (.int .i64 (n : Int)) := (zC T6.out.bp 1).trans rfl
      have fz1 := zR T6.out.bp 1
      clear hW6 z0 z1 z2 z3 z4 y0 y1 y2 y3 y4 hp0 c0 c1 c2 hHeld hW5
      go_wp2_with fail
      refine bodyPost_ret (results_tmp rfl _ _ _) rfl ?_
      have hwn : wrap64 ((n : Int) + 1) = ((n + 1 : Nat) : Int) := by have := HN.out; unfold wrap64; omega
      rw [hwn]
      have K7 := KP6.out.trans GF.out (Kp.set (W := W6) (p := p) (g := g') ⟨p, 1, none⟩ (.int .i64 ((n + 1 : Nat) : Int)) (Or.inl rfl))
      have T7 := T6.out.live T3.out.ne ((n + 1 : Nat) : Int)
      have O7 := T3.out.ok.put v JL.out Q1.out Q2.out Q3.out HK.out
      rw [U4.out] at O7
      exact Or.inr ⟨T3.out.ok.none_of Q2.out, rfl, K7, g', _, u4, GF.out, ⟨T7, O7, by rw [List.length_set]; have := LE.out; have := HU.out; omega⟩, used', by rw [List.length_set]; exact PP.out, HU.out⟩
theorem made60 (m : Nat) : madeCells (Value.agg #[(.int .i64 0), (.string ⟨#[]⟩), (.string ⟨#[]⟩), (.int .i64 0), (.int .i64 0)]).cells (m * 5) = (fs (List.replicate m z72)).toArray := by
  apply Array.ext'; apply List.ext_getElem?; intro i
  by_cases hi : i < m * 5
  · have h1 : i / 5 < m := by omega
    have h2 : i = i / 5 * 5 + i % 5 := by omega
    have h3 : i % 5 < 5 := by omega
    have e := fs_at (List.replicate m z72) (i / 5) (by rw [List.length_replicate]; exact h1) (i % 5) h3
    rw [← h2, List.getElem_replicate] at e
    show _ = (fs (List.replicate m z72))[i]?
    rw [e]
    unfold madeCells
    rw [Array.getElem?_toList, Array.getElem?_map, Array.getElem?_range, if_pos hi]
    show some ((#[(.int .i64 0), (.string ⟨#[]⟩), (.string ⟨#[]⟩), (.int .i64 0), (.int .i64 0)] : Array Value)[i % 5]!) = _
    generalize i % 5 = r at h3
    match r, h3 with
    | 0, _ => rfl
    | 1, _ => rfl
    | 2, _ => rfl
    | 3, _ => rfl
    | 4, _ => rfl
  · rw [List.getElem?_eq_none, List.getElem?_eq_none]
    · rw [List.toList_toArray, fs_len, List.length_replicate]; omega
    · rw [Array.length_toList, size_madeCells]; omega
theorem info72 : (Try.prog.info? 72).map (fun i => (i.zero, i.size, i.bytes)) = some (some (.agg #[.int .i64 0, .string ⟨#[]⟩, .string ⟨#[]⟩, .int .i64 0, .int .i64 0]), 5, 56) := by kernel_rfl
theorem make60 (w : World) (m : Nat) (hm : m ≤ 1099511627776) : (Instr.makeSlice 58 (.int .i64 (m : Int)) (.int .i64 (m : Int))).run Try.prog w = .ok (.slice (some ⟨w.heap.size, 0, none⟩) m m) (w.alloc (.cells (fs (List.replicate m z72)).toArray 72)) := by
  have hi := info72
  cases hq : Try.prog.info? 72 with
  | none => rw [hq] at hi; cases hi
  | some i =>
    rw [hq] at hi; simp only [Option.map_some, Option.some.injEq, Prod.mk.injEq] at hi; have h := run_make (P := Try.prog) w 58 72 i _ Try.underlying58 hq hi.1 .i64 .i64 (m : Int) (m : Int) (by omega) (by omega) (by rw [hi.2.2]; omega) (by omega); rw [hi.2.1, Int.toNat_natCast, made60] at h; exact h
/-- Putting where there is room. -/
theorem put_no (W : World) (base p g : Nat) (S : List S72) (n used : Nat) (D : S37 → Option Int) (k : S37) (v : Int) (hk : Fit k) (hnb : n ≤ 1073741824) (h : TB W base p g S n used D) (hn : 4 * (used + 1) ≤ 3 * S.length) :
    Calls Try.prog 31 #[.pointer (some ⟨p, 0, none⟩), .agg #[.string k.f0, .string k.f1, .int .i64 k.f2], .int .i64 v] W fun e w' => (D k ≠ none ∧ e = .returned (.bool false) ∧ Put W w' base p g n D (fun L u => L = S.length ∧ u = used)) ∨ (D k = none ∧ e = .returned (.bool true) ∧ Put W w' base p g (n + 1) (upd D k (some v)) (fun L u => L = S.length ∧ u = used)) := by
  refine put_walk W base p g n D k v hk hnb _ ⟨S, used, h⟩ ?_; intro W1 hb; have h1 := h.below hb; refine (grow_no W1 base p g S n used D h1 hn).mono ?_; rintro e w' ⟨rfl, hb2⟩; exact ⟨rfl, Kp.of hb2 p g, g, S, used, Or.inl rfl, h1.below hb2, hn, rfl, rfl⟩
/-- The old places, and the new ones under way. -/
structure GL (W w : World) (base p g m : Nat) (S : List S72) (D : S37 → Option Int) (i g' : Nat) (S' : List S72) (u' : Nat) : Prop where
  kp : Kp W w p g
  old : w.heap[g]? = some (.cells (fs S).toArray 72 (0, 0))
  tb : TB w base p g' S' (cnt S i) u' (part S D i)
  hg : W.heap.size ≤ g'
  hm : S'.length = m
  hu : u' ≤ cnt S i
theorem GL.below {W w w' : World} {base p g m : Nat} {S : List S72} {D : S37 → Option Int} {i g' : Nat} {S' : List S72} {u' : Nat} (h : GL W w base p g m S D i g' S' u') (hb : Below w.heap.size w w') : GL W w' base p g m S D i g' S' u' :=
  ⟨h.kp.trans (Or.inl rfl) (Kp.of hb p g), blk_below h.old hb, h.tb.below hb, h.hg, h.hm, h.hu⟩
set_option maxHeartbeats 4000000 in
set_option maxRecDepth 100000 in
theorem grow (W : World) (base p g : Nat) (S : List S72) (n used : Nat) (D : S37 → Option Int) (h : TB W base p g S n used D) (hnb : n ≤ 1073741824) (hbase : base ≤ W.heap.size) :
    Calls Try.prog 37 #[.pointer (some ⟨p, 0, none⟩)] W fun e w' => e = .returned (.tuple #[]) ∧ Grown W w' base p g n D (fun _ _ => True) := by
  by_cases hn : 4 * (used + 1) ≤ 3 * S.length
  (refine (grow_no W base p g S n used D h hn).mono ?_; rintro e w' ⟨rfl, hb⟩; exact ⟨rfl, Kp.of hb p g, g, S, used, Or.inl rfl, h.below hb, hn, trivial⟩); have HT := Aside0.mk h; have HN := Aside0.mk hnb; have HBS := Aside0.mk hbase; have hp0 : W.cell? ⟨p, 0, none⟩ = some (.slice (some ⟨g, 0, none⟩) S.length S.length) := (zC h.tw.bp 0).trans rfl; have hp2 : W.cell? ⟨p, 2, none⟩ = some (.int .i64 (used : Int)) := (zC h.tw.bp 2).trans rfl; have hL := h.ok.len.2; have hU := h.ok.live_le
  have w1 : wrap64 ((used : Int) + 1) = (used : Int) + 1 := by unfold wrap64; omega
  have w2 : wrap64 (4 * ((used : Int) + 1)) = 4 * ((used : Int) + 1) := by unfold wrap64; omega
  have w3 : wrap64 (3 * (S.length : Int)) = 3 * (S.length : Int) := by unfold wrap64; omega
  have hd : decide (4 * ((used : Int) + 1) ≤ 3 * (S.length : Int)) = false := decide_eq_false (by omega); clear h hn hL hU hnb hbase
  go_enter Try.func37, Try.ntmps37
  go_upto_region 0 with (fail)
  refine start_ (n := 13) (S := (fun w' => w'.cell? ⟨p, 0, none⟩ = some (.slice (some ⟨g, 0, none⟩) S.length S.length) ∧ w'.cell? ⟨p, 2, none⟩ = some (.int .i64 (used : Int)))) (ds := []) #[false, false, false, false, false, false, false, false, false, false, false, false, false] (by kernel_rfl) rfl rfl ?_ ?_; (exact ⟨hp0, hp2⟩); intro hHeld; refine pure_ (i := 0) (N := some 6) (v := ?_) (a' := ?_) #[true, false, false, false, false, false, false, false, false, false, false, false, false] rfl rfl (by kernel_rfl) (fun _ _ _ h => h) (Or.inl ⟨by rfl, ?_⟩) ?_ ?_; rotate_left; (intro w'; go_simp; (with_reducible rfl)); rotate_left; (simp only [Act.put, List.setIfInBounds_toArray, List.set_cons_zero, List.set_cons_succ, i64_w, i32_w]; rfl); refine pure_ (i := 1) (N := some 7) (v := ?_) (a' := ?_) #[true, true, false, false, false, false, false, false, false, false, false, false, false] rfl rfl (by kernel_rfl) (fun _ _ _ h => h) (Or.inl ⟨by rfl, ?_⟩) ?_ ?_; rotate_left; (intro w'; go_simp; (with_reducible rfl)); rotate_left; (simp only [Act.put, List.setIfInBounds_toArray, List.set_cons_zero, List.set_cons_succ, i64_w, i32_w]; rfl); refine pure_ (i := 2) (N := some 8) (v := ?_) (a' := ?_) #[true, true, true, false, false, false, false, false, false, false, false, false, false] rfl rfl (by kernel_rfl) (fun _ _ _ h => h) (Or.inl ⟨by rfl, ?_⟩) ?_ ?_; rotate_left; (intro w'; go_simp; (with_reducible rfl)); rotate_left; (simp only [Act.put, List.setIfInBounds_toArray, List.set_cons_zero, List.set_cons_succ, i64_w, i32_w]; rfl); refine pure_ (i := 6) (N := some 12) (v := ?_) (a' := ?_) #[true, true, true, false, false, false, true, false, false, false, false, false, false] rfl rfl (by kernel_rfl) (fun _ _ _ h => h) (Or.inl ⟨by rfl, ?_⟩) ?_ ?_; rotate_left; (intro w'; go_simp; (with_reducible rfl)); rotate_left; (simp only [Act.put, List.setIfInBounds_toArray, List.set_cons_zero, List.set_cons_succ, i64_w, i32_w]; rfl); refine pure_ (i := 7) (N := some 13) (v := ?_) (a' := ?_) #[true, true, true, false, false, false, true, true, false, false, false, false, false] rfl rfl (by kernel_rfl) (fun _ _ _ h => h) (Or.inl ⟨by rfl, ?_⟩) ?_ ?_; rotate_left; (intro w'; go_simp; (with_reducible rfl)); rotate_left; (simp only [Act.put, List.setIfInBounds_toArray, List.set_cons_zero, List.set_cons_succ, i64_w, i32_w]; rfl); refine pure_ (i := 8) (N := some 14) (v := ?_) (a' := ?_) #[true, true, true, false, false, false, true, true, true, false, false, false, false] rfl rfl (by kernel_rfl) (fun _ _ _ h => h) (Or.inl ⟨by rfl, ?_⟩) ?_ ?_; rotate_left; (intro w'; go_simp; (with_reducible rfl)); rotate_left; (simp only [Act.put, List.setIfInBounds_toArray, List.set_cons_zero, List.set_cons_succ, i64_w, i32_w]; rfl); refine take_ (i := 3) (N := some 9) (v := ?_) (a' := ?_) #[true, true, true, true, false, false, true, true, true, false, false, false, false] rfl rfl (by kernel_rfl) (fun _ _ _ h => h) (Or.inl ⟨by rfl, ?_⟩) hHeld ?_ ?_; rotate_left; (rintro w' ⟨s0, s1⟩; go_simp; (with_reducible rfl)); rotate_left; (simp only [Act.put, List.setIfInBounds_toArray, List.set_cons_zero, List.set_cons_succ, i64_w, i32_w]; rfl); refine pure_ (i := 4) (N := some 10) (v := ?_) (a' := ?_) #[true, true, true, true, true, false, true, true, true, false, false, false, false] rfl rfl (by kernel_rfl) (fun _ _ _ h => h) (Or.inl ⟨by rfl, ?_⟩) ?_ ?_; rotate_left; (intro w'; go_simp; (with_reducible rfl)); rotate_left; (simp only [Act.put, List.setIfInBounds_toArray, List.set_cons_zero, List.set_cons_succ, i64_w, i32_w]; rfl); refine pure_ (i := 5) (N := some 11) (v := ?_) (a' := ?_) #[true, true, true, true, true, true, true, true, true, false, false, false, false] rfl rfl (by kernel_rfl) (fun _ _ _ h => h) (Or.inl ⟨by rfl, ?_⟩) ?_ ?_; rotate_left; (intro w'; go_simp; (with_reducible rfl)); rotate_left; (simp only [Act.put, List.setIfInBounds_toArray, List.set_cons_zero, List.set_cons_succ, i64_w, i32_w]; rfl); refine take_ (i := 9) (N := some 15) (v := ?_) (a' := ?_) #[true, true, true, true, true, true, true, true, true, true, false, false, false] rfl rfl (by kernel_rfl) (fun _ _ _ h => h) (Or.inl ⟨by rfl, ?_⟩) hHeld ?_ ?_; rotate_left; (rintro w' ⟨s0, s1⟩; go_simp; (with_reducible rfl)); rotate_left; (simp only [Act.put, List.setIfInBounds_toArray, List.set_cons_zero, List.set_cons_succ, i64_w, i32_w]; rfl); refine pure_ (i := 10) (N := some 16) (v := ?_) (a' := ?_) #[true, true, true, true, true, true, true, true, true, true, true, false, false] rfl rfl (by kernel_rfl) (fun _ _ _ h => h) (Or.inl ⟨by rfl, ?_⟩) ?_ ?_; rotate_left; (intro w'; go_simp; (with_reducible rfl)); rotate_left; (simp only [Act.put, List.setIfInBounds_toArray, List.set_cons_zero, List.set_cons_succ, i64_w, i32_w]; rfl); refine pure_ (i := 11) (N := some 17) (v := ?_) (a' := ?_) #[true, true, true, true, true, true, true, true, true, true, true, true, false] rfl rfl (by kernel_rfl) (fun _ _ _ h => h) (Or.inl ⟨by rfl, ?_⟩) ?_ ?_; rotate_left; (intro w'; go_simp; (with_reducible rfl)); rotate_left; (simp only [Act.put, List.setIfInBounds_toArray, List.set_cons_zero, List.set_cons_succ, i64_w, i32_w]; rfl); refine pure_ (i := 12) (N := some 18) (v := ?_) (a' := ?_) #[true, true, true, true, true, true, true, true, true, true, true, true, true] rfl rfl (by kernel_rfl) (fun _ _ _ h => h) (Or.inl ⟨by rfl, ?_⟩) ?_ ?_; rotate_left; (intro w'; go_simp; (with_reducible rfl)); rotate_left; (simp only [Act.put, List.setIfInBounds_toArray, List.set_cons_zero, List.set_cons_succ, i64_w, i32_w]; rfl); refine done_ (by kernel_rfl) ?_; obtain ⟨W1, hW1⟩ : ∃ W1, W.drew = W1 := ⟨_, rfl⟩; rw [hW1]; have T1 := Aside0.mk (show TB W1 base p g S n used D from hW1 ▸ HT.out.below (Below.refl _ W).drew); have K1 := Aside0.mk (show Kp W W1 p g from hW1 ▸ Kp.of (Below.refl _ W).drew p g); have Z1 := Aside0.mk (show W1.heap.size = W.heap.size from hW1 ▸ rfl); clear hp0 hp2 hW1 w1 w2 w3 hd; have hp0 : W1.cell? ⟨p, 0, none⟩ = some (.slice (some ⟨g, 0, none⟩) S.length S.length) := (zC T1.out.tw.bp 0).trans rfl; have hp1 : W1.cell? ⟨p, 1, none⟩ = some (.int .i64 (n : Int)) := (zC T1.out.tw.bp 1).trans rfl
  have wn : wrap64 ((n : Int) + 1) = (n : Int) + 1 := by have := HN.out; unfold wrap64; omega
  have wn4 : wrap64 (4 * ((n : Int) + 1)) = 4 * ((n : Int) + 1) := by have := HN.out; unfold wrap64; omega
  go_wp2_with fail
  go_loopg [2] 37 (fun kq v2 W' => ∃ m : Nat, v2 = .int .i64 (m : Int) ∧ Aside0 (W' = W1) ∧ Aside0 (∃ e, m = 2 ^ e ∧ e + kq = 40))
  case atStart => exact ⟨8, rfl, ⟨rfl⟩, ⟨3, rfl, rfl⟩⟩
  case round =>
  obtain ⟨m, rfl, ⟨rfl⟩, HM⟩ := hrel; obtain ⟨e, he, hek⟩ := HM.out; have hm40 : Aside0 (m ≤ 1099511627776) := ⟨by rw [he]; exact Nat.le_trans (Nat.pow_le_pow_right (by decide) (show e ≤ 40 by omega)) (by decide)⟩
  by_cases hlt : (m : Int) < 4 * ((n : Int) + 1)
  · have hltb : decide ((m : Int) < 4 * ((n : Int) + 1)) = true := decide_eq_true hlt
    have hk : Aside0 (∃ k1, gk = k1 + 1) := ⟨by
      cases gk with
      | succ k => exact ⟨k, rfl⟩
      | zero =>
        have : e = 40 := by omega
        rw [this] at he; have := HN.out
        omega⟩
    have HE := Aside0.mk (And.intro he hek)
    clear hlt he hek HM
    go_wp2_with fail
    obtain ⟨k1, hk1⟩ := hk.out
    go_roundg k1
    case measure => omega
    case rel =>
      have hw : wrap64 ((m : Int) * 2) = ((m * 2 : Nat) : Int) := by have := hm40.out; unfold wrap64; omega
      exact ⟨m * 2, by rw [hw], ⟨rfl⟩, ⟨e + 1, by rw [HE.out.1, Nat.pow_succ], by have := HE.out.2; omega⟩⟩
  have hltb : decide ((m : Int) < 4 * ((n : Int) + 1)) = false := decide_eq_false hlt; have HM2 := Aside0.mk (show 4 * (n + 1) ≤ m ∧ ∃ e, m = 2 ^ e ∧ e ≤ 40 from ⟨by omega, e, he, by omega⟩); clear hlt he hek HM
  go_wp2_with fail
  rw [make60 wr m hm40.out]; simp only [Result.andThen]; rw [Oper.upon_value]; obtain ⟨g2, hg2⟩ : ∃ g2, wr.heap.size = g2 := ⟨_, rfl⟩; rw [hg2]; obtain ⟨W2, hW2⟩ : ∃ W2, wr.alloc (.cells (fs (List.replicate m z72)).toArray 72) = W2 := ⟨_, rfl⟩; rw [hW2]; have B2 := Aside0.mk (show Below wr.heap.size wr W2 from hW2 ▸ zA (Below.refl _ wr) _); have G2 := Aside0.mk (show W2.heap[g2]? = some (.cells (fs (List.replicate m z72)).toArray 72 (0, 0)) from by rw [← hW2, ← hg2]; exact heap_alloc_new wr _); have L2 := Aside0.mk (And.intro hg2 (blk_lt T1.out.tw.bp)); have P2 := Aside0.mk (blk_below T1.out.tw.bp B2.out); have Q2 := Aside0.mk (blk_below T1.out.tw.bg B2.out); clear hg2 hW2 hp0 hp1 wn wn4 hltb; have fz := zR P2.out 0; have hp0 : W2.cell? ⟨p, 0, none⟩ = some (.slice (some ⟨g, 0, none⟩) S.length S.length) := (zC P2.out 0).trans rfl; have hp1 : W2.cell? ⟨p, 1, none⟩ = some (.int .i64 (n : Int)) := (zC P2.out 1).trans rfl; have hp2 : W2.cell? ⟨p, 2, none⟩ = some (.int .i64 (used : Int)) := (zC P2.out 2).trans rfl; have fz1 := zR P2.out 1; have fz2 := zR P2.out 2
  go_wp2_with fail
  obtain ⟨W3, hW3⟩ : ∃ W3, ((W2.setCell ⟨p, 0, none⟩ (.slice (some ⟨g2, 0, none⟩) m m)).setCell ⟨p, 1, none⟩ (.int .i64 0)).setCell ⟨p, 2, none⟩ (.int .i64 0) = W3 := ⟨_, rfl⟩; rw [hW3]
  have hpg : p ≠ g2 := by have := L2.out.1; have := L2.out.2; omega
  have GS := Aside0.mk (show GL W W3 base p g m S D 0 g2 (List.replicate m z72) 0 from by
    have k2 := K1.out.trans (Or.inl rfl) (Kp.of B2.out p g); refine ⟨?_, ?_, ⟨⟨?_, ?_, T1.out.tw.hp, ?_⟩, ?_, by omega⟩, ?_, List.length_replicate, by rw [cnt_zero]; exact Nat.le_refl _⟩; (rw [← hW3]; exact ((k2.trans (Or.inl rfl) (Kp.set _ _ (Or.inl rfl))).trans (Or.inl rfl) (Kp.set _ _ (Or.inl rfl))).trans (Or.inl rfl) (Kp.set _ _ (Or.inl rfl))); (rw [← hW3]; exact zG (zG (zG Q2.out (p := ⟨p, 0, none⟩) (Ne.symm T1.out.ne) _) (p := ⟨p, 1, none⟩) (Ne.symm T1.out.ne) _) (p := ⟨p, 2, none⟩) (Ne.symm T1.out.ne) _); (rw [← hW3, List.length_replicate, cnt_zero]; exact zP (zP (zP P2.out 0 _ rfl) 1 _ rfl) 2 _ rfl); (rw [← hW3]; exact zG (zG (zG G2.out (p := ⟨p, 0, none⟩) (Ne.symm hpg) _) (p := ⟨p, 1, none⟩) (Ne.symm hpg) _) (p := ⟨p, 2, none⟩) (Ne.symm hpg) _); (have := HBS.out; have := K1.out.size; have := L2.out.1; omega); (rw [part_zero, cnt_zero]; exact OK.fresh m HM2.out.2)
    · have := K1.out.size; have := L2.out.1; omega)
  have HS := Aside0.mk (And.intro T1.out.ok.hl (And.intro (blk_lt HT.out.tw.bg) T1.out.ne)); have OKS := Aside0.mk T1.out.ok; have SL := Aside0.mk T1.out.ok.len.2; clear fz fz1 fz2 hp0 hp1 hp2 hW3 hpg B2 G2 L2 P2 Q2 T1 K1 Z1
  go_loopg [46] S.length (fun kq v46 w => ∃ i g' S' u', v46 = .int .i64 ((i : Nat) : Int) ∧ Aside0 (i + kq = S.length) ∧ Aside0 (GL W w base p g m S D i g' S' u'))
  case atStart => exact ⟨0, g2, _, 0, rfl, ⟨by omega⟩, GS⟩
  case round =>
  clear GS; obtain ⟨i, g', S', u', rfl, HI, GLi⟩ := hrel
  cases gk with
  | zero =>
    have hlt : decide ((i : Int) < (S.length : Int)) = false := decide_eq_false (by have := HI.out; omega)
    have hlt2 : ¬ i < S.length := by have := HI.out; omega
    go_wp2_with fail
    refine bodyPost_end (results_none rfl _ _ _) rfl ?_
    have hi : i = S.length := by have := HI.out; omega
    subst hi; have hc := cnt_all S; rw [← HS.out.1] at hc; have ht := GLi.out.tb; have hu := GLi.out.hu; rw [part_all OKS.out, hc] at ht; rw [hc] at hu; exact ⟨rfl, GLi.out.kp, g', S', u', Or.inr GLi.out.hg, ht, by rw [GLi.out.hm]; have := HM2.out.1; omega, trivial⟩
  | succ k1 =>
    have hlt : i < S.length := by have := HI.out; omega
    have HIL := Aside0.mk hlt; obtain ⟨x, hx⟩ : ∃ x, at60 S i = x := ⟨_, rfl⟩; have HX := Aside0.mk hx
    have old : ∀ j, j < 5 → wr.cell? ⟨g, i * 5 + j, none⟩ = [Value.int .i64 x.f0, .string x.f1.f0, .string x.f1.f1, .int .i64 x.f1.f2, .int .i64 x.f2][j]? := by
      intro j hj; rw [zC GLi.out.old, ← hx, at60_eq S i hlt, ← fs_at S i hlt j hj]; simp
    have t0 : wr.cell? ⟨g, i * 5, none⟩ = some (.int .i64 x.f0) := old 0 (by omega); have t1 : wr.cell? ⟨g, i * 5 + 1, none⟩ = some (.string x.f1.f0) := old 1 (by omega); have t2 : wr.cell? ⟨g, i * 5 + 2, none⟩ = some (.string x.f1.f1) := old 2 (by omega); have t3 : wr.cell? ⟨g, i * 5 + 3, none⟩ = some (.int .i64 x.f1.f2) := old 3 (by omega); have t4 : wr.cell? ⟨g, i * 5 + 4, none⟩ = some (.int .i64 x.f2) := old 4 (by omega); clear old hx; have hwi : Aside0 (wrap64 ((i : Int) + 1) = ((i + 1 : Nat) : Int)) := ⟨by have := SL.out; have := HIL.out; unfold wrap64; omega⟩
    by_cases s1 : x.f0 = 1
    · have s1b : (x.f0 == 1) = true := by simp [s1]
      have H1 := Aside0.mk s1
      clear s1
      have PN := Aside0.mk (part_step OKS.out i HIL.out (by rw [HX.out]; exact H1.out))
      have CN := Aside0.mk (show cnt S (i + 1) = cnt S i + 1 from by rw [cnt_step S i HIL.out, if_pos (by rw [HX.out]; exact H1.out)])
      have RM := Aside0.mk (show 4 * (u' + 1) ≤ 3 * S'.length ∧ cnt S i ≤ 1073741824 from by
        have h1 := cnt_le S (i + 1); have h2 := HS.out.1; have h3 := CN.out; have h4 := GLi.out.hu; have h5 := HM2.out.1; have h6 := HN.out; rw [GLi.out.hm]
        omega)
      have HP := Aside0.mk (fun (w : World) (hb : Below wr.heap.size wr w) => put_no w base p g' S' (cnt S i) u' (part S D i) x.f1 x.f2 (HX.out ▸ OKS.out.sz i HIL.out (by rw [HX.out]; exact H1.out)) RM.out.2 (GLi.out.tb.below hb) RM.out.1)
      go_wp2_with (go_at_call 31; refine (HP.out _ (zA (Below.refl _ wr) _)).mono ?_; rintro e w' (⟨hno, rfl, hput⟩ | ⟨hyes, rfl, hput⟩); exact absurd (HX.out ▸ PN.out.1) hno; have PT := Aside0.mk hput; clear hput hyes)
      go_roundg k1
      case measure => omega
      case rel =>
        obtain ⟨kp, g'', S'', u'', hgg, tb, u, ⟨hl, hu⟩, hu2⟩ := PT.out; have hg := GLi.out.below (zA (Below.refl _ wr) (.cells #[.int .i64 x.f0, .string x.f1.f0, .string x.f1.f1, .int .i64 x.f1.f2, .int .i64 x.f2] 72)); have hgw := HS.out.2; refine ⟨i + 1, g'', S'', u'', by rw [hwi.out], ⟨by have := HI.out; omega⟩, ⟨⟨hg.kp.trans (Or.inr hg.hg) kp, ?_, ?_, ?_, hl.trans hg.hm, ?_⟩⟩⟩; (refine (kp.block g (blk_lt hg.old) (Ne.symm hgw.2) ?_).trans hg.old; have := hg.hg; have := hgw.1; omega); (rw [CN.out, PN.out.2, HX.out]; exact tb)
        · have := hg.hg
          have := hg.kp.size
          rcases hgg with e | e <;> omega
        · have := hg.hu
          have := CN.out; omega
    · have s1b : (x.f0 == 1) = false := by simp [s1]
      have H1 := Aside0.mk s1
      clear s1
      go_wp2_with fail
      go_roundg k1
      case measure => omega
      case rel =>
        have hc : cnt S (i + 1) = cnt S i := by rw [cnt_step S i HIL.out, if_neg (by rw [HX.out]; exact H1.out)]; rfl
        have hp : part S D (i + 1) = part S D i := part_skip S D i (by rw [HX.out]; exact H1.out); have hg := GLi.out.below (zA (Below.refl _ wr) (.cells #[.int .i64 x.f0, .string x.f1.f0, .string x.f1.f1, .int .i64 x.f1.f2, .int .i64 x.f2] 72)); exact ⟨i + 1, g', S', u', by rw [hwi.out], ⟨by have := HI.out; omega⟩, ⟨⟨hg.kp, hg.old, by rw [hc, hp]; exact hg.tb, hg.hg, hg.hm, by rw [hc]; exact hg.hu⟩⟩⟩
/-- An index in memory: a map from labels to numbers, of n labels. -/
def IX (W : World) (base p n : Nat) (D : S37 → Option Int) : Prop := ∃ g S used, TB W base p g S n used D
theorem IX.below {W W' : World} {base p n : Nat} {D : S37 → Option Int} (h : IX W base p n D) (hb : Below W.heap.size W W') : IX W' base p n D := by
  obtain ⟨g, S, used, h⟩ := h; exact ⟨g, S, used, h.below hb⟩
theorem put (W : World) (base p n : Nat) (D : S37 → Option Int) (k : S37) (v : Int) (hk : Fit k) (hnb : n ≤ 1073741824) (hbase : base ≤ W.heap.size) (h : IX W base p n D) :
    Calls Try.prog 31 #[.pointer (some ⟨p, 0, none⟩), .agg #[.string k.f0, .string k.f1, .int .i64 k.f2], .int .i64 v] W fun e w' => Below base W w' ∧ ((D k ≠ none ∧ e = .returned (.bool false) ∧ IX w' base p n D) ∨ (D k = none ∧ e = .returned (.bool true) ∧ IX w' base p (n + 1) (upd D k (some v)))) := by
  obtain ⟨g, S, used, ht⟩ := h; refine (put_walk W base p g n D k v hk hnb (fun _ _ => True) ⟨S, used, ht⟩ ?_).mono ?_; (intro W1 hb; exact grow W1 base p g S n used D (ht.below hb) hnb (Nat.le_trans hbase hb.size))
  · rintro e w' (⟨h1, rfl, kp, g', S', used', hgg, tb, _⟩ | ⟨h1, rfl, kp, g', S', used', hgg, tb, _⟩)
    · exact ⟨kp.below ht.tw.hp ht.tw.hg hbase, Or.inl ⟨h1, rfl, g', S', used', tb⟩⟩
    · exact ⟨kp.below ht.tw.hp ht.tw.hg hbase, Or.inr ⟨h1, rfl, g', S', used', tb⟩⟩
set_option maxHeartbeats 4000000 in
set_option maxRecDepth 100000 in
theorem get (W : World) (base p n : Nat) (D : S37 → Option Int) (k : S37) (hk : Fit k) (h : IX W base p n D) :
    Calls Try.prog 32 #[.pointer (some ⟨p, 0, none⟩), .agg #[.string k.f0, .string k.f1, .int .i64 k.f2]] W fun e w' => Below W.heap.size W w' ∧ e = .returned (.tuple #[.int .i64 ((D k).getD 0), .bool (D k).isSome]) := by
  obtain ⟨g, S, used, ht⟩ := h; have HK := Aside0.mk hk; have HT := Aside0.mk ht; have hp1 : W.cell? ⟨p, 1, none⟩ = some (.int .i64 (n : Int)) := (zC ht.tw.bp 1).trans rfl; obtain ⟨f, j, b, hplc, hjl, hcase⟩ := ht.ok.place2 ht.le k; have PL := Aside0.mk hplc; have JL := Aside0.mk hjl; have CA := Aside0.mk hcase; clear hk ht hplc hjl hcase
  by_cases hn : n = 0
  · have H0 := Aside0.mk (show D k = none from by have := HT.out.ok; rw [hn] at this; rw [this.zero])
    have hnb : ((n : Int) == 0) = true := by simp [hn]
    clear hn
    go_enter Try.func32, Try.ntmps32
    go_wp2_with ((with_reducible refine zgd (N := 3) rfl ?_); refine zb ?hg (N := 3) ?hd (cs := #[.string k.f0, .string k.f1, .int .i64 k.f2]) (t := 37) ?hr ?_; (case hd => rfl); (case hg => rfl); (case hr => first | (go_simp; done) | (go_simp; rfl)); intro gb hg w1 hbox hb; have G1 := Aside0.mk hg; have B1 := Aside0.mk hb; have hp1 : w1.cell? ⟨p, 1, none⟩ = some (.int .i64 (n : Int)) := (zC (HT.out.below hb).tw.bp 1).trans rfl; clear hbox hb hg)
    go_ret2
    exact ⟨B1.out, by rw [H0.out]; rfl⟩
  · have hnb : ((n : Int) == 0) = false := by simp [hn]
    clear hn
    go_enter Try.func32, Try.ntmps32
    go_upto_region 4 with (first | ((with_reducible refine zgd (N := 3) rfl ?_); refine zb ?hg (N := 3) ?hd (cs := #[.string k.f0, .string k.f1, .int .i64 k.f2]) (t := 37) ?hr ?_; (case hd => rfl); (case hg => rfl); (case hr => first | (go_simp; done) | (go_simp; rfl)); intro gb hg w1 hbox hb; have G1 := Aside0.mk hg; have B1 := Aside0.mk hb; have X1 := Aside0.mk hbox; have hp1 : w1.cell? ⟨p, 1, none⟩ = some (.int .i64 (n : Int)) := (zC (HT.out.below hb).tw.bp 1).trans rfl; have c0 : w1.cell? ⟨gb, 0, none⟩ = some (.string k.f0) := (zC hbox 0).trans rfl; have c1 : w1.cell? ⟨gb, 1, none⟩ = some (.string k.f1) := (zC hbox 1).trans rfl; have c2 : w1.cell? ⟨gb, 2, none⟩ = some (.int .i64 k.f2) := (zC hbox 2).trans rfl; clear hbox hb hg) | (go_at_call 38; refine (place f w1 base p g S n used k _ _ (HT.out.below B1.out).tw HT.out.ok.pw.choose_spec.1 HT.out.ok.pw.choose_spec.2 PL.out HK.out.1 HK.out.2).mono ?_; rintro e w3 ⟨rfl, hb3⟩; have B3 := Aside0.mk (B1.out.trans (hb3.mono B1.out.size)); clear hb3))
    have T3 := Aside0.mk (HT.out.below B3.out)
    clear hp1 c0 c1 c2 X1 B1
    rcases CA.out with ⟨rfl, q1, q2⟩ | ⟨rfl, q1, q2, q3⟩
    · have Q := Aside0.mk (HT.out.ok.some_of JL.out q1 q2)
      have hp0 : w3.cell? ⟨p, 0, none⟩ = some (.slice (some ⟨g, 0, none⟩) S.length S.length) := (zC T3.out.tw.bp 0).trans rfl
      obtain ⟨s0, hs0⟩ : ∃ s0, (at60 S j).f2 = s0 := ⟨_, rfl⟩
      have t0 : w3.cell? ⟨g, j * 5 + 4, none⟩ = some (.int .i64 s0) := hs0 ▸ T3.out.tw.cell j JL.out 4 (by omega)
      have hjn := JL.out
      have HS := Aside0.mk hs0
      clear q1 q2 CA hs0
      go_wp2_with fail
      go_ret2
      exact ⟨B3.out, by rw [Q.out, HS.out]; rfl⟩
    · have Q := Aside0.mk (HT.out.ok.none_of q2)
      clear q1 q2 q3 CA
      go_wp2_with fail
      go_ret2
      exact ⟨B3.out, by rw [Q.out]; rfl⟩
/-- What putting makes of a map. -/
noncomputable def putD (D : S37 → Option Int) (k : S37) (v : Int) : S37 → Option Int := if (D k).isNone then upd D k (some v) else D
theorem putU (W : World) (base p n : Nat) (D : S37 → Option Int) (k : S37) (v : Int) (hk : Fit k) (hnb : n ≤ 1073741824) (hbase : base ≤ W.heap.size) (h : IX W base p n D) :
    Calls Try.prog 31 #[.pointer (some ⟨p, 0, none⟩), .agg #[.string k.f0, .string k.f1, .int .i64 k.f2], .int .i64 v] W fun e w' => e = .returned (.bool (D k).isNone) ∧ Below base W w' ∧ IX w' base p (if (D k).isNone then n + 1 else n) (putD D k v) := by
  refine (put W base p n D k v hk hnb hbase h).mono ?_; rintro e w' ⟨hb, ⟨h1, rfl, hi⟩ | ⟨h1, rfl, hi⟩⟩
  · cases hd : D k with
    | none => exact absurd hd h1
    | some x =>
      refine ⟨rfl, hb, ?_⟩; unfold putD; rw [hd]; exact hi
  · unfold putD
    rw [h1]; exact ⟨rfl, hb, hi⟩
set_option maxHeartbeats 4000000 in
set_option maxRecDepth 100000 in
theorem Index_Put (W : World) (base p n : Nat) (D : S37 → Option Int) (k : S37) (v : Int) (hk : Fit k) (hnb : n ≤ 1073741824) (hbase : base ≤ W.heap.size) (h : IX W base p n D) :
    Calls Try.prog 24 #[.pointer (some ⟨p, 0, none⟩), .agg #[.string k.f0, .string k.f1, .int .i64 k.f2], .int .i64 v] W fun e w' => e = .returned (.bool (D k).isNone) ∧ Below base W w' ∧ IX w' base p (if (D k).isNone then n + 1 else n) (putD D k v) := by
  have HH := Aside0.mk (And.intro hk (And.intro hnb hbase)); have HI := Aside0.mk h; clear hk hnb hbase h; obtain ⟨b, hbb⟩ : ∃ b, (D k).isNone = b := ⟨_, rfl⟩; obtain ⟨n', hnn⟩ : ∃ n', (if (D k).isNone then n + 1 else n) = n' := ⟨_, rfl⟩; rw [hbb] at hnn; have HBB := Aside0.mk (And.intro hbb hnn); rw [hbb, hnn]; clear hbb hnn
  go_enter Try.func24, Try.ntmps24
  go_upto_region 1 with ((with_reducible refine zgd (N := 4) rfl ?_); refine zb ?hg (N := 4) ?hd (cs := #[.string k.f0, .string k.f1, .int .i64 k.f2]) (t := 37) ?hr ?_; (case hd => rfl); (case hg => rfl); (case hr => first | (go_simp; done) | (go_simp; rfl)); intro gb hg w1 hbox hb; have G1 := Aside0.mk hg; have B1 := Aside0.mk hb; have c0 : w1.cell? ⟨gb, 0, none⟩ = some (.string k.f0) := (zC hbox 0).trans rfl; have c1 : w1.cell? ⟨gb, 1, none⟩ = some (.string k.f1) := (zC hbox 1).trans rfl; have c2 : w1.cell? ⟨gb, 2, none⟩ = some (.int .i64 k.f2) := (zC hbox 2).trans rfl; clear hbox hb hg)
  refine start_ (n := 11) (S := (fun w' => w'.cell? ⟨gb, 0, none⟩ = some (.string k.f0) ∧ w'.cell? ⟨gb, 1, none⟩ = some (.string k.f1) ∧ w'.cell? ⟨gb, 2, none⟩ = some (.int .i64 k.f2))) (ds := [8]) #[false, false, false, false, false, false, false, false, false, false, false] (by kernel_rfl) rfl rfl ?_ ?_; (exact ⟨c0, c1, c2⟩); intro hHeld; refine pure_ (i := 0) (N := some 7) (v := ?_) (a' := ?_) #[true, false, false, false, false, false, false, false, false, false, false] rfl rfl (by kernel_rfl) (fun _ _ _ h => h) (Or.inl ⟨by rfl, ?_⟩) ?_ ?_; rotate_left; (intro w'; go_simp; (with_reducible rfl)); rotate_left; (simp only [Act.put, List.setIfInBounds_toArray, List.set_cons_zero, List.set_cons_succ, i64_w, i32_w]; rfl); refine pure_ (i := 1) (N := some 8) (v := ?_) (a' := ?_) #[true, true, false, false, false, false, false, false, false, false, false] rfl rfl (by kernel_rfl) (fun _ _ _ h => h) (Or.inl ⟨by rfl, ?_⟩) ?_ ?_; rotate_left; (intro w'; go_simp; (with_reducible rfl)); rotate_left; (simp only [Act.put, List.setIfInBounds_toArray, List.set_cons_zero, List.set_cons_succ, i64_w, i32_w]; rfl); refine pure_ (i := 2) (N := some 9) (v := ?_) (a' := ?_) #[true, true, true, false, false, false, false, false, false, false, false] rfl rfl (by kernel_rfl) (fun _ _ _ h => h) (Or.inl ⟨by rfl, ?_⟩) ?_ ?_; rotate_left; (intro w'; go_simp; (with_reducible rfl)); rotate_left; (simp only [Act.put, List.setIfInBounds_toArray, List.set_cons_zero, List.set_cons_succ, i64_w, i32_w]; rfl); refine pure_ (i := 3) (N := some 10) (v := ?_) (a' := ?_) #[true, true, true, true, false, false, false, false, false, false, false] rfl rfl (by kernel_rfl) (fun _ _ _ h => h) (Or.inl ⟨by rfl, ?_⟩) ?_ ?_; rotate_left; (intro w'; go_simp; (with_reducible rfl)); rotate_left; (simp only [Act.put, List.setIfInBounds_toArray, List.set_cons_zero, List.set_cons_succ, i64_w, i32_w]; rfl); refine pure_ (i := 4) (N := some 11) (v := ?_) (a' := ?_) #[true, true, true, true, true, false, false, false, false, false, false] rfl rfl (by kernel_rfl) (fun _ _ _ h => h) (Or.inl ⟨by rfl, ?_⟩) ?_ ?_; rotate_left; (intro w'; go_simp; (with_reducible rfl)); rotate_left; (simp only [Act.put, List.setIfInBounds_toArray, List.set_cons_zero, List.set_cons_succ, i64_w, i32_w]; rfl); refine pure_ (i := 5) (N := some 12) (v := ?_) (a' := ?_) #[true, true, true, true, true, true, false, false, false, false, false] rfl rfl (by kernel_rfl) (fun _ _ _ h => h) (Or.inl ⟨by rfl, ?_⟩) ?_ ?_; rotate_left; (intro w'; go_simp; (with_reducible rfl)); rotate_left; (simp only [Act.put, List.setIfInBounds_toArray, List.set_cons_zero, List.set_cons_succ, i64_w, i32_w]; rfl); refine pure_ (i := 7) (N := some 14) (v := ?_) (a' := ?_) #[true, true, true, true, true, true, false, true, false, false, false] rfl rfl (by kernel_rfl) (fun _ _ _ h => h) (Or.inl ⟨by rfl, ?_⟩) ?_ ?_; rotate_left; (intro w'; go_simp; (with_reducible rfl)); rotate_left; (simp only [Act.put, List.setIfInBounds_toArray, List.set_cons_zero, List.set_cons_succ, i64_w, i32_w]; rfl); refine take_ (i := 6) (N := some 13) (v := ?_) (a' := ?_) #[true, true, true, true, true, true, true, true, false, false, false] rfl rfl (by kernel_rfl) (fun _ _ _ h => h) (Or.inl ⟨by rfl, ?_⟩) hHeld ?_ ?_; rotate_left; (rintro w' ⟨s0, s1, s2⟩; go_simp; (with_reducible rfl)); rotate_left; (simp only [Act.put, List.setIfInBounds_toArray, List.set_cons_zero, List.set_cons_succ, i64_w, i32_w]; rfl); refine last_ (i := 8) (N := some 15) #[true, true, true, true, true, true, true, true, true, false, false] rfl rfl (by kernel_rfl) (by decide) (fun K hK => ?_); refine goes_ Try.func31 (by kernel_rfl) rfl #[.pointer (some ⟨p, 0, none⟩), .agg #[.string k.f0, .string k.f1, .int .i64 k.f2], .int .i64 v] (by rfl) rfl rfl (by (try simp only [List.map_toArray, List.map_cons, List.map_nil]); first | done | rfl) ?_; have B2 := (B1.out.trans (Below.refl _ w1).drew |> fun h => h); refine (putU w1.drew base p n D k v HH.out.1 HH.out.2.1 (Nat.le_trans HH.out.2.2 B1.out.size) ((HI.out.below B1.out).below (Below.refl _ w1).drew)).mono ?_; rintro e W2 ⟨rfl, hb, hi⟩; rw [HBB.out.1, HBB.out.2] at hi; refine ⟨_, by rw [HBB.out.1], ?_⟩; have B3 := Aside0.mk ((B1.out.mono HH.out.2.2).trans (((Below.refl _ w1).drew.mono (Nat.le_trans HH.out.2.2 B1.out.size)).trans hb)); have I3 := Aside0.mk hi; clear hb hi; refine hK.out _ _ ?_; clear hK K; refine norm_ (a' := ?_) ?_ ?_; rotate_left
  · show Act.put _ (some 15) _ = _
    simp only [Act.put, List.setIfInBounds_toArray, List.set_cons_zero, List.set_cons_succ, i64_w, i32_w]
    rfl
  refine pure_ (i := 9) (N := some 16) (v := ?_) (a' := ?_) #[true, true, true, true, true, true, true, true, true, true, false] rfl rfl (by kernel_rfl) (fun _ _ _ h => h) (Or.inl ⟨by rfl, ?_⟩) ?_ ?_; rotate_left; (intro w'; go_simp; (with_reducible rfl)); rotate_left; (simp only [Act.put, List.setIfInBounds_toArray, List.set_cons_zero, List.set_cons_succ, i64_w, i32_w]; rfl); refine pure_ (i := 10) (N := some 6) (v := ?_) (a' := ?_) #[true, true, true, true, true, true, true, true, true, true, true] rfl rfl (by kernel_rfl) (fun _ _ _ h => h) (Or.inl ⟨by rfl, ?_⟩) ?_ ?_; rotate_left; (intro w'; go_simp; (with_reducible rfl)); rotate_left; (simp only [Act.put, List.setIfInBounds_toArray, List.set_cons_zero, List.set_cons_succ, i64_w, i32_w]; rfl); refine done_ (by kernel_rfl) ?_
  go_wp2_with fail
  refine bodyPost_ret (results_tmp rfl _ _ _) rfl ?_; exact ⟨rfl, B3.out, I3.out⟩
set_option maxHeartbeats 4000000 in
set_option maxRecDepth 100000 in
theorem Index_Get (W : World) (base p n : Nat) (D : S37 → Option Int) (k : S37) (hk : Fit k) (h : IX W base p n D) :
    Calls Try.prog 25 #[.pointer (some ⟨p, 0, none⟩), .agg #[.string k.f0, .string k.f1, .int .i64 k.f2]] W fun e w' => e = .returned (.tuple #[.int .i64 ((D k).getD 0), .bool (D k).isSome]) ∧ Below W.heap.size W w' := by
  have HH := Aside0.mk hk; have HI := Aside0.mk h; clear hk h
  go_enter Try.func25, Try.ntmps25
  go_upto_region 3 with ((with_reducible refine zgd (N := 3) rfl ?_); refine zb ?hg (N := 3) ?hd (cs := #[.string k.f0, .string k.f1, .int .i64 k.f2]) (t := 37) ?hr ?_; (case hd => rfl); (case hg => rfl); (case hr => first | (go_simp; done) | (go_simp; rfl)); intro gb hg w1 hbox hb; have G1 := Aside0.mk hg; have B1 := Aside0.mk hb; have c0 : w1.cell? ⟨gb, 0, none⟩ = some (.string k.f0) := (zC hbox 0).trans rfl; have c1 : w1.cell? ⟨gb, 1, none⟩ = some (.string k.f1) := (zC hbox 1).trans rfl; have c2 : w1.cell? ⟨gb, 2, none⟩ = some (.int .i64 k.f2) := (zC hbox 2).trans rfl; clear hbox hb hg)
  refine start_ (n := 9) (S := (fun w' => w'.cell? ⟨gb, 0, none⟩ = some (.string k.f0) ∧ w'.cell? ⟨gb, 1, none⟩ = some (.string k.f1) ∧ w'.cell? ⟨gb, 2, none⟩ = some (.int .i64 k.f2))) (ds := [4]) #[false, false, false, false, false, false, false, false, false] (by kernel_rfl) rfl rfl ?_ ?_; (exact ⟨c0, c1, c2⟩); intro hHeld; refine pure_ (i := 0) (N := some 8) (v := ?_) (a' := ?_) #[true, false, false, false, false, false, false, false, false] rfl rfl (by kernel_rfl) (fun _ _ _ h => h) (Or.inl ⟨by rfl, ?_⟩) ?_ ?_; rotate_left; (intro w'; go_simp; (with_reducible rfl)); rotate_left; (simp only [Act.put, List.setIfInBounds_toArray, List.set_cons_zero, List.set_cons_succ, i64_w, i32_w]; rfl); refine pure_ (i := 1) (N := some 9) (v := ?_) (a' := ?_) #[true, true, false, false, false, false, false, false, false] rfl rfl (by kernel_rfl) (fun _ _ _ h => h) (Or.inl ⟨by rfl, ?_⟩) ?_ ?_; rotate_left; (intro w'; go_simp; (with_reducible rfl)); rotate_left; (simp only [Act.put, List.setIfInBounds_toArray, List.set_cons_zero, List.set_cons_succ, i64_w, i32_w]; rfl); refine pure_ (i := 2) (N := some 10) (v := ?_) (a' := ?_) #[true, true, true, false, false, false, false, false, false] rfl rfl (by kernel_rfl) (fun _ _ _ h => h) (Or.inl ⟨by rfl, ?_⟩) ?_ ?_; rotate_left; (intro w'; go_simp; (with_reducible rfl)); rotate_left; (simp only [Act.put, List.setIfInBounds_toArray, List.set_cons_zero, List.set_cons_succ, i64_w, i32_w]; rfl); refine take_ (i := 3) (N := some 11) (v := ?_) (a' := ?_) #[true, true, true, true, false, false, false, false, false] rfl rfl (by kernel_rfl) (fun _ _ _ h => h) (Or.inl ⟨by rfl, ?_⟩) hHeld ?_ ?_; rotate_left; (rintro w' ⟨s0, s1, s2⟩; go_simp; (with_reducible rfl)); rotate_left; (simp only [Act.put, List.setIfInBounds_toArray, List.set_cons_zero, List.set_cons_succ, i64_w, i32_w]; rfl); refine last_ (i := 4) (N := some 12) #[true, true, true, true, true, false, false, false, false] rfl rfl (by kernel_rfl) (by decide) (fun K hK => ?_); refine goes_ Try.func32 (by kernel_rfl) rfl #[.pointer (some ⟨p, 0, none⟩), .agg #[.string k.f0, .string k.f1, .int .i64 k.f2]] (by rfl) rfl rfl (by (try simp only [List.map_toArray, List.map_cons, List.map_nil]); first | done | rfl) ?_; refine (get w1.drew base p n D k HH.out ((HI.out.below B1.out).below (Below.refl _ w1).drew)).mono ?_; rintro e W2 ⟨hb, rfl⟩; refine ⟨_, rfl, ?_⟩; have B3 := Aside0.mk (B1.out.trans (((Below.refl _ w1).drew).trans (hb.mono B1.out.size))); clear hb; refine hK.out _ _ ?_; clear hK K; refine norm_ (a' := ?_) ?_ ?_; rotate_left
  · show Act.put _ (some 12) _ = _
    simp only [Act.put, List.setIfInBounds_toArray, List.set_cons_zero, List.set_cons_succ, i64_w, i32_w]
    rfl
  refine pure_ (i := 5) (N := some 13) (v := ?_) (a' := ?_) #[true, true, true, true, true, true, false, false, false] rfl rfl (by kernel_rfl) (fun _ _ _ h => h) (Or.inl ⟨by rfl, ?_⟩) ?_ ?_; rotate_left; (intro w'; go_simp; (with_reducible rfl)); rotate_left; (simp only [Act.put, List.setIfInBounds_toArray, List.set_cons_zero, List.set_cons_succ, i64_w, i32_w]; rfl); refine pure_ (i := 6) (N := some 14) (v := ?_) (a' := ?_) #[true, true, true, true, true, true, true, false, false] rfl rfl (by kernel_rfl) (fun _ _ _ h => h) (Or.inl ⟨by rfl, ?_⟩) ?_ ?_; rotate_left; (intro w'; go_simp; (with_reducible rfl)); rotate_left; (simp only [Act.put, List.setIfInBounds_toArray, List.set_cons_zero, List.set_cons_succ, i64_w, i32_w]; rfl); refine pure_ (i := 7) (N := some 4) (v := ?_) (a' := ?_) #[true, true, true, true, true, true, true, true, false] rfl rfl (by kernel_rfl) (fun _ _ _ h => h) (Or.inl ⟨by rfl, ?_⟩) ?_ ?_; rotate_left; (intro w'; go_simp; (with_reducible rfl)); rotate_left; (simp only [Act.put, List.setIfInBounds_toArray, List.set_cons_zero, List.set_cons_succ, i64_w, i32_w]; rfl); refine pure_ (i := 8) (N := some 5) (v := ?_) (a' := ?_) #[true, true, true, true, true, true, true, true, true] rfl rfl (by kernel_rfl) (fun _ _ _ h => h) (Or.inl ⟨by rfl, ?_⟩) ?_ ?_; rotate_left; (intro w'; go_simp; (with_reducible rfl)); rotate_left; (simp only [Act.put, List.setIfInBounds_toArray, List.set_cons_zero, List.set_cons_succ, i64_w, i32_w]; rfl); refine done_ (by kernel_rfl) ?_
  go_wp2_with fail
  go_ret2
  exact ⟨rfl, B3.out⟩
set_option maxHeartbeats 4000000 in
set_option maxRecDepth 100000 in
theorem New (W : World) (room : Int) : Calls Try.prog 23 #[.int .i64 room] W fun e w' => ∃ p, e = .returned (.pointer (some ⟨p, 0, none⟩)) ∧ Below W.heap.size W w' ∧ IX w' W.heap.size p 0 (fun _ => none) := by
  obtain ⟨a, ha⟩ : ∃ a, (if room < 0 then 0 else room) = a := ⟨_, rfl⟩; obtain ⟨R, hR⟩ : ∃ R, (if 4096 < a then 4096 else a) = R := ⟨_, rfl⟩
  have ha2 : max room 0 = a := by rw [← ha]; split <;> omega
  have hR2 : min a 4096 = R := by rw [← hR]; split <;> omega
  have HR := Aside0.mk (show 0 ≤ R ∧ R ≤ 4096 from by
    constructor; (rw [← hR, ← ha]; split <;> split <;> omega)
    · rw [← hR]; split <;> omega)
  have hw4 : wrap64 (4 * R) = 4 * R := by have := HR.out; unfold wrap64; omega
  go_enter Try.func23, Try.ntmps23
  go_wp2_with ((with_reducible refine zgd (N := 6) rfl ?_); refine zb ?hg (N := 6) ?hd (cs := #[.slice none 0 0, .int .i64 0, .int .i64 0]) (t := 62) ?hr ?_; (case hd => rfl); (case hg => rfl); (case hr => first | (go_simp; done) | (go_simp; rfl)); intro p hg w1 hbox hb; have G1 := Aside0.mk hg; have B1 := Aside0.mk hb; have X1 := Aside0.mk hbox; clear hbox hb hg)
  go_loopg [4] 37 (fun kq v4 W' => ∃ m : Nat, v4 = .int .i64 (m : Int) ∧ Aside0 (W' = w1) ∧ Aside0 (∃ e, m = 2 ^ e ∧ e + kq = 40))
  case atStart => exact ⟨8, rfl, ⟨rfl⟩, ⟨3, rfl, rfl⟩⟩
  case round =>
  obtain ⟨m, rfl, HW, HM⟩ := hrel; have hw := HW.out; subst hw; clear HW; have hm40 : Aside0 (m ≤ 1099511627776) := ⟨by obtain ⟨e, he, hek⟩ := HM.out; rw [he]; exact Nat.le_trans (Nat.pow_le_pow_right (by decide) (show e ≤ 40 by omega)) (by decide)⟩
  have hw3 : wrap64 (3 * (m : Int)) = 3 * (m : Int) := by have := hm40.out; unfold wrap64; omega
  by_cases hlt : 3 * (m : Int) < 4 * R
  · have hltb : decide (3 * (m : Int) < 4 * R) = true := decide_eq_true hlt
    have hk : Aside0 (∃ k1, gk = k1 + 1) := ⟨by
      obtain ⟨e, he, hek⟩ := HM.out
      cases gk with
      | succ k => exact ⟨k, rfl⟩
      | zero =>
        have : e = 40 := by omega
        rw [this] at he; have := HR.out
        omega⟩
    clear hlt
    go_wp2_with fail
    obtain ⟨k1, hk1⟩ := hk.out
    go_roundg k1
    case measure => omega
    case rel =>
      have hw : wrap64 ((m : Int) * 2) = ((m * 2 : Nat) : Int) := by have := hm40.out; unfold wrap64; omega
      obtain ⟨e, he, hek⟩ := HM.out; exact ⟨m * 2, by rw [hw], ⟨rfl⟩, ⟨e + 1, by rw [he, Nat.pow_succ], by omega⟩⟩
  have hltb : decide (3 * (m : Int) < 4 * R) = false := decide_eq_false hlt; clear hlt
  go_wp2_with fail
  rw [make60 wr m hm40.out]; simp only [Result.andThen]; rw [Oper.upon_value]; obtain ⟨g2, hg2⟩ : ∃ g2, wr.heap.size = g2 := ⟨_, rfl⟩; rw [hg2]; obtain ⟨W2, hW2⟩ : ∃ W2, wr.alloc (.cells (fs (List.replicate m z72)).toArray 72) = W2 := ⟨_, rfl⟩; rw [hW2]; have B2 := Aside0.mk (show Below wr.heap.size wr W2 from hW2 ▸ zA (Below.refl _ wr) _); have G2 := Aside0.mk (show W2.heap[g2]? = some (.cells (fs (List.replicate m z72)).toArray 72 (0, 0)) from by rw [← hW2, ← hg2]; exact heap_alloc_new wr _); have L2 := Aside0.mk (show g2 = wr.heap.size ∧ p < wr.heap.size from ⟨hg2.symm, blk_lt X1.out⟩); have P2 := Aside0.mk (blk_below X1.out B2.out); clear hg2 hW2 hltb ha hR hw4 hw3; have fz := zR P2.out 0; have hp0 : W2.cell? ⟨p, 0, none⟩ = some (.slice none 0 0) := (zC P2.out 0).trans rfl
  go_wp2_with fail
  refine bodyPost_ret (results_tmp rfl _ _ _) rfl ?_
  have hpg : p ≠ g2 := by have := L2.out; omega
  have hsz := B1.out.size; have hB := (B1.out.trans (B2.out.mono hsz)).setCell (p := ⟨p, 0, none⟩) (by have := G1.out; show W.heap.size ≤ p; omega) (.slice (some ⟨g2, 0, none⟩) m m); refine ⟨p, rfl, hB, g2, List.replicate m z72, 0, ⟨?_, ?_, ?_, ?_⟩, OK.fresh m ?_, by omega⟩; (rw [List.length_replicate]; exact zP P2.out 0 _ rfl); (exact zG G2.out (p := ⟨p, 0, none⟩) (Ne.symm hpg) _); (have := G1.out; omega); (have := L2.out; omega); (obtain ⟨e, he, hek⟩ := HM.out; exact ⟨e, he, by omega⟩)
end Go.Proofs.Ytelacebdmmanhaa.G
