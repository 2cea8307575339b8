/- What the claim LawKidsPlan rests on, part 2 of 6: the kit's words, the printed walks, the walks by hand, the plain laws. -/
import Derived.Test.YtpekchebllobmaaB0
import Derived.Test.YtpekchebllobmaaB1
import Derived.Deep.DrawnRows
import Derived.Deep.AppendLies
import Derived.StillTailTactics
import Derived.IntWalk
namespace Go.Proofs.Ytpekchebllobmaa.G
open List renaming setIfInBounds_toArray → zt, set_cons_zero → zu, set_cons_succ → zv
open Bool renaming true → T, false → F
open Go.RowKit Go.Proofs.YtpekchebllobmaaW.PrintWords Go.Proofs.YtpekchebllobmaaW.PrintLast Go.Proofs.YtpekchebllobmaaW.PrintMore
attribute [local go_sem] max2_int min2_int max_two min_two max_three min_three max_four min_four
set_option linter.unusedVariables false
set_option linter.unusedSimpArgs false
attribute [local go_sem high] eqK50
mutual
def kids_Trim.j1 : Nat → List (S50) → List (S50) → Int → Option (Int × Int)
 | 0, _, _, _ => none
 | k + 1, x0, x1, x6 => if 0 ≤ x6 then (if x6 ≤ (x0.length : Int) then (if x6 ≤ (x1.length : Int) then (kids_Trim.l1 k (x0.drop (x6 : Int).toNat) (x1.drop (x6 : Int).toNat) x6 0) else (none)) else (none)) else (none)
def kids_Trim.l1 : Nat → List (S50) → List (S50) → Int → Int → Option (Int × Int)
 | 0, _, _, _, _ => none
 | k + 1, x0, x1, x6, x7 => if x7 < (mn (x0.length : Int) (x1.length : Int)) then (if 0 ≤ (wrap64 ((wrap64 ((x0.length : Int) - 1)) - x7)) then (if (wrap64 ((wrap64 ((x0.length : Int) - 1)) - x7)) < (x0.length : Int) then (if 0 ≤ (wrap64 ((wrap64 ((x1.length : Int) - 1)) - x7)) then (if (wrap64 ((wrap64 ((x1.length : Int) - 1)) - x7)) < (x1.length : Int) then (if (!((((rd_T50 x0 (wrap64 ((wrap64 ((x0.length : Int) - 1)) - x7))).f0).toList) == (((rd_T50 x1 (wrap64 ((wrap64 ((x1.length : Int) - 1)) - x7))).f0).toList)) || (!((((rd_T50 x0 (wrap64 ((wrap64 ((x0.length : Int) - 1)) - x7))).f1).toList) == (((rd_T50 x1 (wrap64 ((wrap64 ((x1.length : Int) - 1)) - x7))).f1).toList)) || (!(((rd_T50 x0 (wrap64 ((wrap64 ((x0.length : Int) - 1)) - x7))).f2) == ((rd_T50 x1 (wrap64 ((wrap64 ((x1.length : Int) - 1)) - x7))).f2))))) = true then (some (x6, x7)) else (kids_Trim.l1 k x0 x1 x6 (wrap64 (x7 + 1)))) else (none)) else (none)) else (none)) else (none)) else (some (x6, x7))
def kids_Trim.l0 : Nat → List (S50) → List (S50) → Int → Option (Int × Int)
 | 0, _, _, _ => none
 | k + 1, x0, x1, x6 => if x6 < (mn (x0.length : Int) (x1.length : Int)) then (if 0 ≤ x6 then (if x6 < (x0.length : Int) then (if x6 < (x1.length : Int) then (if ((((rd_T50 x0 x6).f0).toList) == (((rd_T50 x1 x6).f0).toList) && ((((rd_T50 x0 x6).f1).toList) == (((rd_T50 x1 x6).f1).toList) && (((rd_T50 x0 x6).f2) == ((rd_T50 x1 x6).f2)))) = true then (kids_Trim.l0 k x0 x1 (wrap64 (x6 + 1))) else (kids_Trim.j1 k x0 x1 x6)) else (none)) else (none)) else (none)) else (kids_Trim.j1 k x0 x1 x6)
end
def kids_Trim.f (k : Nat) (l0 : List (S50)) (l1 : List (S50)) : Option (Int × Int) := kids_Trim.l0 k l0 l1 0
theorem kids_Trim.mono_l : ∀ k, (∀ y0 y1 y2, LeO (kids_Trim.j1 k y0 y1 y2) (kids_Trim.j1 (k + 1) y0 y1 y2)) ∧ (∀ y0 y1 y2 y3, LeO (kids_Trim.l1 k y0 y1 y2 y3) (kids_Trim.l1 (k + 1) y0 y1 y2 y3)) ∧ (∀ y0 y1 y2, LeO (kids_Trim.l0 k y0 y1 y2) (kids_Trim.l0 (k + 1) y0 y1 y2))
 | 0 => ⟨fun _ _ _ r h => by simp [kids_Trim.j1] at h, fun _ _ _ _ r h => by simp [kids_Trim.l1] at h, fun _ _ _ r h => by simp [kids_Trim.l0] at h⟩
 | k + 1 => by
  obtain ⟨ih0, ih1, ih2⟩ := kids_Trim.mono_l k
  refine ⟨?_, ?_, ?_⟩
  ·
   intro y0 y1 y2
   unfold kids_Trim.j1
   with_reducible repeat' first | exact ih0 _ _ _ | exact ih1 _ _ _ _ | exact ih2 _ _ _ | exact LeO.refl _ | exact LeO.none _ | refine LeO.ite ?_ ?_ | refine LeO.bind ?_ (fun _ => ?_)
  ·
   intro y0 y1 y2 y3
   unfold kids_Trim.l1
   with_reducible repeat' first | exact ih0 _ _ _ | exact ih1 _ _ _ _ | exact ih2 _ _ _ | exact LeO.refl _ | exact LeO.none _ | refine LeO.ite ?_ ?_ | refine LeO.bind ?_ (fun _ => ?_)
  ·
   intro y0 y1 y2
   unfold kids_Trim.l0
   with_reducible repeat' first | exact ih0 _ _ _ | exact ih1 _ _ _ _ | exact ih2 _ _ _ | exact LeO.refl _ | exact LeO.none _ | refine LeO.ite ?_ ?_ | refine LeO.bind ?_ (fun _ => ?_)
theorem kids_Trim.mono : ∀ a0 a1 k, LeO (kids_Trim.f k a0 a1) (kids_Trim.f (k + 1) a0 a1) := by
 intro a0 a1 k
 obtain ⟨ih0, ih1, ih2⟩ := kids_Trim.mono_l k
 unfold kids_Trim.f
 with_reducible repeat' first | exact ih0 _ _ _ | exact ih1 _ _ _ _ | exact ih2 _ _ _ | exact LeO.refl _ | exact LeO.none _ | refine LeO.ite ?_ ?_ | refine LeO.bind ?_ (fun _ => ?_)
set_option maxHeartbeats 8000000 in
set_option maxRecDepth 100000 in
theorem kids_Trim.calls (k : Nat) (A0 : Option Addr) (c0 : Nat) (l0 : List (S50)) (A1 : Option Addr) (c1 : Nat) (l1 : List (S50)) (r1 : Int) (r2 : Int) (w : World) (hr0 : Kd.C k50 w A0 l0.length l0) (hc0 : l0.length ≤ c0) (hr1 : Kd.C k50 w A1 l1.length l1) (hc1 : l1.length ≤ c1) (h : kids_Trim.f k l0 l1 = some (r1, r2)) :
  Calls Try.prog 9 #[.slice A0 l0.length c0, .slice A1 l1.length c1] w fun e w' => e = .returned (.tuple #[.int .i64 r1, .int .i64 r2]) ∧ Below w.heap.size w w' := by
 have hu50 := Try.underlying50
 have HR0 := Aside0.mk hr0
 have HC0 := Aside0.mk hc0
 clear hr0 hc0
 have HR1 := Aside0.mk hr1
 have HC1 := Aside0.mk hc1
 clear hr1 hc1
 have HB := Aside0.mk (Below.refl w.heap.size w)
 have H : (kids_Trim.l0 k l0 l1 0) = some (r1, r2) := h
 clear h
 have HC3 := Aside0.mk H
 clear H
 go_enter Try.func9, Try.ntmps9
 (try go_step3)
 go_upto_block 0 with (fail)
 (try (go_step3; go_upto_block 0 with (fail)))
 repeat (go_quiet (fail); go_upto_block 0 with (fail))
 go_cut [6] (fun v6 wc => ∃ (kq : Nat) (x6_2 : Int), v6 = .int .i64 x6_2 ∧ Aside0 (kids_Trim.j1 kq l0 l1 x6_2 = some (r1, r2)) ∧ Aside0 (kq ≤ k) ∧ Aside0 (Below w.heap.size w wc))
 case first =>
  have H := HC3.out; clear HC3; have H' := Aside0.mk H; clear H; go_wp2
  iterate 3 (try (go_step3; try go_wp2))
  repeat (go_quiet (fail); try (go_wp2; iterate 3 (try (go_step3; try go_wp2))))
  go_loopg [6] k (fun kq v6 w' => ∃ (x6_1 : Int), v6 = .int .i64 x6_1 ∧ Aside0 (kids_Trim.l0 kq l0 l1 x6_1 = some (r1, r2)) ∧ Aside0 (kq ≤ k) ∧ Aside0 (Below w.heap.size w w'))
  case atStart => exact ⟨(0), (by first | rfl | (simp; done) | (simp [*]; done)), H', ⟨Nat.le_refl _⟩, ⟨by with_reducible repeat first | exact HB.out | apply zA | apply zN | apply zD⟩⟩
  case round =>
   clear H'; (try clear c1); (try clear p2); obtain ⟨x6_1, rfl, HA, HK1, HB⟩ := hrel
   cases gk with
   | zero => exact absurd HA.out (by simp [kids_Trim.l0])
   | succ k1 =>
    have H := HA.out; clear HA; simp only [kids_Trim.l0] at H; obtain ⟨ji4, hji4⟩ : ∃ j_ : Int, (mn (l0.length : Int) (l1.length : Int)) = j_ := ⟨_, rfl⟩
    replace H : (if x6_1 < (ji4) then (if 0 ≤ x6_1 then (if x6_1 < (l0.length : Int) then (if x6_1 < (l1.length : Int) then (if ((((rd_T50 l0 x6_1).f0).toList) == (((rd_T50 l1 x6_1).f0).toList) && ((((rd_T50 l0 x6_1).f1).toList) == (((rd_T50 l1 x6_1).f1).toList) && (((rd_T50 l0 x6_1).f2) == ((rd_T50 l1 x6_1).f2)))) = true then (kids_Trim.l0 k1 l0 l1 (wrap64 (x6_1 + 1))) else (kids_Trim.j1 k1 l0 l1 x6_1)) else (none)) else (none)) else (none)) else (kids_Trim.j1 k1 l0 l1 x6_1)) = some (r1, r2) := by first | (rw [hji4] at H; exact H) | (simp only [hji4] at H ⊢; exact H)
    have hji4_ : (if (l1.length : Int) < (l0.length : Int) then (l1.length : Int) else (l0.length : Int)) = ji4 := hji4
    have hji4n_ : (if l1.length < l0.length then (l1.length : Int) else (l0.length : Int)) = ji4 := by have h_ := hji4_; simpa only [Int.ofNat_lt] using h_
    by_cases c5 : x6_1 < (ji4)
    ·
     rw [if_pos c5] at H; have c5b0 := decide_eq_true c5; clear c5
     (first | rw [c5b0] | (simp only [i64_w, i32_w]; rw [c5b0]) | skip)
     by_cases c6 : 0 ≤ x6_1
     ·
      rw [if_pos c6] at H; have c6b0 := decide_eq_true c6; clear c6
      by_cases c7 : x6_1 < (l0.length : Int)
      ·
       rw [if_pos c7] at H; have c7b0 := decide_eq_true c7; clear c7
       by_cases c8 : x6_1 < (l1.length : Int)
       ·
        rw [if_pos c8] at H; have c8b0 := decide_eq_true c8; clear c8
        by_cases c9 : ((((rd_T50 l0 x6_1).f0).toList) == (((rd_T50 l1 x6_1).f0).toList) && ((((rd_T50 l0 x6_1).f1).toList) == (((rd_T50 l1 x6_1).f1).toList) && (((rd_T50 l0 x6_1).f2) == ((rd_T50 l1 x6_1).f2)))) = true
        ·
         rw [if_pos c9] at H; have c9b0 : ((((rd_T50 l0 x6_1).f0).toList) == (((rd_T50 l1 x6_1).f0).toList) && ((((rd_T50 l0 x6_1).f1).toList) == (((rd_T50 l1 x6_1).f1).toList) && (((rd_T50 l0 x6_1).f2) == ((rd_T50 l1 x6_1).f2)))) = true := c9
         (try (have c9b1 : decide ((((rd_T50 l0 x6_1).f0).toList) = (((rd_T50 l1 x6_1).f0).toList) && ((((rd_T50 l0 x6_1).f1).toList) == (((rd_T50 l1 x6_1).f1).toList) && (((rd_T50 l0 x6_1).f2) == ((rd_T50 l1 x6_1).f2)))) = true := by simpa using c9))
         (try (have c9b2 : ((((rd_T50 l0 x6_1).f0).toList) == (((rd_T50 l1 x6_1).f0).toList) && ((((rd_T50 l0 x6_1).f1).toList) == (((rd_T50 l1 x6_1).f1).toList) && (((rd_T50 l0 x6_1).f2) == ((rd_T50 l1 x6_1).f2)))) = true := by simpa using c9))
         clear c9; have H' := Aside0.mk H; clear H; have p115 : 0 ≤ (x6_1 : Int) := of_decide_eq_true (by assumption); have q115 : x6_1 < (l0.length : Int) := of_decide_eq_true (by assumption); obtain ⟨ad115, e115, hx115_0, hx115_1, hx115_2⟩ := at_T50 HR0.out x6_1 p115 q115; cases e115; replace hx115_0 := zB HB hx115_0; replace hx115_1 := zB HB hx115_1; replace hx115_2 := zB HB hx115_2; replace p115 := eq_true p115; replace q115 := eq_true q115; have p116 : 0 ≤ (x6_1 : Int) := of_decide_eq_true (by assumption); have q116 : x6_1 < (l1.length : Int) := of_decide_eq_true (by assumption); obtain ⟨ad116, e116, hx116_0, hx116_1, hx116_2⟩ := at_T50 HR1.out x6_1 p116 q116; cases e116; replace hx116_0 := zB HB hx116_0; replace hx116_1 := zB HB hx116_1; replace hx116_2 := zB HB hx116_2; replace p116 := eq_true p116; replace q116 := eq_true q116
         go_upto_region 2 with (fail)
         refine start_ (n := 18) (S := (fun w' => w'.cell? (ad115.add (x6_1.toNat * 3)) = some (.string (rd_T50 l0 x6_1).f0) ∧ w'.cell? ⟨(ad115.add (x6_1.toNat * 3)).block, (ad115.add (x6_1.toNat * 3)).off + 1, none⟩ = some (.string (rd_T50 l0 x6_1).f1) ∧ w'.cell? ⟨(ad115.add (x6_1.toNat * 3)).block, (ad115.add (x6_1.toNat * 3)).off + 2, none⟩ = some (.int .i64 (rd_T50 l0 x6_1).f2) ∧ w'.cell? (ad116.add (x6_1.toNat * 3)) = some (.string (rd_T50 l1 x6_1).f0) ∧ w'.cell? ⟨(ad116.add (x6_1.toNat * 3)).block, (ad116.add (x6_1.toNat * 3)).off + 1, none⟩ = some (.string (rd_T50 l1 x6_1).f1) ∧ w'.cell? ⟨(ad116.add (x6_1.toNat * 3)).block, (ad116.add (x6_1.toNat * 3)).off + 2, none⟩ = some (.int .i64 (rd_T50 l1 x6_1).f2))) (ds := []) #[F,F,F,F,F,F,F,F,F,F,F,F,F,F,F,F,F,F] (by kernel_rfl) rfl rfl ?_ ?_
         · (first | exact ⟨by assumption, by assumption, by assumption, by assumption, by assumption, by assumption⟩ | assumption)
         intro hHeld; refine pure_ (i := 0) (N := some 8) (v := ?_) (a' := ?_) #[T,F,F,F,F,F,F,F,F,F,F,F,F,F,F,F,F,F] rfl rfl (by kernel_rfl) (fun _ _ _ h => h) (Or.inl ⟨by rfl, ?_⟩) ?_ ?_; rotate_left; (intro w'; go_simp; (with_reducible rfl)); rotate_left; (simp only [Act.put, zt, zu, zv, i64_w, i32_w]; rfl); refine pure_ (i := 1) (N := some 9) (v := ?_) (a' := ?_) #[T,T,F,F,F,F,F,F,F,F,F,F,F,F,F,F,F,F] rfl rfl (by kernel_rfl) (fun _ _ _ h => h) (Or.inl ⟨by rfl, ?_⟩) ?_ ?_; rotate_left; (intro w'; go_simp; (with_reducible rfl)); rotate_left; (simp only [Act.put, zt, zu, zv, i64_w, i32_w]; rfl); refine pure_ (i := 2) (N := some 10) (v := ?_) (a' := ?_) #[T,T,T,F,F,F,F,F,F,F,F,F,F,F,F,F,F,F] rfl rfl (by kernel_rfl) (fun _ _ _ h => h) (Or.inl ⟨by rfl, ?_⟩) ?_ ?_; rotate_left; (intro w'; go_simp; (with_reducible rfl)); rotate_left; (simp only [Act.put, zt, zu, zv, i64_w, i32_w]; rfl); refine pure_ (i := 3) (N := some 11) (v := ?_) (a' := ?_) #[T,T,T,T,F,F,F,F,F,F,F,F,F,F,F,F,F,F] rfl rfl (by kernel_rfl) (fun _ _ _ h => h) (Or.inl ⟨by rfl, ?_⟩) ?_ ?_; rotate_left; (intro w'; go_simp; (with_reducible rfl)); rotate_left; (simp only [Act.put, zt, zu, zv, i64_w, i32_w]; rfl); refine pure_ (i := 4) (N := some 12) (v := ?_) (a' := ?_) #[T,T,T,T,T,F,F,F,F,F,F,F,F,F,F,F,F,F] rfl rfl (by kernel_rfl) (fun _ _ _ h => h) (Or.inl ⟨by rfl, ?_⟩) ?_ ?_; rotate_left; (intro w'; go_simp; (with_reducible rfl)); rotate_left; (simp only [Act.put, zt, zu, zv, i64_w, i32_w]; rfl); refine pure_ (i := 5) (N := some 13) (v := ?_) (a' := ?_) #[T,T,T,T,T,T,F,F,F,F,F,F,F,F,F,F,F,F] rfl rfl (by kernel_rfl) (fun _ _ _ h => h) (Or.inl ⟨by rfl, ?_⟩) ?_ ?_; rotate_left; (intro w'; go_simp; (with_reducible rfl)); rotate_left; (simp only [Act.put, zt, zu, zv, i64_w, i32_w]; rfl); refine pure_ (i := 6) (N := some 14) (v := ?_) (a' := ?_) #[T,T,T,T,T,T,T,F,F,F,F,F,F,F,F,F,F,F] rfl rfl (by kernel_rfl) (fun _ _ _ h => h) (Or.inl ⟨by rfl, ?_⟩) ?_ ?_; rotate_left; (intro w'; go_simp; (with_reducible rfl)); rotate_left; (simp only [Act.put, zt, zu, zv, i64_w, i32_w]; rfl); refine pure_ (i := 7) (N := some 15) (v := ?_) (a' := ?_) #[T,T,T,T,T,T,T,T,F,F,F,F,F,F,F,F,F,F] rfl rfl (by kernel_rfl) (fun _ _ _ h => h) (Or.inl ⟨by rfl, ?_⟩) ?_ ?_; rotate_left; (intro w'; go_simp; (with_reducible rfl)); rotate_left; (simp only [Act.put, zt, zu, zv, i64_w, i32_w]; rfl); refine pure_ (i := 8) (N := some 16) (v := ?_) (a' := ?_) #[T,T,T,T,T,T,T,T,T,F,F,F,F,F,F,F,F,F] rfl rfl (by kernel_rfl) (fun _ _ _ h => h) (Or.inl ⟨by rfl, ?_⟩) ?_ ?_; rotate_left; (intro w'; go_simp; (with_reducible rfl)); rotate_left; (simp only [Act.put, zt, zu, zv, i64_w, i32_w]; rfl); refine pure_ (i := 9) (N := some 17) (v := ?_) (a' := ?_) #[T,T,T,T,T,T,T,T,T,T,F,F,F,F,F,F,F,F] rfl rfl (by kernel_rfl) (fun _ _ _ h => h) (Or.inl ⟨by rfl, ?_⟩) ?_ ?_; rotate_left; (intro w'; go_simp; (with_reducible rfl)); rotate_left; (simp only [Act.put, zt, zu, zv, i64_w, i32_w]; rfl); refine pure_ (i := 10) (N := some 18) (v := ?_) (a' := ?_) #[T,T,T,T,T,T,T,T,T,T,T,F,F,F,F,F,F,F] rfl rfl (by kernel_rfl) (fun _ _ _ h => h) (Or.inl ⟨by rfl, ?_⟩) ?_ ?_; rotate_left; (intro w'; go_simp; (with_reducible rfl)); rotate_left; (simp only [Act.put, zt, zu, zv, i64_w, i32_w]; rfl); refine pure_ (i := 12) (N := some 20) (v := ?_) (a' := ?_) #[T,T,T,T,T,T,T,T,T,T,T,F,T,F,F,F,F,F] rfl rfl (by kernel_rfl) (fun _ _ _ h => h) (Or.inl ⟨by rfl, ?_⟩) ?_ ?_; rotate_left; (intro w'; go_simp; (with_reducible rfl)); rotate_left; (simp only [Act.put, zt, zu, zv, i64_w, i32_w]; rfl); refine pure_ (i := 13) (N := some 21) (v := ?_) (a' := ?_) #[T,T,T,T,T,T,T,T,T,T,T,F,T,T,F,F,F,F] rfl rfl (by kernel_rfl) (fun _ _ _ h => h) (Or.inl ⟨by rfl, ?_⟩) ?_ ?_; rotate_left; (intro w'; go_simp; (with_reducible rfl)); rotate_left; (simp only [Act.put, zt, zu, zv, i64_w, i32_w]; rfl); refine pure_ (i := 14) (N := some 22) (v := ?_) (a' := ?_) #[T,T,T,T,T,T,T,T,T,T,T,F,T,T,T,F,F,F] rfl rfl (by kernel_rfl) (fun _ _ _ h => h) (Or.inl ⟨by rfl, ?_⟩) ?_ ?_; rotate_left; (intro w'; go_simp; (with_reducible rfl)); rotate_left; (simp only [Act.put, zt, zu, zv, i64_w, i32_w]; rfl); refine take_ (i := 11) (N := some 19) (v := ?_) (a' := ?_) #[T,T,T,T,T,T,T,T,T,T,T,T,T,T,T,F,F,F] rfl rfl (by kernel_rfl) (fun _ _ _ h => h) (Or.inl ⟨by rfl, ?_⟩) hHeld ?_ ?_; rotate_left; (rintro w' ⟨s0, s1, s2, s3, s4, s5⟩; go_simp; (with_reducible rfl)); rotate_left; (simp only [Act.put, zt, zu, zv, i64_w, i32_w]; rfl); refine take_ (i := 15) (N := some 23) (v := ?_) (a' := ?_) #[T,T,T,T,T,T,T,T,T,T,T,T,T,T,T,T,F,F] rfl rfl (by kernel_rfl) (fun _ _ _ h => h) (Or.inl ⟨by rfl, ?_⟩) hHeld ?_ ?_; rotate_left; (rintro w' ⟨s0, s1, s2, s3, s4, s5⟩; go_simp; (with_reducible rfl)); rotate_left; (simp only [Act.put, zt, zu, zv, i64_w, i32_w]; rfl); refine pure_ (i := 16) (N := some 24) (v := ?_) (a' := ?_) #[T,T,T,T,T,T,T,T,T,T,T,T,T,T,T,T,T,F] rfl rfl (by kernel_rfl) (fun _ _ _ h => h) (Or.inl ⟨by rfl, ?_⟩) ?_ ?_; rotate_left; (intro w'; go_simp; (with_reducible rfl)); rotate_left; (simp only [Act.put, zt, zu, zv, i64_w, i32_w]; rfl); refine pure_ (i := 17) (N := some 25) (v := ?_) (a' := ?_) #[T,T,T,T,T,T,T,T,T,T,T,T,T,T,T,T,T,T] rfl rfl (by kernel_rfl) (fun _ _ _ h => h) (Or.inl ⟨by rfl, ?_⟩) ?_ ?_; rotate_left; (intro w'; go_simp; (with_reducible rfl)); rotate_left; (simp only [Act.put, zt, zu, zv, i64_w, i32_w]; rfl); refine done_ (by kernel_rfl) ?_
         go_wp2_with fail
         go_roundg k1
         case measure => have := HK1.out; omega
         case rel => exact ⟨(wrap64 (x6_1 + 1)), (by first | rfl | (simp; done) | (simp [*]; done)), H', ⟨by have := HK1.out; omega⟩, ⟨by with_reducible repeat first | exact HB.out | apply zA | apply zN | apply zD⟩⟩
        ·
         rw [if_neg c9] at H
         have c9b0 : ((((rd_T50 l0 x6_1).f0).toList) == (((rd_T50 l1 x6_1).f0).toList) && ((((rd_T50 l0 x6_1).f1).toList) == (((rd_T50 l1 x6_1).f1).toList) && (((rd_T50 l0 x6_1).f2) == ((rd_T50 l1 x6_1).f2)))) = false := by simpa using c9
         (try (have c9b1 : decide ((((rd_T50 l0 x6_1).f0).toList) = (((rd_T50 l1 x6_1).f0).toList) && ((((rd_T50 l0 x6_1).f1).toList) == (((rd_T50 l1 x6_1).f1).toList) && (((rd_T50 l0 x6_1).f2) == ((rd_T50 l1 x6_1).f2)))) = false := by simpa using c9))
         (try (have c9b2 : ((((rd_T50 l0 x6_1).f0).toList) == (((rd_T50 l1 x6_1).f0).toList) && ((((rd_T50 l0 x6_1).f1).toList) == (((rd_T50 l1 x6_1).f1).toList) && (((rd_T50 l0 x6_1).f2) == ((rd_T50 l1 x6_1).f2)))) = false := by simpa using c9))
         (try (have c9b3 : ¬ ((((rd_T50 l0 x6_1).f0).toList) = (((rd_T50 l1 x6_1).f0).toList) && ((((rd_T50 l0 x6_1).f1).toList) == (((rd_T50 l1 x6_1).f1).toList) && (((rd_T50 l0 x6_1).f2) == ((rd_T50 l1 x6_1).f2)))) := by simpa using c9))
         clear c9; have H' := Aside0.mk H; clear H; have p115 : 0 ≤ (x6_1 : Int) := of_decide_eq_true (by assumption); have q115 : x6_1 < (l0.length : Int) := of_decide_eq_true (by assumption); obtain ⟨ad115, e115, hx115_0, hx115_1, hx115_2⟩ := at_T50 HR0.out x6_1 p115 q115; cases e115; replace hx115_0 := zB HB hx115_0; replace hx115_1 := zB HB hx115_1; replace hx115_2 := zB HB hx115_2; replace p115 := eq_true p115; replace q115 := eq_true q115; have p116 : 0 ≤ (x6_1 : Int) := of_decide_eq_true (by assumption); have q116 : x6_1 < (l1.length : Int) := of_decide_eq_true (by assumption); obtain ⟨ad116, e116, hx116_0, hx116_1, hx116_2⟩ := at_T50 HR1.out x6_1 p116 q116; cases e116; replace hx116_0 := zB HB hx116_0; replace hx116_1 := zB HB hx116_1; replace hx116_2 := zB HB hx116_2; replace p116 := eq_true p116; replace q116 := eq_true q116
         go_upto_region 2 with (fail)
         refine start_ (n := 18) (S := (fun w' => w'.cell? (ad115.add (x6_1.toNat * 3)) = some (.string (rd_T50 l0 x6_1).f0) ∧ w'.cell? ⟨(ad115.add (x6_1.toNat * 3)).block, (ad115.add (x6_1.toNat * 3)).off + 1, none⟩ = some (.string (rd_T50 l0 x6_1).f1) ∧ w'.cell? ⟨(ad115.add (x6_1.toNat * 3)).block, (ad115.add (x6_1.toNat * 3)).off + 2, none⟩ = some (.int .i64 (rd_T50 l0 x6_1).f2) ∧ w'.cell? (ad116.add (x6_1.toNat * 3)) = some (.string (rd_T50 l1 x6_1).f0) ∧ w'.cell? ⟨(ad116.add (x6_1.toNat * 3)).block, (ad116.add (x6_1.toNat * 3)).off + 1, none⟩ = some (.string (rd_T50 l1 x6_1).f1) ∧ w'.cell? ⟨(ad116.add (x6_1.toNat * 3)).block, (ad116.add (x6_1.toNat * 3)).off + 2, none⟩ = some (.int .i64 (rd_T50 l1 x6_1).f2))) (ds := []) #[F,F,F,F,F,F,F,F,F,F,F,F,F,F,F,F,F,F] (by kernel_rfl) rfl rfl ?_ ?_
         · (first | exact ⟨by assumption, by assumption, by assumption, by assumption, by assumption, by assumption⟩ | assumption)
         intro hHeld; refine pure_ (i := 0) (N := some 8) (v := ?_) (a' := ?_) #[T,F,F,F,F,F,F,F,F,F,F,F,F,F,F,F,F,F] rfl rfl (by kernel_rfl) (fun _ _ _ h => h) (Or.inl ⟨by rfl, ?_⟩) ?_ ?_; rotate_left; (intro w'; go_simp; (with_reducible rfl)); rotate_left; (simp only [Act.put, zt, zu, zv, i64_w, i32_w]; rfl); refine pure_ (i := 1) (N := some 9) (v := ?_) (a' := ?_) #[T,T,F,F,F,F,F,F,F,F,F,F,F,F,F,F,F,F] rfl rfl (by kernel_rfl) (fun _ _ _ h => h) (Or.inl ⟨by rfl, ?_⟩) ?_ ?_; rotate_left; (intro w'; go_simp; (with_reducible rfl)); rotate_left; (simp only [Act.put, zt, zu, zv, i64_w, i32_w]; rfl); refine pure_ (i := 2) (N := some 10) (v := ?_) (a' := ?_) #[T,T,T,F,F,F,F,F,F,F,F,F,F,F,F,F,F,F] rfl rfl (by kernel_rfl) (fun _ _ _ h => h) (Or.inl ⟨by rfl, ?_⟩) ?_ ?_; rotate_left; (intro w'; go_simp; (with_reducible rfl)); rotate_left; (simp only [Act.put, zt, zu, zv, i64_w, i32_w]; rfl); refine pure_ (i := 3) (N := some 11) (v := ?_) (a' := ?_) #[T,T,T,T,F,F,F,F,F,F,F,F,F,F,F,F,F,F] rfl rfl (by kernel_rfl) (fun _ _ _ h => h) (Or.inl ⟨by rfl, ?_⟩) ?_ ?_; rotate_left; (intro w'; go_simp; (with_reducible rfl)); rotate_left; (simp only [Act.put, zt, zu, zv, i64_w, i32_w]; rfl); refine pure_ (i := 4) (N := some 12) (v := ?_) (a' := ?_) #[T,T,T,T,T,F,F,F,F,F,F,F,F,F,F,F,F,F] rfl rfl (by kernel_rfl) (fun _ _ _ h => h) (Or.inl ⟨by rfl, ?_⟩) ?_ ?_; rotate_left; (intro w'; go_simp; (with_reducible rfl)); rotate_left; (simp only [Act.put, zt, zu, zv, i64_w, i32_w]; rfl); refine pure_ (i := 5) (N := some 13) (v := ?_) (a' := ?_) #[T,T,T,T,T,T,F,F,F,F,F,F,F,F,F,F,F,F] rfl rfl (by kernel_rfl) (fun _ _ _ h => h) (Or.inl ⟨by rfl, ?_⟩) ?_ ?_; rotate_left; (intro w'; go_simp; (with_reducible rfl)); rotate_left; (simp only [Act.put, zt, zu, zv, i64_w, i32_w]; rfl); refine pure_ (i := 6) (N := some 14) (v := ?_) (a' := ?_) #[T,T,T,T,T,T,T,F,F,F,F,F,F,F,F,F,F,F] rfl rfl (by kernel_rfl) (fun _ _ _ h => h) (Or.inl ⟨by rfl, ?_⟩) ?_ ?_; rotate_left; (intro w'; go_simp; (with_reducible rfl)); rotate_left; (simp only [Act.put, zt, zu, zv, i64_w, i32_w]; rfl); refine pure_ (i := 7) (N := some 15) (v := ?_) (a' := ?_) #[T,T,T,T,T,T,T,T,F,F,F,F,F,F,F,F,F,F] rfl rfl (by kernel_rfl) (fun _ _ _ h => h) (Or.inl ⟨by rfl, ?_⟩) ?_ ?_; rotate_left; (intro w'; go_simp; (with_reducible rfl)); rotate_left; (simp only [Act.put, zt, zu, zv, i64_w, i32_w]; rfl); refine pure_ (i := 8) (N := some 16) (v := ?_) (a' := ?_) #[T,T,T,T,T,T,T,T,T,F,F,F,F,F,F,F,F,F] rfl rfl (by kernel_rfl) (fun _ _ _ h => h) (Or.inl ⟨by rfl, ?_⟩) ?_ ?_; rotate_left; (intro w'; go_simp; (with_reducible rfl)); rotate_left; (simp only [Act.put, zt, zu, zv, i64_w, i32_w]; rfl); refine pure_ (i := 9) (N := some 17) (v := ?_) (a' := ?_) #[T,T,T,T,T,T,T,T,T,T,F,F,F,F,F,F,F,F] rfl rfl (by kernel_rfl) (fun _ _ _ h => h) (Or.inl ⟨by rfl, ?_⟩) ?_ ?_; rotate_left; (intro w'; go_simp; (with_reducible rfl)); rotate_left; (simp only [Act.put, zt, zu, zv, i64_w, i32_w]; rfl); refine pure_ (i := 10) (N := some 18) (v := ?_) (a' := ?_) #[T,T,T,T,T,T,T,T,T,T,T,F,F,F,F,F,F,F] rfl rfl (by kernel_rfl) (fun _ _ _ h => h) (Or.inl ⟨by rfl, ?_⟩) ?_ ?_; rotate_left; (intro w'; go_simp; (with_reducible rfl)); rotate_left; (simp only [Act.put, zt, zu, zv, i64_w, i32_w]; rfl); refine pure_ (i := 12) (N := some 20) (v := ?_) (a' := ?_) #[T,T,T,T,T,T,T,T,T,T,T,F,T,F,F,F,F,F] rfl rfl (by kernel_rfl) (fun _ _ _ h => h) (Or.inl ⟨by rfl, ?_⟩) ?_ ?_; rotate_left; (intro w'; go_simp; (with_reducible rfl)); rotate_left; (simp only [Act.put, zt, zu, zv, i64_w, i32_w]; rfl); refine pure_ (i := 13) (N := some 21) (v := ?_) (a' := ?_) #[T,T,T,T,T,T,T,T,T,T,T,F,T,T,F,F,F,F] rfl rfl (by kernel_rfl) (fun _ _ _ h => h) (Or.inl ⟨by rfl, ?_⟩) ?_ ?_; rotate_left; (intro w'; go_simp; (with_reducible rfl)); rotate_left; (simp only [Act.put, zt, zu, zv, i64_w, i32_w]; rfl); refine pure_ (i := 14) (N := some 22) (v := ?_) (a' := ?_) #[T,T,T,T,T,T,T,T,T,T,T,F,T,T,T,F,F,F] rfl rfl (by kernel_rfl) (fun _ _ _ h => h) (Or.inl ⟨by rfl, ?_⟩) ?_ ?_; rotate_left; (intro w'; go_simp; (with_reducible rfl)); rotate_left; (simp only [Act.put, zt, zu, zv, i64_w, i32_w]; rfl); refine take_ (i := 11) (N := some 19) (v := ?_) (a' := ?_) #[T,T,T,T,T,T,T,T,T,T,T,T,T,T,T,F,F,F] rfl rfl (by kernel_rfl) (fun _ _ _ h => h) (Or.inl ⟨by rfl, ?_⟩) hHeld ?_ ?_; rotate_left; (rintro w' ⟨s0, s1, s2, s3, s4, s5⟩; go_simp; (with_reducible rfl)); rotate_left; (simp only [Act.put, zt, zu, zv, i64_w, i32_w]; rfl); refine take_ (i := 15) (N := some 23) (v := ?_) (a' := ?_) #[T,T,T,T,T,T,T,T,T,T,T,T,T,T,T,T,F,F] rfl rfl (by kernel_rfl) (fun _ _ _ h => h) (Or.inl ⟨by rfl, ?_⟩) hHeld ?_ ?_; rotate_left; (rintro w' ⟨s0, s1, s2, s3, s4, s5⟩; go_simp; (with_reducible rfl)); rotate_left; (simp only [Act.put, zt, zu, zv, i64_w, i32_w]; rfl); refine pure_ (i := 16) (N := some 24) (v := ?_) (a' := ?_) #[T,T,T,T,T,T,T,T,T,T,T,T,T,T,T,T,T,F] rfl rfl (by kernel_rfl) (fun _ _ _ h => h) (Or.inl ⟨by rfl, ?_⟩) ?_ ?_; rotate_left; (intro w'; go_simp; (with_reducible rfl)); rotate_left; (simp only [Act.put, zt, zu, zv, i64_w, i32_w]; rfl); refine pure_ (i := 17) (N := some 25) (v := ?_) (a' := ?_) #[T,T,T,T,T,T,T,T,T,T,T,T,T,T,T,T,T,T] rfl rfl (by kernel_rfl) (fun _ _ _ h => h) (Or.inl ⟨by rfl, ?_⟩) ?_ ?_; rotate_left; (intro w'; go_simp; (with_reducible rfl)); rotate_left; (simp only [Act.put, zt, zu, zv, i64_w, i32_w]; rfl); refine done_ (by kernel_rfl) ?_
         go_wp2_with fail
         go_meet
         case rel => exact ⟨_, (x6_1), (by first | rfl | (simp; done) | (simp [*]; done)), H', ⟨by have := HK1.out; first | omega | exact Nat.le_refl _⟩, ⟨by with_reducible repeat first | exact HB.out | apply zA | apply zN | apply zD⟩⟩
       ·
        rw [if_neg c8] at H; exact absurd H (by simp)
      ·
       rw [if_neg c7] at H; exact absurd H (by simp)
     ·
      rw [if_neg c6] at H; exact absurd H (by simp)
    ·
     rw [if_neg c5] at H; have c5b0 := decide_eq_false c5; clear c5
     (first | rw [c5b0] | (simp only [i64_w, i32_w]; rw [c5b0]) | skip)
     have H' := Aside0.mk H; clear H
     go_upto_region 2 with (fail)
     refine start_ (n := 18) (S := (fun w' => True)) (ds := []) #[F,F,F,F,F,F,F,F,F,F,F,F,F,F,F,F,F,F] (by kernel_rfl) rfl rfl ?_ ?_
     · trivial
     intro hHeld; refine pure_ (i := 0) (N := some 8) (v := ?_) (a' := ?_) #[T,F,F,F,F,F,F,F,F,F,F,F,F,F,F,F,F,F] rfl rfl (by kernel_rfl) (fun _ _ _ h => h) (Or.inl ⟨by rfl, ?_⟩) ?_ ?_; rotate_left; (intro w'; go_simp; (with_reducible rfl)); rotate_left; (simp only [Act.put, zt, zu, zv, i64_w, i32_w]; rfl); refine pure_ (i := 1) (N := some 9) (v := ?_) (a' := ?_) #[T,T,F,F,F,F,F,F,F,F,F,F,F,F,F,F,F,F] rfl rfl (by kernel_rfl) (fun _ _ _ h => h) (Or.inl ⟨by rfl, ?_⟩) ?_ ?_; rotate_left; (intro w'; go_simp; (with_reducible rfl)); rotate_left; (simp only [Act.put, zt, zu, zv, i64_w, i32_w]; rfl); refine pure_ (i := 2) (N := some 10) (v := ?_) (a' := ?_) #[T,T,T,F,F,F,F,F,F,F,F,F,F,F,F,F,F,F] rfl rfl (by kernel_rfl) (fun _ _ _ h => h) (Or.inl ⟨by rfl, ?_⟩) ?_ ?_; rotate_left; (intro w'; go_simp; (with_reducible rfl)); rotate_left; (simp only [Act.put, zt, zu, zv, i64_w, i32_w]; rfl); refine pure_ (i := 3) (N := some 11) (v := ?_) (a' := ?_) #[T,T,T,T,F,F,F,F,F,F,F,F,F,F,F,F,F,F] rfl rfl (by kernel_rfl) (fun _ _ _ h => h) (Or.inl ⟨by rfl, ?_⟩) ?_ ?_; rotate_left; (intro w'; go_simp; (with_reducible rfl)); rotate_left; (simp only [Act.put, zt, zu, zv, i64_w, i32_w]; rfl); refine pure_ (i := 4) (N := some 12) (v := ?_) (a' := ?_) #[T,T,T,T,T,F,F,F,F,F,F,F,F,F,F,F,F,F] rfl rfl (by kernel_rfl) (fun _ _ _ h => h) (Or.inl ⟨by rfl, ?_⟩) ?_ ?_; rotate_left; (intro w'; go_simp; (with_reducible rfl)); rotate_left; (simp only [Act.put, zt, zu, zv, i64_w, i32_w]; rfl); refine pure_ (i := 5) (N := some 13) (v := ?_) (a' := ?_) #[T,T,T,T,T,T,F,F,F,F,F,F,F,F,F,F,F,F] rfl rfl (by kernel_rfl) (fun _ _ _ h => h) (Or.inl ⟨by rfl, ?_⟩) ?_ ?_; rotate_left; (intro w'; go_simp; (with_reducible rfl)); rotate_left; (simp only [Act.put, zt, zu, zv, i64_w, i32_w]; rfl); refine pure_ (i := 6) (N := some 14) (v := ?_) (a' := ?_) #[T,T,T,T,T,T,T,F,F,F,F,F,F,F,F,F,F,F] rfl rfl (by kernel_rfl) (fun _ _ _ h => h) (Or.inl ⟨by rfl, ?_⟩) ?_ ?_; rotate_left; (intro w'; go_simp; (with_reducible rfl)); rotate_left; (simp only [Act.put, zt, zu, zv, i64_w, i32_w]; rfl); refine pure_ (i := 7) (N := some 15) (v := ?_) (a' := ?_) #[T,T,T,T,T,T,T,T,F,F,F,F,F,F,F,F,F,F] rfl rfl (by kernel_rfl) (fun _ _ _ h => h) (Or.inl ⟨by rfl, ?_⟩) ?_ ?_; rotate_left; (intro w'; go_simp; (with_reducible rfl)); rotate_left; (simp only [Act.put, zt, zu, zv, i64_w, i32_w]; rfl); refine pure_ (i := 8) (N := some 16) (v := undef) (a' := ?_) #[T,T,T,T,T,T,T,T,T,F,F,F,F,F,F,F,F,F] rfl rfl (by kernel_rfl) (fun _ _ _ h => h) (Or.inr ⟨by rfl, rfl⟩) ?_ ?_; rotate_left; (simp only [Act.put, zt, zu, zv, i64_w, i32_w]; rfl); refine pure_ (i := 9) (N := some 17) (v := undef) (a' := ?_) #[T,T,T,T,T,T,T,T,T,T,F,F,F,F,F,F,F,F] rfl rfl (by kernel_rfl) (fun _ _ _ h => h) (Or.inr ⟨by rfl, rfl⟩) ?_ ?_; rotate_left; (simp only [Act.put, zt, zu, zv, i64_w, i32_w]; rfl); refine pure_ (i := 10) (N := some 18) (v := undef) (a' := ?_) #[T,T,T,T,T,T,T,T,T,T,T,F,F,F,F,F,F,F] rfl rfl (by kernel_rfl) (fun _ _ _ h => h) (Or.inr ⟨by rfl, rfl⟩) ?_ ?_; rotate_left; (simp only [Act.put, zt, zu, zv, i64_w, i32_w]; rfl); refine pure_ (i := 12) (N := some 20) (v := undef) (a' := ?_) #[T,T,T,T,T,T,T,T,T,T,T,F,T,F,F,F,F,F] rfl rfl (by kernel_rfl) (fun _ _ _ h => h) (Or.inr ⟨by rfl, rfl⟩) ?_ ?_; rotate_left; (simp only [Act.put, zt, zu, zv, i64_w, i32_w]; rfl); refine pure_ (i := 13) (N := some 21) (v := undef) (a' := ?_) #[T,T,T,T,T,T,T,T,T,T,T,F,T,T,F,F,F,F] rfl rfl (by kernel_rfl) (fun _ _ _ h => h) (Or.inr ⟨by rfl, rfl⟩) ?_ ?_; rotate_left; (simp only [Act.put, zt, zu, zv, i64_w, i32_w]; rfl); refine pure_ (i := 14) (N := some 22) (v := undef) (a' := ?_) #[T,T,T,T,T,T,T,T,T,T,T,F,T,T,T,F,F,F] rfl rfl (by kernel_rfl) (fun _ _ _ h => h) (Or.inr ⟨by rfl, rfl⟩) ?_ ?_; rotate_left; (simp only [Act.put, zt, zu, zv, i64_w, i32_w]; rfl); refine pure_ (i := 11) (N := some 19) (v := undef) (a' := ?_) #[T,T,T,T,T,T,T,T,T,T,T,T,T,T,T,F,F,F] rfl rfl (by kernel_rfl) (fun _ _ _ h => h) (Or.inr ⟨by rfl, rfl⟩) ?_ ?_; rotate_left; (simp only [Act.put, zt, zu, zv, i64_w, i32_w]; rfl); refine pure_ (i := 15) (N := some 23) (v := undef) (a' := ?_) #[T,T,T,T,T,T,T,T,T,T,T,T,T,T,T,T,F,F] rfl rfl (by kernel_rfl) (fun _ _ _ h => h) (Or.inr ⟨by rfl, rfl⟩) ?_ ?_; rotate_left; (simp only [Act.put, zt, zu, zv, i64_w, i32_w]; rfl); refine pure_ (i := 16) (N := some 24) (v := undef) (a' := ?_) #[T,T,T,T,T,T,T,T,T,T,T,T,T,T,T,T,T,F] rfl rfl (by kernel_rfl) (fun _ _ _ h => h) (Or.inr ⟨by rfl, rfl⟩) ?_ ?_; rotate_left; (simp only [Act.put, zt, zu, zv, i64_w, i32_w]; rfl); refine pure_ (i := 17) (N := some 25) (v := ?_) (a' := ?_) #[T,T,T,T,T,T,T,T,T,T,T,T,T,T,T,T,T,T] rfl rfl (by kernel_rfl) (fun _ _ _ h => h) (Or.inl ⟨by rfl, ?_⟩) ?_ ?_; rotate_left; (intro w'; go_simp; (with_reducible rfl)); rotate_left; (simp only [Act.put, zt, zu, zv, i64_w, i32_w]; rfl); refine done_ (by kernel_rfl) ?_
     go_wp2_with fail
     go_meet
     case rel => exact ⟨_, (x6_1), (by first | rfl | (simp; done) | (simp [*]; done)), H', ⟨by have := HK1.out; first | omega | exact Nat.le_refl _⟩, ⟨by with_reducible repeat first | exact HB.out | apply zA | apply zN | apply zD⟩⟩
 case rest =>
  clear HC3; (try clear c1); (try clear p1); (try clear q1); (try clear hx1); (try clear p2); (try clear c5); (try clear c5b0); (try clear c6); (try clear c6b0); (try clear p6); (try clear c7); (try clear c7b0); (try clear c8); (try clear c8b0); (try clear c9); (try clear c9b0); (try clear c9b1); (try clear c9b2); (try clear hx115_0); (try clear hx115_1); (try clear hx115_2); (try clear hx116_0); (try clear hx116_1); (try clear hx116_2); (try clear p115); (try clear p116); (try clear p2); (try clear q115); (try clear q116); obtain ⟨kq, x6_2, rfl, HA, HJ2, HB⟩ := hcut
  cases kq with
  | zero => exact absurd HA.out (by simp [kids_Trim.j1])
  | succ kj2 =>
   have H := HA.out; clear HA; simp only [kids_Trim.j1] at H
   by_cases c10 : 0 ≤ x6_2
   ·
    rw [if_pos c10] at H; have c10b0 := eq_true c10; have c10b1 := decide_eq_true c10; clear c10
    by_cases c11 : x6_2 ≤ (l0.length : Int)
    ·
     rw [if_pos c11] at H; have c11b0 := eq_true c11; have c11b1 := decide_eq_true c11; clear c11; obtain ⟨y117, hy117⟩ : ∃ y_ : List (S50), y_ = (l0.drop (x6_2 : Int).toNat) := ⟨_, rfl⟩
     replace H : (if x6_2 ≤ (l1.length : Int) then (kids_Trim.l1 kj2 y117 (l1.drop (x6_2 : Int).toNat) x6_2 0) else (none)) = some (r1, r2) := by first | (rw [hy117]; with_reducible exact H) | (have H2_ := (Option.bind_some _ _).symm.trans H; rw [hy117]; with_reducible exact H2_) | (have H2_ := (Option.bind_some _ _).symm.trans H; with_reducible exact H2_) | with_reducible exact H | (rw [hy117]; exact H) | exact H
     have Ny117 := Aside0.mk hy117; clear hy117; have c12b0 := eq_true (of_decide_eq_true (by assumption) : 0 ≤ x6_2)
     by_cases c13 : x6_2 ≤ (l1.length : Int)
     ·
      rw [if_pos c13] at H; have c13b0 := eq_true c13; have c13b1 := decide_eq_true c13; clear c13; obtain ⟨y121, hy121⟩ : ∃ y_ : List (S50), y_ = (l1.drop (x6_2 : Int).toNat) := ⟨_, rfl⟩
      replace H : (kids_Trim.l1 kj2 y117 y121 x6_2 0) = some (r1, r2) := by first | (rw [hy121]; with_reducible exact H) | (have H2_ := (Option.bind_some _ _).symm.trans H; rw [hy121]; with_reducible exact H2_) | (have H2_ := (Option.bind_some _ _).symm.trans H; with_reducible exact H2_) | with_reducible exact H | (rw [hy121]; exact H) | exact H
      have Ny121 := Aside0.mk hy121; clear hy121; have H' := Aside0.mk H; clear H; have q14 : (x6_2 : Int) ≤ ((l0.length : Int) : Int) := of_decide_eq_true (by assumption); obtain ⟨i014, hi014, _, hsz14, _⟩ := info_parts info50; have hroom14 : l0.length ≤ c0 := HC0.out; have hC14 : Kd.C k50 _ A0 l0.length l0 := HR0.out; have q014 : (0 : Int) ≤ (x6_2 : Int) := of_decide_eq_true (by assumption); have hcut14 := cut_from (P := Try.prog) 22 50 .i64 Try.underlying22 hi014 3 hsz14 A0 l0.length c0 x6_2 q014 q14; have hr14 := Kd.C_drop (m := (x6_2 : Int).toNat) (c := c0) hC14 (by omega) hroom14; obtain ⟨A14, hA14⟩ : ∃ A_, A_ = (if c0 = (x6_2 : Int).toNat then A0 else (A0 : Option Addr).map (·.add ((x6_2 : Int).toNat * 3))) := ⟨_, rfl⟩; obtain ⟨c14, hc14⟩ : ∃ c_, c_ = c0 - (x6_2 : Int).toNat := ⟨_, rfl⟩; have hy14 : y117.length = l0.length - (x6_2 : Int).toNat := (by rw [Ny117.out, List.length_drop] <;> omega); rw [show (l0).drop (x6_2 : Int).toNat = y117 from Ny117.out.symm] at hr14; replace hr14 : Kd.C k50 _ A14 y117.length y117 := (by rw [hA14]; exact hr14); rw [← hy14, ← hA14, ← hc14] at hcut14; have HR120 := Aside0.mk hr14; have HC120 := Aside0.mk (show y117.length ≤ c14 from by rw [hy14, hc14]; exact Nat.sub_le_sub_right hroom14 _); clear hr14 hC14 hroom14 hi014 hsz14 hc14; have KY14 := Aside0.mk hy14; have KA14 := Aside0.mk hA14; clear hy14 hA14; replace q14 := eq_true q14; have q15 : (x6_2 : Int) ≤ ((l1.length : Int) : Int) := of_decide_eq_true (by assumption); obtain ⟨i015, hi015, _, hsz15, _⟩ := info_parts info50; have hroom15 : l1.length ≤ c1 := HC1.out; have hC15 : Kd.C k50 _ A1 l1.length l1 := HR1.out; have q015 : (0 : Int) ≤ (x6_2 : Int) := of_decide_eq_true (by assumption); have hcut15 := cut_from (P := Try.prog) 22 50 .i64 Try.underlying22 hi015 3 hsz15 A1 l1.length c1 x6_2 q015 q15; have hr15 := Kd.C_drop (m := (x6_2 : Int).toNat) (c := c1) hC15 (by omega) hroom15; obtain ⟨A15, hA15⟩ : ∃ A_, A_ = (if c1 = (x6_2 : Int).toNat then A1 else (A1 : Option Addr).map (·.add ((x6_2 : Int).toNat * 3))) := ⟨_, rfl⟩; obtain ⟨c15, hc15⟩ : ∃ c_, c_ = c1 - (x6_2 : Int).toNat := ⟨_, rfl⟩; have hy15 : y121.length = l1.length - (x6_2 : Int).toNat := (by rw [Ny121.out, List.length_drop] <;> omega); rw [show (l1).drop (x6_2 : Int).toNat = y121 from Ny121.out.symm] at hr15; replace hr15 : Kd.C k50 _ A15 y121.length y121 := (by rw [hA15]; exact hr15); rw [← hy15, ← hA15, ← hc15] at hcut15; have HR124 := Aside0.mk hr15; have HC124 := Aside0.mk (show y121.length ≤ c15 from by rw [hy15, hc15]; exact Nat.sub_le_sub_right hroom15 _); clear hr15 hC15 hroom15 hi015 hsz15 hc15; have KY15 := Aside0.mk hy15; have KA15 := Aside0.mk hA15; clear hy15 hA15; replace q15 := eq_true q15; go_wp2
      iterate 3 (try (go_step3; try go_wp2))
      repeat (go_quiet (fail); try (go_wp2; iterate 3 (try (go_step3; try go_wp2))))
      go_loopg [7] kj2 (fun kq v7 w' => ∃ (x7_2 : Int), v7 = .int .i64 x7_2 ∧ Aside0 (kids_Trim.l1 kq y117 y121 x6_2 x7_2 = some (r1, r2)) ∧ Aside0 (kq ≤ kj2) ∧ Aside0 (Below w.heap.size w w'))
      case atStart => exact ⟨(0), (by first | rfl | (simp; done) | (simp [*]; done)), H', ⟨Nat.le_refl _⟩, ⟨by with_reducible repeat first | exact HB.out | apply zA | apply zN | apply zD⟩⟩
      case round =>
       clear H'; (try clear c1); (try clear p1); (try clear q1); (try clear hx1); (try clear p2); (try clear c5); (try clear c5b0); (try clear c6); (try clear c6b0); (try clear p6); (try clear c7); (try clear c7b0); (try clear c8); (try clear c8b0); (try clear c9); (try clear c9b0); (try clear c9b1); (try clear c9b2); (try clear c10); (try clear c10b0); (try clear c10b1); (try clear c11); (try clear c11b0); (try clear c11b1); (try clear p11); (try clear q11); (try clear hx11); (try clear c12); (try clear c12b0); (try clear c13); (try clear c13b0); (try clear c13b1); (try clear c14); (try clear q14); (try clear c15); (try clear q15); (try clear hx115_0); (try clear hx115_1); (try clear hx115_2); (try clear hx116_0); (try clear hx116_1); (try clear hx116_2); (try clear p1); (try clear p115); (try clear p116); (try clear p2); (try clear p6); (try clear q014); (try clear q015); (try clear q1); (try clear q115); (try clear q116); (try clear q14); (try clear q15); obtain ⟨x7_2, rfl, HA, HK2, HB⟩ := hrel
       cases gk with
       | zero => exact absurd HA.out (by simp [kids_Trim.l1])
       | succ k2 =>
        have H := HA.out; clear HA; simp only [kids_Trim.l1] at H; obtain ⟨ji16, hji16⟩ : ∃ j_ : Int, (mn (y117.length : Int) (y121.length : Int)) = j_ := ⟨_, rfl⟩
        replace H : (if x7_2 < (ji16) then (if 0 ≤ (wrap64 ((wrap64 ((y117.length : Int) - 1)) - x7_2)) then (if (wrap64 ((wrap64 ((y117.length : Int) - 1)) - x7_2)) < (y117.length : Int) then (if 0 ≤ (wrap64 ((wrap64 ((y121.length : Int) - 1)) - x7_2)) then (if (wrap64 ((wrap64 ((y121.length : Int) - 1)) - x7_2)) < (y121.length : Int) then (if (!((((rd_T50 y117 (wrap64 ((wrap64 ((y117.length : Int) - 1)) - x7_2))).f0).toList) == (((rd_T50 y121 (wrap64 ((wrap64 ((y121.length : Int) - 1)) - x7_2))).f0).toList)) || (!((((rd_T50 y117 (wrap64 ((wrap64 ((y117.length : Int) - 1)) - x7_2))).f1).toList) == (((rd_T50 y121 (wrap64 ((wrap64 ((y121.length : Int) - 1)) - x7_2))).f1).toList)) || (!(((rd_T50 y117 (wrap64 ((wrap64 ((y117.length : Int) - 1)) - x7_2))).f2) == ((rd_T50 y121 (wrap64 ((wrap64 ((y121.length : Int) - 1)) - x7_2))).f2))))) = true then (some (x6_2, x7_2)) else (kids_Trim.l1 k2 y117 y121 x6_2 (wrap64 (x7_2 + 1)))) else (none)) else (none)) else (none)) else (none)) else (some (x6_2, x7_2))) = some (r1, r2) := by first | (rw [hji16] at H; exact H) | (simp only [hji16] at H ⊢; exact H)
        have hji16_ : (if (y121.length : Int) < (y117.length : Int) then (y121.length : Int) else (y117.length : Int)) = ji16 := hji16
        have hji16n_ : (if y121.length < y117.length then (y121.length : Int) else (y117.length : Int)) = ji16 := by have h_ := hji16_; simpa only [Int.ofNat_lt] using h_
        by_cases c17 : x7_2 < (ji16)
        ·
         rw [if_pos c17] at H; have c17b0 := decide_eq_true c17; clear c17; obtain ⟨ji18, hji18⟩ : ∃ j_ : Int, (wrap64 ((wrap64 ((y117.length : Int) - 1)) - x7_2)) = j_ := ⟨_, rfl⟩
         replace H : (if 0 ≤ (ji18) then (if (ji18) < (y117.length : Int) then (if 0 ≤ (wrap64 ((wrap64 ((y121.length : Int) - 1)) - x7_2)) then (if (wrap64 ((wrap64 ((y121.length : Int) - 1)) - x7_2)) < (y121.length : Int) then (if (!((((rd_T50 y117 (ji18)).f0).toList) == (((rd_T50 y121 (wrap64 ((wrap64 ((y121.length : Int) - 1)) - x7_2))).f0).toList)) || (!((((rd_T50 y117 (ji18)).f1).toList) == (((rd_T50 y121 (wrap64 ((wrap64 ((y121.length : Int) - 1)) - x7_2))).f1).toList)) || (!(((rd_T50 y117 (ji18)).f2) == ((rd_T50 y121 (wrap64 ((wrap64 ((y121.length : Int) - 1)) - x7_2))).f2))))) = true then (some (x6_2, x7_2)) else (kids_Trim.l1 k2 y117 y121 x6_2 (wrap64 (x7_2 + 1)))) else (none)) else (none)) else (none)) else (none)) = some (r1, r2) := by first | (rw [hji18] at H; exact H) | (simp only [hji18] at H ⊢; exact H)
         have hji18w : (IntKind.i64.wrap ((wrap64 ((y117.length : Int) - 1)) - x7_2)) = ji18 := (i64_w _).trans hji18
         by_cases c19 : 0 ≤ (ji18)
         ·
          rw [if_pos c19] at H; have c19b0 := decide_eq_true c19; clear c19
          by_cases c20 : (ji18) < (y117.length : Int)
          ·
           rw [if_pos c20] at H; have c20b0 := decide_eq_true c20; clear c20; obtain ⟨ji21, hji21⟩ : ∃ j_ : Int, (wrap64 ((wrap64 ((y121.length : Int) - 1)) - x7_2)) = j_ := ⟨_, rfl⟩
           replace H : (if 0 ≤ (ji21) then (if (ji21) < (y121.length : Int) then (if (!((((rd_T50 y117 (ji18)).f0).toList) == (((rd_T50 y121 (ji21)).f0).toList)) || (!((((rd_T50 y117 (ji18)).f1).toList) == (((rd_T50 y121 (ji21)).f1).toList)) || (!(((rd_T50 y117 (ji18)).f2) == ((rd_T50 y121 (ji21)).f2))))) = true then (some (x6_2, x7_2)) else (kids_Trim.l1 k2 y117 y121 x6_2 (wrap64 (x7_2 + 1)))) else (none)) else (none)) = some (r1, r2) := by first | (rw [hji21] at H; exact H) | (simp only [hji21] at H ⊢; exact H)
           have hji21w : (IntKind.i64.wrap ((wrap64 ((y121.length : Int) - 1)) - x7_2)) = ji21 := (i64_w _).trans hji21
           by_cases c22 : 0 ≤ (ji21)
           ·
            rw [if_pos c22] at H; have c22b0 := decide_eq_true c22; clear c22
            by_cases c23 : (ji21) < (y121.length : Int)
            ·
             rw [if_pos c23] at H; have c23b0 := decide_eq_true c23; clear c23
             by_cases c24 : (!((((rd_T50 y117 (ji18)).f0).toList) == (((rd_T50 y121 (ji21)).f0).toList)) || (!((((rd_T50 y117 (ji18)).f1).toList) == (((rd_T50 y121 (ji21)).f1).toList)) || (!(((rd_T50 y117 (ji18)).f2) == ((rd_T50 y121 (ji21)).f2))))) = true
             ·
              rw [if_pos c24] at H; have c24b0 : (!((((rd_T50 y117 (ji18)).f0).toList) == (((rd_T50 y121 (ji21)).f0).toList)) || (!((((rd_T50 y117 (ji18)).f1).toList) == (((rd_T50 y121 (ji21)).f1).toList)) || (!(((rd_T50 y117 (ji18)).f2) == ((rd_T50 y121 (ji21)).f2))))) = true := c24; clear c24; simp only [Option.some.injEq, Prod.mk.injEq] at H; obtain ⟨rfl, rfl⟩ := H; have p125 : 0 ≤ ((ji18) : Int) := of_decide_eq_true (by assumption); have q125 : (ji18) < (y117.length : Int) := of_decide_eq_true (by assumption); obtain ⟨ad125, e125, hx125_0, hx125_1, hx125_2⟩ := at_T50 HR120.out (ji18) p125 q125; cases e125; replace hx125_0 := zB HB hx125_0; replace hx125_1 := zB HB hx125_1; replace hx125_2 := zB HB hx125_2; replace p125 := eq_true p125; replace q125 := eq_true q125; have p126 : 0 ≤ ((ji21) : Int) := of_decide_eq_true (by assumption); have q126 : (ji21) < (y121.length : Int) := of_decide_eq_true (by assumption); obtain ⟨ad126, e126, hx126_0, hx126_1, hx126_2⟩ := at_T50 HR124.out (ji21) p126 q126; cases e126; replace hx126_0 := zB HB hx126_0; replace hx126_1 := zB HB hx126_1; replace hx126_2 := zB HB hx126_2; replace p126 := eq_true p126; replace q126 := eq_true q126; go_wp2
              iterate 3 (try (go_step3; try go_wp2))
              repeat (go_quiet (fail); try (go_wp2; iterate 3 (try (go_step3; try go_wp2))))
              (try rw [Exit.noGoto_ret])
              go_ret2
              exact ⟨by first | rfl | (simp [wN, wS] <;> rfl) | (simp only [← hji16, ← hji18, ← hji21]; first | rfl | (simp [wN, wS] <;> rfl)) | (simp [*, wN, wS] <;> rfl), by with_reducible repeat first | exact HB.out | apply zA | apply zN | apply zD⟩
             ·
              rw [if_neg c24] at H
              have c24b0 : (!((((rd_T50 y117 (ji18)).f0).toList) == (((rd_T50 y121 (ji21)).f0).toList)) || (!((((rd_T50 y117 (ji18)).f1).toList) == (((rd_T50 y121 (ji21)).f1).toList)) || (!(((rd_T50 y117 (ji18)).f2) == ((rd_T50 y121 (ji21)).f2))))) = false := by simpa using c24
              clear c24; have H' := Aside0.mk H; clear H; have p125 : 0 ≤ ((ji18) : Int) := of_decide_eq_true (by assumption); have q125 : (ji18) < (y117.length : Int) := of_decide_eq_true (by assumption); obtain ⟨ad125, e125, hx125_0, hx125_1, hx125_2⟩ := at_T50 HR120.out (ji18) p125 q125; cases e125; replace hx125_0 := zB HB hx125_0; replace hx125_1 := zB HB hx125_1; replace hx125_2 := zB HB hx125_2; replace p125 := eq_true p125; replace q125 := eq_true q125; have p126 : 0 ≤ ((ji21) : Int) := of_decide_eq_true (by assumption); have q126 : (ji21) < (y121.length : Int) := of_decide_eq_true (by assumption); obtain ⟨ad126, e126, hx126_0, hx126_1, hx126_2⟩ := at_T50 HR124.out (ji21) p126 q126; cases e126; replace hx126_0 := zB HB hx126_0; replace hx126_1 := zB HB hx126_1; replace hx126_2 := zB HB hx126_2; replace p126 := eq_true p126; replace q126 := eq_true q126; go_wp2
              iterate 3 (try (go_step3; try go_wp2))
              repeat (go_quiet (fail); try (go_wp2; iterate 3 (try (go_step3; try go_wp2))))
              go_roundg k2
              case measure => have := HJ2.out; have := HK2.out; omega
              case rel => exact ⟨(wrap64 (x7_2 + 1)), (by first | rfl | (simp; done) | (simp [*]; done)), H', ⟨by have := HJ2.out; have := HK2.out; omega⟩, ⟨by with_reducible repeat first | exact HB.out | apply zA | apply zN | apply zD⟩⟩
            ·
             rw [if_neg c23] at H; exact absurd H (by simp)
           ·
            rw [if_neg c22] at H; exact absurd H (by simp)
          ·
           rw [if_neg c20] at H; exact absurd H (by simp)
         ·
          rw [if_neg c19] at H; exact absurd H (by simp)
        ·
         rw [if_neg c17] at H; have c17b0 := decide_eq_false c17; clear c17; simp only [Option.some.injEq, Prod.mk.injEq] at H; obtain ⟨rfl, rfl⟩ := H; go_wp2
         iterate 3 (try (go_step3; try go_wp2))
         repeat (go_quiet (fail); try (go_wp2; iterate 3 (try (go_step3; try go_wp2))))
         (try rw [Exit.noGoto_ret])
         go_ret2
         exact ⟨by first | rfl | (simp [wN, wS] <;> rfl) | (simp only [← hji16]; first | rfl | (simp [wN, wS] <;> rfl)) | (simp [*, wN, wS] <;> rfl), by with_reducible repeat first | exact HB.out | apply zA | apply zN | apply zD⟩
     ·
      rw [if_neg c13] at H; exact absurd H (by simp)
    ·
     rw [if_neg c11] at H; exact absurd H (by simp)
   ·
    rw [if_neg c10] at H; exact absurd H (by simp)
end Go.Proofs.Ytpekchebllobmaa.G
namespace Go.Proofs.Ytpekchebllobmaa.G
open Go.RowKit Go.Proofs.Ytpekchebllobmaa.Opn Go.Proofs.YtpekchebllobmaaW.PrintWords
set_option linter.unusedVariables false
set_option maxRecDepth 100000
theorem at_slice2 {α : Type} {P : Program} {n : Nat} {T e : TypeId} {d : Kd α} {Sm : α → Prop} {B : Nat} (ht : P.underlying T = some (.slice e)) (hc : P.cellsOf e = d.sz) (hb : P.bytesOf e = B) (hd : ∀ m, m < n → At P m e d Sm) :
    At P n T (Kd.slice e d) (fun xs => xs.length * B ≤ 140737488351232 ∧ ∀ x ∈ xs, Sm x) := hb ▸ at_slice ht hc hd
structure Sm50 (x : S50) : Prop where
  h0 : x.f0.size ≤ 140737488351232
  h1 : x.f1.size ≤ 140737488351232
  h2 : (Lit.int .i64 x.f2).wf = true
theorem at_S50 (n : Nat) : At Try.prog n 50 k50 Sm50 := by
  refine at_imp (at_iso (fun x : S50 => (x.f0, x.f1, x.f2)) (fun p => ⟨p.1, p.2.1, p.2.2⟩) (fun _ => rfl) (at_struct (d := (Kd.pair Kd.string (Kd.pair Kd.string (Kd.int .i64)))) (Sm := fun (p : (ByteArray) × (ByteArray) × (Int)) => p.1.size ≤ 140737488351232 ∧ p.2.1.size ≤ 140737488351232 ∧ (Lit.int .i64 p.2.2).wf = true) Try.underlying50 (by kernel_rfl) (fun m hm => ?h))) ?k ?s
  case h =>
    refine fields_cons (Sm := fun (q : ByteArray) => q.size ≤ 140737488351232) (Sm2 := fun (p : (ByteArray) × (Int)) => p.1.size ≤ 140737488351232 ∧ (Lit.int .i64 p.2).wf = true) ?_ ?_ ?_ ?_; (rfl)
    · kernel_rfl
    (exact (at_string Try.underlying9)); refine fields_cons (Sm := fun (q : ByteArray) => q.size ≤ 140737488351232) (Sm2 := fun (p : (Int)) => (Lit.int .i64 p).wf = true) ?_ ?_ ?_ ?_; (rfl)
    · kernel_rfl
    (exact (at_string Try.underlying9)); refine fields_one (Sm := fun (p : (Int)) => (Lit.int .i64 p).wf = true) ?_ ?_ ?_; (rfl)
    · kernel_rfl
    · exact (at_int Try.underlying3)
  case k => exact fun _ _ _ h => h
  case s => exact fun a h => ⟨h.1, h.2.1, h.2.2⟩
structure Sm46 (x : S46) : Prop where
  h0 : (Lit.int .i64 x.f0).wf = true
  h1 : (Lit.int .i64 x.f1).wf = true
  h2 : (Lit.int .i64 x.f2).wf = true
theorem weightsEach_head {H : Type} {P : Program} {t : TypeId} {ts : List TypeId} {d : DataW H} {ds : List (DataW H)} {q : Nat → Bool} (h : (DataW.weightsEach P (t :: ts) (d :: ds)).all q = true) : (d.weights P t).all q = true ∧ (DataW.weightsEach P ts ds).all q = true := by
  simpa only [DataW.weightsEach, List.all_append, Bool.and_eq_true] using h
end Go.Proofs.Ytpekchebllobmaa.G
namespace Go.Proofs.Ytpekchebllobmaa.G
open Go.RowKit Go.Proofs.YtpekchebllobmaaW.PrintWords Go.Proofs.YtpekchebllobmaaW.PrintLast Go.Proofs.YtpekchebllobmaaW.PrintMore
set_option linter.unusedVariables false
set_option linter.unusedSimpArgs false
def rd_L1 (xs : List (List Int)) (i : Int) : (List Int) := xs.getD i.toNat ([] : List Int)
theorem at_L1 {w : World} {A : Option Addr} {n : Nat} {xs : List (List Int)} (h : Kd.C (Kd.slice 3 (Kd.int .i64)) w A n xs) (i : Int) (h0 : 0 ≤ i) (h1 : i < n) : ∃ ad A0 c0, A = some ad ∧ w.cell? (ad.add i.toNat) = some (.slice A0 (rd_L1 xs i).length c0) ∧ (rd_L1 xs i).length ≤ c0 ∧ (Kd.int .i64).C w A0 (rd_L1 xs i).length (rd_L1 xs i) := by
  obtain ⟨ad, c, e, _, hK, hc0⟩ := Kd.C_get h ([] : List Int) i h0 h1; have hc : ∀ j u, c[j]? = some u → w.cell? (ad.add (i.toNat * 1 + j)) = some u := hc0; obtain ⟨A0, c0, rfl, l0, g0⟩ := hK; exact ⟨ad, A0, c0, e, by have hq := hc 0 _ rfl; rwa [Nat.mul_one, Nat.add_zero] at hq, l0, g0⟩
theorem reti {k : IntKind} {a b : Int} (h : a = b) : Ending.returned (.int k a) = .returned (.int k b) := by rw [h]
/-- The top of a pile. -/
def topOf (ps : List (List Int)) (i : Int) : Int := rd (rd_L1 ps i) ((rd_L1 ps i).length - 1)
/-- find's loop. -/
def findL : Nat → List Int → List (List Int) → Int → Int → Int → Int
  | 0, _, _, _, lo, _ => lo
  | k + 1, l, ps, n, lo, hi => if lo < hi then (if n ≤ rd l (topOf ps ((lo + hi) / 2)) then findL k l ps n lo ((lo + hi) / 2) else findL k l ps n ((lo + hi) / 2 + 1) hi) else lo
set_option maxHeartbeats 2000000 in
theorem find_calls (g : Nat) (ps : List (List Int)) (l : List Int) (Ap : Option Addr) (cp : Nat) (u1 : Value) (A1 : Option Addr) (c1 : Nat) (n : Int) (w : World)
    (hb : w.heap[g]? = some (.cells #[.slice Ap ps.length cp, u1] 77 (0, 0)))
    (hp : Kd.C (Kd.slice 3 (Kd.int .i64)) w Ap ps.length ps) (hl : Kd.C (Kd.int .i64) w A1 l.length l) (hlen : ps.length ≤ 9223372036854775) (hll : l.length ≤ 9223372036854775)
    (hne : ∀ i : Int, 0 ≤ i → i < ps.length → 0 < (rd_L1 ps i).length ∧ ((rd_L1 ps i).length : Int) ≤ 9223372036854775 ∧ 0 ≤ topOf ps i ∧ topOf ps i < l.length) :
    Calls Try.prog 43 #[.pointer (some ⟨g, 0, none⟩), .slice A1 l.length c1, .int .i64 n] w fun e w' => e = .returned (.int .i64 (findL ps.length l ps n 0 ps.length)) ∧ Drawn0 w w' := by
  have hc0 : w.cell? ⟨g, 0, none⟩ = some (.slice Ap ps.length cp) := (zC hb 0).trans rfl; have HP := Aside0.mk hp; have HL := Aside0.mk hl; have HN := Aside0.mk hne; clear hb hp hl hne
  go_enter Try.func43, Try.ntmps43
  go_wp2_with fail
  go_step3
  go_wp2_with fail
  go_quiet (fail)
  go_wp2_with fail
  go_step3
  go_wp2_with fail
  go_loopg [7, 8] ps.length (fun k v7 v8 w' => ∃ (lo hi : Int), v7 = .int .i64 lo ∧ v8 = .int .i64 hi ∧ Aside0 (0 ≤ lo ∧ lo ≤ hi ∧ hi ≤ ps.length ∧ hi - lo ≤ k ∧ findL k l ps n lo hi = findL ps.length l ps n 0 ps.length) ∧ Drawn0 w w')
  case atStart => exact ⟨0, ps.length, rfl, rfl, ⟨by omega, by omega, by omega, by omega, rfl⟩, ⟨_, rfl⟩⟩
  case round =>
    obtain ⟨lo, hi, rfl, rfl, HI, ⟨m, rfl⟩⟩ := hrel
    by_cases hlt : lo < hi
    · cases gk with
      | zero => exact absurd HI.out (by omega)
      | succ k =>
        have h1 : 0 ≤ lo := HI.out.1
        have h2 : hi ≤ 9223372036854775 := by have := HI.out; omega
        have m0 : 0 ≤ (lo + hi) / 2 := by omega
        have m1 : (lo + hi) / 2 < ps.length := by have := HI.out; omega
        obtain ⟨a0, a1, a2, a3⟩ := HN.out _ m0 m1; obtain ⟨ad, A0, c0, e, hx, hl0, hi0⟩ := at_L1 HP.out _ m0 m1; cases e
        have b0 : 0 ≤ ((rd_L1 ps ((lo + hi) / 2)).length : Int) - 1 := by omega
        have b1 : ((rd_L1 ps ((lo + hi) / 2)).length : Int) - 1 < (rd_L1 ps ((lo + hi) / 2)).length := by omega
        obtain ⟨ad2, e2, hx2⟩ := Kd.at_int hi0 _ b0 b1; cases e2; obtain ⟨ad3, e3, hx3⟩ := Kd.at_int HL.out (topOf ps ((lo + hi) / 2)) a2 a3; cases e3
        have hx4 : w.cell? (ad2.add ((rd_L1 ps ((lo + hi) / 2)).length - 1)) = some (.int .i64 (topOf ps ((lo + hi) / 2))) := by
          rw [show (rd_L1 ps ((lo + hi) / 2)).length - 1 = (((rd_L1 ps ((lo + hi) / 2)).length : Int) - 1).toNat from by omega]; exact hx2
        clear hx2 hi0; have HF : Aside0 (findL (k + 1) l ps n lo hi = if n ≤ rd l (topOf ps ((lo + hi) / 2)) then findL k l ps n lo ((lo + hi) / 2) else findL k l ps n ((lo + hi) / 2 + 1) hi) := ⟨by rw [findL, if_pos hlt]⟩
        by_cases hge : n ≤ rd l (topOf ps ((lo + hi) / 2))
        · go_wp2_with fail
          go_roundg k
          case measure => omega
          case rel =>
            refine ⟨lo, (lo + hi) / 2, rfl, rfl, ⟨?_⟩, ⟨_, rfl⟩⟩; have h := HI.out; have f := HF.out; rw [if_pos hge] at f; rw [f] at h; exact ⟨by omega, by omega, by omega, by omega, h.2.2.2.2⟩
        · go_wp2_with fail
          go_roundg k
          case measure => omega
          case rel =>
            refine ⟨(lo + hi) / 2 + 1, hi, rfl, rfl, ⟨?_⟩, ⟨_, rfl⟩⟩; have h := HI.out; have f := HF.out; rw [if_neg (by omega)] at f; rw [f] at h; exact ⟨by omega, by omega, by omega, by omega, h.2.2.2.2⟩
    · have HF : Aside0 (findL gk l ps n lo hi = lo) := ⟨by cases gk <;> simp [findL, hlt]⟩
      go_wp2_with fail
      go_ret
      exact ⟨reti (by rw [← HI.out.2.2.2.2, HF.out]), ⟨_, rfl⟩⟩
/-- The top of pile j, or -1. -/
def topAt (ps : List (List Int)) (j : Int) : Int := if j < 0 then -1 else if (ps.length : Int) ≤ j then -1 else topOf ps j
set_option maxHeartbeats 2000000 in
theorem top_calls (g : Nat) (ps : List (List Int)) (Ap : Option Addr) (cp : Nat) (u1 : Value) (j : Int) (w : World)
    (hb : w.heap[g]? = some (.cells #[.slice Ap ps.length cp, u1] 77 (0, 0)))
    (hp : Kd.C (Kd.slice 3 (Kd.int .i64)) w Ap ps.length ps)
    (hne : 0 ≤ j → j < ps.length → 0 < (rd_L1 ps j).length ∧ ((rd_L1 ps j).length : Int) ≤ 9223372036854775) :
    Calls Try.prog 38 #[.pointer (some ⟨g, 0, none⟩), .int .i64 j] w fun e w' => e = .returned (.int .i64 (topAt ps j)) ∧ w' = w := by
  have hc0 : w.cell? ⟨g, 0, none⟩ = some (.slice Ap ps.length cp) := (zC hb 0).trans rfl; have HP := Aside0.mk hp; have HN := Aside0.mk hne; clear hb hp hne
  by_cases h0 : j < 0
  · have HE := Aside0.mk (show topAt ps j = -1 by rw [topAt, if_pos h0])
    go_enter Try.func38, Try.ntmps38
    go_wp2_with fail
    go_ret
    exact ⟨reti HE.out.symm, rfl⟩
  by_cases h1 : (ps.length : Int) ≤ j
  · have HE := Aside0.mk (show topAt ps j = -1 by rw [topAt, if_neg h0, if_pos h1])
    go_enter Try.func38, Try.ntmps38
    go_wp2_with fail
    go_ret
    exact ⟨reti HE.out.symm, rfl⟩
  obtain ⟨a0, a1⟩ := HN.out (by omega) (by omega); obtain ⟨ad, A0, c0, e, hx, hl0, hi0⟩ := at_L1 HP.out j (by omega) (by omega); cases e; obtain ⟨ad2, e2, hx2⟩ := Kd.at_int hi0 ((rd_L1 ps j).length - 1) (by omega) (by omega); cases e2
  have hx4 : w.cell? (ad2.add ((rd_L1 ps j).length - 1)) = some (.int .i64 (topOf ps j)) := by
    rw [show (rd_L1 ps j).length - 1 = (((rd_L1 ps j).length : Int) - 1).toNat from by omega]; exact hx2
  clear hx2 hi0; have HE := Aside0.mk (show topAt ps j = topOf ps j by rw [topAt, if_neg h0, if_neg h1])
  go_enter Try.func38, Try.ntmps38
  go_wp2_with fail
  go_ret; exact ⟨reti HE.out.symm, rfl⟩
theorem hinfo3 : (Try.prog.info? 3).map (fun i => (i.zero, i.size, i.bytes)) = some (some (.int .i64 0), 1, 8) := by kernel_rfl
theorem hinfo22 : (Try.prog.info? 27).map (fun i => (i.zero, i.size, i.bytes)) = some (some (.slice none 0 0), 1, 24) := by kernel_rfl
theorem Rint_at {k : IntKind} {e g n cap base : Nat} {W : World} {ok : Nat → Prop} {xs : List Int} (h : (Kd.int k).R e W base ok (.slice (some ⟨g, 0, none⟩) n cap) xs) (i : Nat) (hi : i < n) :
    W.cell? ⟨g, i, none⟩ = some (.int k (xs.getD i 0)) ∧ W.frozen? ⟨g, i, none⟩ = false := by
  have hn := (Kd.R_reads' h).1; obtain ⟨c, hcl, hM, hcc, hf⟩ := Kd.R_elem h 0 (i : Int) (by omega) (by omega); have hM : c = [.int k (xs.getD i 0)] := hM; subst hM; have h1 := hcc 0 _ rfl; have h2 := hf 0
  have e1 : (i : Int).toNat * (Kd.int k).sz + 0 = i := by show (i : Int).toNat * 1 + 0 = i; omega
  rw [e1] at h1 h2; exact ⟨h1, h2⟩
theorem Rint_store {k : IntKind} {e g n cap base : Nat} {W : World} {ok : Nat → Prop} {xs : List Int} (h : (Kd.int k).R e W base ok (.slice (some ⟨g, 0, none⟩) n cap) xs) (i : Nat) (x : Int) :
    (Kd.int k).R e (W.setCell ⟨g, i, none⟩ (.int k x)) base ok (.slice (some ⟨g, 0, none⟩) n cap) (xs.set i x) ∧ W.grownBy (W.setCell ⟨g, i, none⟩ (.int k x)) (some g) := by
  have hn := (Kd.R_reads' h).1; subst hn; have ho := Kd.own_of_R h; obtain ⟨a, b⟩ := own_store_of (enc := Value.int k) ho (i : Int) x; rw [Int.toNat_natCast] at a b; refine ⟨Kd.R_of_own (by rw [List.length_set]; exact a) (fun j hj => h.1 j hj), b⟩
section
variable {P : Program} {ops : Array Oper} {rest : List Oper} {o : Oper} {a : Act} {Q : Exit → Act → World → Prop}
/-- make([]T, n) of whole numbers, n a natural number: the slice written out. -/
theorem make_ints {w0 W : World} (base e : Nat) (k : IntKind) (bytes : Nat) (hgd : o.guard = none) {N : Tmp} (hd : o.dst = some N) (t : TypeId) (x y : Operand) (ho : o.op = .makeSlice t x y) (n : Nat) (hx : a.eval x = .int .i64 n) (hy : a.eval y = .int .i64 n)
    (ht : P.underlying t = some (.slice e)) (hinfo : (P.info? e).map (fun i => (i.zero, i.size, i.bytes)) = some (some (.int k 0), 1, bytes)) (hb0 : 0 < bytes) (hl : n * bytes ≤ 281474976710656) (HB : Below base w0 W) (hbase : base ≤ W.heap.size)
    (h : ∀ g c w1, Kd.R (Kd.int k) e w1 base (fun _ => True) (.slice (some ⟨g, 0, none⟩) n c) (List.replicate n 0) → W.heap.size ≤ g → g < w1.heap.size → Below W.heap.size W w1 → Below base w0 w1 → wpList P ops Q rest (a.put o.dst (.slice (some ⟨g, 0, none⟩) n c)) w1) : wpList P ops Q (o :: rest) a W := by
  refine Kd.R_make (Kd.int k) (w0 := w0) base e hgd hd t x y ho (n : Int) hx hy ht (.int k 0) bytes hinfo rfl (by show 0 < 1; omega) hb0 0 (ok := fun _ => True) (okp := fun _ => True) rfl (fun _ _ => trivial) trivial (by omega) (by rw [Int.toNat_natCast]; exact hl) HB hbase ?_; intro v1 w1 hR hB hg hb; rw [Int.toNat_natCast] at hR; obtain ⟨A, c, rfl⟩ := Kd.R_slice hR; obtain ⟨b, hb1, hb2⟩ := hb
  obtain ⟨ad, rfl⟩ : ∃ ad, A = some ad := by cases A with
    | none => simp [Value.ownBlock] at hb1
    | some ad => exact ⟨ad, rfl⟩
  obtain ⟨g, rfl⟩ := Kd.R_head hR
  obtain rfl : g = b := by simpa [Value.ownBlock] using hb1
  have hlt := Kd.R_lt hR g (by simp [Value.ownBlock]); rw [List.length_replicate] at hR ⊢; exact h g c w1 hR hb2 hlt ⟨hg.os, hg.tape, hg.output, hg.size, fun k hk => hg.block k hk (by simp)⟩ hB
end
/-- One place is laid. -/
def playStep (l : List Int) (st : List (List Int) × List Int) (i : Nat) : List (List Int) × List Int :=
  if rd l i < 0 then st else
    let k := findL st.1.length l st.1 (rd l i) 0 st.1.length
    let ps := if k = st.1.length then st.1 ++ [[]] else st.1
    (ps.set k.toNat (ps.getD k.toNat [] ++ [(i : Int)]), st.2.set i (topAt st.1 (k - 1)))
def playN (l : List Int) : Nat → List (List Int) × List Int
  | 0 => ([], List.replicate l.length 0)
  | i + 1 => playStep l (playN l i) i
/-- What is known of the piles behind i places. -/
structure PInv (l : List Int) (i : Nat) (ps : List (List Int)) (ah : List Int) : Prop where
  ahl : ah.length = l.length
  psl : ps.length ≤ i
  pile : ∀ p ∈ ps, 0 < p.length ∧ p.length ≤ i ∧ ∀ x ∈ p, 0 ≤ x ∧ x < i
theorem findL_range (l : List Int) (ps : List (List Int)) (n : Int) : ∀ (k : Nat) (lo hi : Int), lo ≤ hi → lo ≤ findL k l ps n lo hi ∧ findL k l ps n lo hi ≤ hi
  | 0, lo, hi, h => by simp [findL, h]
  | k + 1, lo, hi, h => by
    rw [findL]
    split
    · split
      · have := findL_range l ps n k lo ((lo + hi) / 2) (by omega); omega
      · have := findL_range l ps n k ((lo + hi) / 2 + 1) hi (by omega); omega
    · omega
theorem PInv.at_ {l : List Int} {i : Nat} {ps : List (List Int)} {ah : List Int} (h : PInv l i ps ah) (hi : i ≤ l.length) (j : Int) (h0 : 0 ≤ j) (h1 : j < ps.length) :
    0 < (rd_L1 ps j).length ∧ ((rd_L1 ps j).length : Int) ≤ i ∧ 0 ≤ topOf ps j ∧ topOf ps j < l.length := by
  have hm : rd_L1 ps j ∈ ps := by
    unfold rd_L1; rw [List.getD_eq_getElem?_getD, List.getElem?_eq_getElem (by omega)]; exact List.getElem_mem _
  obtain ⟨a, b, c⟩ := h.pile _ hm
  have ht : topOf ps j ∈ rd_L1 ps j := by
    unfold topOf rd; rw [List.getD_eq_getElem?_getD, List.getElem?_eq_getElem (by omega)]; exact List.getElem_mem _
  have := c _ ht; exact ⟨a, by omega, this.1, by omega⟩
theorem PInv.step {l : List Int} {i : Nat} {st : List (List Int) × List Int} (h : PInv l i st.1 st.2) (hi : i < l.length) : PInv l (i + 1) (playStep l st i).1 (playStep l st i).2 := by
  unfold playStep; split; (exact ⟨h.ahl, by have := h.psl; omega, fun p hp => by obtain ⟨a, b, c⟩ := h.pile p hp; exact ⟨a, by omega, fun x hx => by have := c x hx; omega⟩⟩)
  · have hk := findL_range l st.1 (rd l i) st.1.length 0 st.1.length (by omega)
    generalize findL st.1.length l st.1 (rd l i) 0 st.1.length = k at hk
    refine ⟨by simp [h.ahl], ?_, ?_⟩
    · have := h.psl
      simp only [List.length_set]
      split <;> (try simp only [List.length_append, List.length_cons, List.length_nil]) <;> omega
    · intro p hp
      simp only at hp
      have hq : ∀ q ∈ (if k = (st.1.length : Int) then st.1 ++ [[]] else st.1), q.length ≤ i ∧ ∀ x ∈ q, 0 ≤ x ∧ x < i := by
        intro q hq; split at hq
        · rcases List.mem_append.1 hq with hq | hq
          · exact ⟨(h.pile q hq).2.1, (h.pile q hq).2.2⟩
          · simp at hq; subst hq; simp
        · exact ⟨(h.pile q hq).2.1, (h.pile q hq).2.2⟩
      have hlen : k.toNat < (if k = (st.1.length : Int) then st.1 ++ [[]] else st.1).length := by split <;> (try simp only [List.length_append, List.length_cons, List.length_nil]) <;> omega
      rcases List.mem_or_eq_of_mem_set hp with hp' | rfl
      · -- an elder pile: not the new empty one, as_ that was written
        obtain ⟨j, hj, rfl⟩ := List.getElem_of_mem hp
        rw [List.getElem_set] at hp' ⊢
        split
        · obtain ⟨a, b⟩ := hq ((if k = (st.1.length : Int) then st.1 ++ [[]] else st.1).getD k.toNat []) (by rw [List.getD_eq_getElem?_getD, List.getElem?_eq_getElem hlen]; exact List.getElem_mem _)
          exact ⟨by simp, by simp only [List.length_append, List.length_cons, List.length_nil]; omega, fun x hx => by
            rcases List.mem_append.1 hx with hx | hx
            · have := b x hx; omega
            · simp at hx; omega⟩
        · rename_i hne
          have hjs : j < st.1.length := by
            rw [List.length_set] at hj; split at hj
            · rename_i he; simp at hj; omega
            · exact hj
          have : (if k = (st.1.length : Int) then st.1 ++ [[]] else st.1)[j]'(by rw [List.length_set] at hj; exact hj) = st.1[j] := by
            split <;> simp [hjs]
          rw [this]
          obtain ⟨a, b, c⟩ := h.pile _ (List.getElem_mem hjs)
          exact ⟨a, by omega, fun x hx => by have := c x hx; omega⟩
      · obtain ⟨a, b⟩ := hq ((if k = (st.1.length : Int) then st.1 ++ [[]] else st.1).getD k.toNat []) (by rw [List.getD_eq_getElem?_getD, List.getElem?_eq_getElem hlen]; exact List.getElem_mem _)
        exact ⟨by simp, by simp only [List.length_append, List.length_cons, List.length_nil]; omega, fun x hx => by
          rcases List.mem_append.1 hx with hx | hx
          · have := b x hx; omega
          · simp at hx; omega⟩
theorem playN_inv (l : List Int) : ∀ i, i ≤ l.length → PInv l i (playN l i).1 (playN l i).2
  | 0, _ => ⟨by simp [playN], by simp [playN], by simp [playN]⟩
  | i + 1, h => (playN_inv l i (by omega)).step (by omega)
/-- Where a label of b stood in a: both ends as_ they are, the middle by its first place. -/
def keptAt (a b : List S50) (f g j : Nat) : Int :=
  if j < f then (j : Int) else if b.length - g ≤ j then (a.length : Int) - b.length + j else
    match fnd ((a.take (a.length - g)).drop f) (rd_T50 b j) with
    | some n => ((f + n : Nat) : Int)
    | none => -1
def keptL (a b : List S50) (f g : Nat) : List Int := (List.range b.length).map (keptAt a b f g)
def kids_kept.f (k : Nat) (l0 l1 : List S50) : Option (List Int) := (kids_Trim.f k l0 l1).bind fun t =>
  if l0.length ≤ 1000000 ∧ l1.length ≤ 1000000 ∧ l0.all fitB = true ∧ l1.all fitB = true ∧ 0 ≤ t.1 ∧ 0 ≤ t.2 ∧ t.1 + t.2 ≤ l0.length ∧ t.1 + t.2 ≤ l1.length then some (keptL l0 l1 t.1.toNat t.2.toNat) else none
theorem kids_kept.mono : ∀ a0 a1 k, LeO (kids_kept.f k a0 a1) (kids_kept.f (k + 1) a0 a1) := by
  intro a0 a1 k; exact LeO.bind (kids_Trim.mono _ _ _) (fun _ => LeO.refl _)
/-- The row that is made, as_ far as_ it is written. -/
def OW (w W : World) (gr n cr : Nat) (F : Nat → Int) : Prop := ∃ xs, Kd.R (Kd.int .i64) 3 W w.heap.size (fun _ => True) (.slice (some ⟨gr, 0, none⟩) n cr) xs ∧ xs.length = n ∧ (∀ j, j < n → xs.getD j 0 = F j) ∧ Below w.heap.size w W
theorem OW.at_ {w W : World} {gr n cr : Nat} {F : Nat → Int} (h : OW w W gr n cr F) (j : Nat) (hj : j < n) : W.cell? ⟨gr, j, none⟩ = some (.int .i64 (F j)) ∧ W.frozen? ⟨gr, j, none⟩ = false := by
  obtain ⟨xs, h1, h2, h3, h4⟩ := h; rw [← h3 j hj]; exact Rint_at h1 j hj
theorem OW.put {w W : World} {gr n cr : Nat} {F : Nat → Int} (h : OW w W gr n cr F) (j : Nat) (x : Int) (G : Nat → Int) (hG : ∀ i, i < n → G i = if i = j then x else F i) : OW w (W.setCell ⟨gr, j, none⟩ (.int .i64 x)) gr n cr G := by
  obtain ⟨xs, h1, h2, h3, h4⟩ := h; have hgr : w.heap.size ≤ gr := Kd.R_base h1 gr (by simp [Value.ownBlock]); refine ⟨xs.set j x, (Rint_store h1 j x).1, by rw [List.length_set]; exact h2, fun i hi => ?_, zS h4 hgr⟩; rw [hG i hi, List.getD_eq_getElem?_getD]
  by_cases c : i = j
  (subst c; rw [if_pos rfl, List.getElem?_set_self (by omega)]; rfl); (rw [if_neg c, List.getElem?_set_ne (fun e => c e.symm), ← List.getD_eq_getElem?_getD]; exact h3 i hi)
theorem OW.below {w W W' : World} {gr n cr : Nat} {F : Nat → Int} (h : OW w W gr n cr F) (hb : Below W.heap.size W W') : OW w W' gr n cr F := by
  obtain ⟨xs, h1, h2, h3, h4⟩ := h; exact ⟨xs, Kd.R_below h1 hb, h2, h3, h4.trans (hb.mono h4.size)⟩
theorem OW.imp {w W : World} {gr n cr : Nat} {F : Nat → Int} (h : OW w W gr n cr F) (G : Nat → Int) (hG : ∀ i, i < n → G i = F i) : OW w W gr n cr G := by
  obtain ⟨xs, h1, h2, h3, h4⟩ := h; exact ⟨xs, h1, h2, fun j hj => by rw [h3 j hj, hG j hj], h4⟩
theorem IX.far {W : World} {base p n : Nat} {D : S50 → Option Int} (h : IX W base p n D) (gr j : Nat) (v : Value) (hg : gr < base) : IX (W.setCell ⟨gr, j, none⟩ v) base p n D := by
  obtain ⟨g, S, used, tb⟩ := h; have h1 := tb.tw.hp; have h2 := tb.tw.hg; exact ⟨g, S, used, ⟨⟨zG tb.tw.bp (by show p ≠ gr; omega) _, zG tb.tw.bg (by show g ≠ gr; omega) _, h1, h2⟩, tb.ok, tb.le⟩⟩
theorem fnd_lt : ∀ (xs : List S50) (y : S50) (n : Nat), fnd xs y = some n → n < xs.length
  | [], y, n, h => by cases h
  | x :: xs, y, n, h => by
    rw [fnd] at h
    split at h
    · obtain rfl := Option.some.inj h; simp
    · cases hf : fnd xs y with
      | none => rw [hf] at h; cases h
      | some m =>
        rw [hf] at h
        obtain rfl := Option.some.inj h
        have := fnd_lt xs y m hf
        simp only [List.length_cons]; omega
def F1 (i j : Nat) : Int := if j < i then (j : Int) else 0
def F2 (m n f i j : Nat) : Int := if j < f then (j : Int) else if n - i ≤ j then (m : Int) - n + j else 0
def F3 (a b : List S50) (f g i j : Nat) : Int := if j < f then (j : Int) else if b.length - g ≤ j then (a.length : Int) - b.length + j else if j < i then keptAt a b f g j else 0
set_option maxHeartbeats 8000000 in
set_option maxRecDepth 100000 in
theorem kids_kept.calls (k : Nat) (A0 : Option Addr) (c0 : Nat) (l0 : List S50) (A1 : Option Addr) (c1 : Nat) (l1 : List S50) (r : List Int) (w : World) (hr0 : Kd.C k50 w A0 l0.length l0) (hc0 : l0.length ≤ c0) (hr1 : Kd.C k50 w A1 l1.length l1) (hc1 : l1.length ≤ c1) (h : kids_kept.f k l0 l1 = some r) :
    Calls Try.prog 24 #[.slice A0 l0.length c0, .slice A1 l1.length c1] w fun e w' => ∃ v0_ : Value, e = .returned (v0_) ∧ Kd.R (Kd.int .i64) 3 w' w.heap.size (fun _ => True) v0_ r ∧ Below w.heap.size w w' := by
  obtain ⟨⟨tf, tg⟩, ht, h⟩ := Option.bind_eq_some_iff.1 h; split at h
  case isFalse => cases h
  rename_i hgd
  obtain rfl := Option.some.inj h; clear h; obtain ⟨g1, g2, g3, g4, g5, g6, g7, g8⟩ := hgd; obtain ⟨f, rfl⟩ := Int.eq_ofNat_of_zero_le g5; obtain ⟨g, rfl⟩ := Int.eq_ofNat_of_zero_le g6; simp only [Int.toNat_natCast]; have HT := Aside0.mk (kids_Trim.calls k A0 c0 l0 A1 c1 l1 f g w hr0 hc0 hr1 hc1 ht); have FT := Aside0.mk (all_fit g3); have FT1 := Aside0.mk (all_fit g4); have HG := Aside0.mk (show f + g ≤ l0.length ∧ f + g ≤ l1.length ∧ l0.length ≤ 1000000 ∧ l1.length ≤ 1000000 from ⟨by omega, by omega, g1, g2⟩); have R0 := Aside0.mk hr0; have R1 := Aside0.mk hr1; have C0 := Aside0.mk hc0; clear hr0 hr1 hc0 hc1 ht g1 g2 g3 g4 g5 g6 g7 g8
  go_enter Try.func24, Try.ntmps24
  go_wp2_with (first | (go_at_call 9; refine HT.out.mono ?_; rintro e w1 ⟨rfl, hb⟩; have B1 := Aside0.mk hb; clear hb) | (at_make; refine make_ints (w0 := w) w.heap.size 3 .i64 8 rfl rfl 27 _ _ rfl l1.length rfl rfl Try.underlying27 hinfo3 (by decide) (by have := HG.out; omega) B1.out B1.out.size ?_; intro gr cr w2 hR hgr hlt hb2 hB2; have O1 := Aside0.mk (show OW w w2 gr l1.length cr (fun _ => 0) from ⟨_, hR, List.length_replicate, fun j hj => by rw [List.getD_eq_getElem?_getD, List.getElem?_replicate, if_pos hj]; rfl, hB2⟩); clear hR hgr hlt hb2 hB2))
  go_loopg [24] f (fun kq v24 W => ∃ (x : Int) (i : Nat), v24 = .int .i64 x ∧ Aside0 (x = i ∧ i + kq = f) ∧ Aside0 (OW w W gr l1.length cr (F1 i)))
  case atStart => exact ⟨0, 0, rfl, ⟨rfl, by omega⟩, ⟨O1.out.imp _ (fun j _ => rfl)⟩⟩
  case round =>
  clear O1; obtain ⟨x, i, rfl, HI, O1⟩ := hrel
  cases gk with
  | succ k1 =>
    obtain rfl : x = (i : Int) := HI.out.1
    have hif : i < f := by have := HI.out.2; omega
    have hil : i < l1.length := by have := HG.out; omega
    obtain ⟨hcr, hfr⟩ := O1.out.at_ i hil; have HW := Aside0.mk (show wrap64 ((i : Int) + 1) = ((i + 1 : Nat) : Int) from by have := HG.out; unfold wrap64; omega); have HL := Aside0.mk (And.intro hif hil)
    go_wp2_with fail
    go_roundg k1
    case measure => omega
    case rel =>
      exact ⟨_, i + 1, rfl, ⟨HW.out, by have := HI.out; omega⟩, ⟨O1.out.put i i _ (fun j hj => by unfold F1; split <;> split <;> omega)⟩⟩
  | zero =>
  have hx : x = (f : Int) := by have := HI.out; omega
  subst hx; have HIf := Aside0.mk (show i = f from by have := HI.out; omega); clear HI
  go_wp2_with fail
  go_loopg [33] g (fun kq v33 W => ∃ (x : Int) (i : Nat), v33 = .int .i64 x ∧ Aside0 (x = i ∧ i + kq = g) ∧ Aside0 (OW w W gr l1.length cr (F2 l0.length l1.length f i)))
  case atStart => exact ⟨0, 0, rfl, ⟨rfl, by omega⟩, ⟨O1.out.imp _ (fun j hj => by have := HIf.out; unfold F1 F2; split <;> split <;> (try split) <;> omega)⟩⟩
  case round =>
  clear O1; obtain ⟨x, i, rfl, HI, O1⟩ := hrel
  cases gk with
  | succ k1 =>
    obtain rfl : x = (i : Int) := HI.out.1
    have hif : i < g := by have := HI.out.2; omega
    obtain ⟨p, hp⟩ : ∃ p, p + 1 + i = l1.length := ⟨l1.length - 1 - i, by have := HG.out; omega⟩; obtain ⟨q, hq⟩ : ∃ q, q + 1 + i = l0.length := ⟨l0.length - 1 - i, by have := HG.out; omega⟩
    have hwp : wrap64 (wrap64 ((l1.length : Int) - 1) - (i : Int)) = (p : Int) := by have := HG.out; unfold wrap64; omega
    have hwq : wrap64 (wrap64 ((l0.length : Int) - 1) - (i : Int)) = (q : Int) := by have := HG.out; unfold wrap64; omega
    have hil : p < l1.length := by omega
    obtain ⟨hcr, hfr⟩ := O1.out.at_ p hil; have HW := Aside0.mk (show wrap64 ((i : Int) + 1) = ((i + 1 : Nat) : Int) from by have := HG.out; unfold wrap64; omega); have HL := Aside0.mk (And.intro hif (And.intro hp hq)); clear hp hq
    go_wp2_with fail
    go_roundg k1
    case measure => omega
    case rel =>
      refine ⟨_, i + 1, rfl, ⟨HW.out, by have := HI.out; omega⟩, ⟨O1.out.put p q _ (fun j hj => ?_)⟩⟩; have h1 := HL.out; have h2 := HG.out; unfold F2; split <;> (try split) <;> (try split) <;> omega
  | zero =>
  have hx : x = (g : Int) := by have := HI.out; omega
  subst hx; have HIg := Aside0.mk (show i = g from by have := HI.out; omega); clear HI; obtain ⟨h, hh⟩ : ∃ h, h + g = l0.length := ⟨l0.length - g, by have := HG.out; omega⟩; obtain ⟨e, he⟩ : ∃ e, e + g = l1.length := ⟨l1.length - g, by have := HG.out; omega⟩
  have hwh : wrap64 ((l0.length : Int) - (g : Int)) = (h : Int) := by have := HG.out; unfold wrap64; omega
  have hwe : wrap64 ((l1.length : Int) - (g : Int)) = (e : Int) := by have := HG.out; unfold wrap64; omega
  obtain ⟨ys, hys⟩ : ∃ ys, (l0.take h).drop f = ys := ⟨_, rfl⟩; obtain ⟨i0, hi0, _, hsz0, _⟩ := info_parts info50
  have hyl : ys.length = h - f := by rw [← hys, List.length_drop, List.length_take]; omega
  have htl : (l0.take h).length = h := by rw [List.length_take]; omega
  have hcut := cut_mid (P := Try.prog) 22 50 .i64 .i64 Try.underlying22 hi0 3 hsz0 A0 l0.length c0 (f : Int) (h : Int) (by omega) (by have := HG.out; omega) (by omega) C0.out; obtain ⟨A2, hA2⟩ : ∃ A2, (if c0 = f then A0 else (A0 : Option Addr).map (·.add (f * 3))) = A2 := ⟨_, rfl⟩; obtain ⟨c2, hc2⟩ : ∃ c2, c0 - f = c2 := ⟨_, rfl⟩; simp only [Int.toNat_natCast] at hcut; rw [hA2, hc2, ← hyl] at hcut
  have RY := Aside0.mk (show ∀ W, Below w.heap.size w W → Kd.C k50 W A2 ys.length ys from fun W hb => by
    have h1 := Kd.C_take (m := h) (Kd.C_below R0.out hb) (by omega); have h2 := Kd.C_drop (m := f) (c := c0) h1 (by rw [htl]; have := HG.out; omega) (by rw [htl]; have := C0.out; omega); rw [hys] at h2; rw [← hA2]
    exact h2)
  have HH := Aside0.mk (And.intro hh (And.intro he hys))
  have YF := Aside0.mk (show ∀ j : Nat, j < ys.length → Fit (rd_T50 ys j) from fun j hj => by
    have h1 := rd_T50_mem ys j hj; rw [← hys] at h1; obtain ⟨u, hu, e2⟩ := List.getElem_of_mem (List.mem_of_mem_take (List.mem_of_mem_drop h1)); have h3 := FT.out u hu
    have h4 : rd_T50 l0 (u : Int) = l0[u] := by unfold rd_T50; rw [List.getD_eq_getElem?_getD, Int.toNat_natCast, List.getElem?_eq_getElem hu]; rfl
    rw [h4, e2, hys] at h3
    exact h3)
  have YL := Aside0.mk (show ys.length ≤ 1073741824 from by have := HG.out; omega); have OB := Aside0.mk (show Below w.heap.size w wr from by obtain ⟨_, _, _, _, hb⟩ := O1.out; exact hb); have OF := Aside0.mk (Of wr A2 c2 ys (RY.out wr OB.out) YF.out YL.out); clear hh he hys hi0 hsz0 hyl htl hA2 hc2 YF YL
  go_wp2_with (go_at_call 29; refine OF.out.mono ?_; rintro e0 w5 ⟨p, rfl, hb, hi⟩; have B5 := Aside0.mk hb; have I5 := Aside0.mk hi; clear hb hi)
  have O2 := Aside0.mk (show OW w w5 gr l1.length cr (F3 l0 l1 f g f) from (O1.out.below B5.out).imp _ (fun j hj => by have := HIg.out; unfold F2 F3; split <;> (try split) <;> (try split) <;> (try omega))); have I6 := Aside0.mk (show ∃ base, IX w5 base p (ofN ys ys.length) (ofM ys ys.length) ∧ gr < base from ⟨_, I5.out, by obtain ⟨xs, h1, _⟩ := O1.out; exact Kd.R_lt h1 gr (by simp [Value.ownBlock])⟩); clear O1 OF B5 I5 OB HIf HIg
  go_loopg [11] (e - f) (fun kq v11 W => ∃ (x : Int) (i : Nat), v11 = .int .i64 x ∧ Aside0 (x = i ∧ i + kq = e ∧ f ≤ i) ∧ Aside0 (OW w W gr l1.length cr (F3 l0 l1 f g i)) ∧ Aside0 (∃ base, IX W base p (ofN ys ys.length) (ofM ys ys.length) ∧ gr < base))
  case atStart => exact ⟨_, f, rfl, ⟨rfl, by have := HH.out; have := HG.out; omega, Nat.le_refl _⟩, O2, I6⟩
  case round =>
  clear O2 I6; obtain ⟨x, i, rfl, HI, O2, I6⟩ := hrel
  cases gk with
  | succ k1 =>
    obtain rfl : x = (i : Int) := HI.out.1
    have hie : i < e := by have := HI.out.2; omega
    have hil : i < l1.length := by have := HH.out; omega
    have HIL := Aside0.mk (And.intro hie hil); obtain ⟨ad, rfl, t0, t1, t2⟩ := at_T50 (Kd.C_below R1.out (by obtain ⟨_, _, _, _, hb⟩ := O2.out; exact hb)) i (by omega) (by omega); obtain ⟨y, hy⟩ : ∃ y, rd_T50 l1 (i : Int) = y := ⟨_, rfl⟩; rw [hy] at t0 t1 t2; rw [Int.toNat_natCast] at t0 t1 t2; have HY := Aside0.mk hy; have HFY := Aside0.mk (show Fit y from by rw [← hy]; exact FT1.out i hil); have HW := Aside0.mk (show wrap64 ((i : Int) + 1) = ((i + 1 : Nat) : Int) from by have := HG.out; unfold wrap64; omega)
    have HK := Aside0.mk (show keptAt l0 l1 f g i = (match fnd ys y with | some n => ((f + n : Nat) : Int) | none => -1) from by
      have h1 := HH.out; have h2 := HI.out; unfold keptAt
      rw [if_neg (by omega), if_neg (by omega), hy, show l0.length - g = h by omega, h1.2.2])
    have hOM := ofM_fnd ys y ys.length (Nat.le_refl _); rw [List.take_length] at hOM; clear hy
    cases hf : fnd ys y with
    | some n =>
      rw [hf] at HK hOM; have HN := Aside0.mk (fnd_lt ys y n hf)
      have hwn : wrap64 ((f : Int) + (n : Int)) = ((f + n : Nat) : Int) := by have h1 := HH.out; have h2 := HG.out; have h3 := HN.out; rw [← h1.2.2, List.length_drop, List.length_take] at h3; unfold wrap64; omega
      have HGet := Aside0.mk (show ∀ W', Below wr.heap.size wr W' → Calls Try.prog 31 #[.pointer (some ⟨p, 0, none⟩), .agg #[.string y.f0, .string y.f1, .int .i64 y.f2]] W' fun e w' => e = .returned (.tuple #[.int .i64 (n : Int), .bool true]) ∧ Below W'.heap.size W' w' from fun W' hb => by
        obtain ⟨base, h1, h2⟩ := I6.out; refine (Index_Get W' base p _ _ y HFY.out (h1.below hb)).mono ?_; rintro e0 w0 ⟨rfl, hb0⟩; refine ⟨?_, hb0⟩
        rw [hOM]; rfl)
      clear hf hOM
      go_wp2_with (go_at_call 31; refine (HGet.out _ (by first | exact Below.refl _ _ | exact zA (Below.refl _ wr) _)).mono ?_; rintro e0 w6 ⟨rfl, hb⟩; have B6 := Aside0.mk hb; have O3 := Aside0.mk (O2.out.below B6.out); obtain ⟨hcr, hfr⟩ := O3.out.at_ i HIL.out.2; clear hb)
      go_roundg k1
      case measure => omega
      case rel =>
        refine ⟨_, i + 1, rfl, ⟨HW.out, by have := HI.out; omega, by have := HI.out; omega⟩, ⟨O3.out.put i _ _ (fun j hj => ?_)⟩, ⟨?_⟩⟩
        · have h1 := HH.out
          have h2 := HI.out
          by_cases c : j = i
          · subst c
            rw [if_pos rfl]
            unfold F3
            rw [if_neg (by omega), if_neg (by omega), if_pos (by omega), HK.out]
            try (first | rfl | (simp only []; omega))
          · rw [if_neg c]
            unfold F3
            split <;> (try split) <;> (try split) <;> (try split) <;> (try omega) <;> rfl
        · obtain ⟨base, h1, h2⟩ := I6.out
          exact ⟨base, (h1.below B6.out).far gr i _ h2, h2⟩
    | none =>
      rw [hf] at HK hOM
      have HGet := Aside0.mk (show ∀ W', Below wr.heap.size wr W' → Calls Try.prog 31 #[.pointer (some ⟨p, 0, none⟩), .agg #[.string y.f0, .string y.f1, .int .i64 y.f2]] W' fun e w' => e = .returned (.tuple #[.int .i64 0, .bool false]) ∧ Below W'.heap.size W' w' from fun W' hb => by
        obtain ⟨base, h1, h2⟩ := I6.out; refine (Index_Get W' base p _ _ y HFY.out (h1.below hb)).mono ?_; rintro e0 w0 ⟨rfl, hb0⟩; refine ⟨?_, hb0⟩
        rw [hOM]; rfl)
      clear hf hOM
      go_wp2_with (go_at_call 31; refine (HGet.out _ (by first | exact Below.refl _ _ | exact zA (Below.refl _ wr) _)).mono ?_; rintro e0 w6 ⟨rfl, hb⟩; have B6 := Aside0.mk hb; have O3 := Aside0.mk (O2.out.below B6.out); obtain ⟨hcr, hfr⟩ := O3.out.at_ i HIL.out.2; clear hb)
      go_roundg k1
      case measure => omega
      case rel =>
        refine ⟨_, i + 1, rfl, ⟨HW.out, by have := HI.out; omega, by have := HI.out; omega⟩, ⟨O3.out.put i _ _ (fun j hj => ?_)⟩, ⟨?_⟩⟩
        · have h1 := HH.out
          have h2 := HI.out
          by_cases c : j = i
          · subst c
            rw [if_pos rfl]
            unfold F3
            rw [if_neg (by omega), if_neg (by omega), if_pos (by omega), HK.out]
            try (first | rfl | (simp only []; omega))
          · rw [if_neg c]
            unfold F3
            split <;> (try split) <;> (try split) <;> (try split) <;> (try omega) <;> rfl
        · obtain ⟨base, h1, h2⟩ := I6.out
          exact ⟨base, (h1.below B6.out).far gr i _ h2, h2⟩
  | zero =>
    have hx : x = (e : Int) := by have := HI.out; omega
    subst hx; have HIe := Aside0.mk (show i = e from by have := HI.out; omega); clear HI
    go_wp2_with fail
    go_ret; obtain ⟨xs, h1, h2, h3, h4⟩ := O2.out; refine ⟨_, rfl, ?_, h4⟩
    have hxs : xs = keptL l0 l1 f g := by
      refine List.ext_getElem (by unfold keptL; rw [List.length_map, List.length_range, h2]) (fun j j1 j2 => ?_); have h5 := h3 j (by omega); rw [List.getD_eq_getElem?_getD, List.getElem?_eq_getElem j1, Option.getD_some] at h5
      have h7 : (keptL l0 l1 f g)[j] = keptAt l0 l1 f g j := by simp [keptL]
      rw [h5, h7, HIe.out]; have h6 := HH.out; unfold F3; split; (unfold keptAt; rw [if_pos (by assumption)])
      · split
        · unfold keptAt; rw [if_neg (by assumption), if_pos (by assumption)]
        · rw [if_pos (by omega)]
    rw [← hxs]; exact h1
end Go.Proofs.Ytpekchebllobmaa.G
namespace Go.Proofs.Ytpekchebllobmaa.G
open Go.RowKit Go.Proofs.YtpekchebllobmaaW.PrintWords Go.Proofs.YtpekchebllobmaaW.PrintLast Go.Proofs.YtpekchebllobmaaW.PrintMore
set_option linter.unusedVariables false
set_option linter.unusedSimpArgs false
attribute [local go_sem ↓] Go.wp_at_zero Go.wp_at_succ
/-- The game lies at block g; piles and what lay ahead are its own. -/
structure Lay (w0 W : World) (g : Nat) (Ap : Option Addr) (cp : Nat) (ps : List (List Int)) (ga ca : Nat) (ah : List Int) : Prop where
  blk : W.heap[g]? = some (.cells #[.slice Ap ps.length cp, .slice (some ⟨ga, 0, none⟩) ah.length ca] 77 (0, 0))
  g0 : w0.heap.size ≤ g
  S : Kd.S (Kd.slice 3 (Kd.int .i64)) 27 W w0.heap.size (fun k => k ≠ ga) (.slice Ap ps.length cp) ps
  R : Kd.R (Kd.int .i64) 3 W w0.heap.size (fun _ => True) (.slice (some ⟨ga, 0, none⟩) ah.length ca) ah
  B : Below w0.heap.size w0 W
theorem Lay.below {w0 W W1 : World} {g : Nat} {Ap : Option Addr} {cp : Nat} {ps : List (List Int)} {ga ca : Nat} {ah : List Int} (h : Lay w0 W g Ap cp ps ga ca ah) (hb : Below W.heap.size W W1) : Lay w0 W1 g Ap cp ps ga ca ah :=
  ⟨(hb.block _ (blk_lt h.blk)).trans h.blk, h.g0, Kd.S_below h.S hb, Kd.R_below h.R hb, h.B.trans (hb.mono h.B.size)⟩
theorem Lay.reads {w0 W : World} {g : Nat} {Ap : Option Addr} {cp : Nat} {ps : List (List Int)} {ga ca : Nat} {ah : List Int} (h : Lay w0 W g Ap cp ps ga ca ah) : Kd.C (Kd.slice 3 (Kd.int .i64)) W Ap ps.length ps := (Kd.S_reads' h.S).2.2
theorem Lay.ga {w0 W : World} {g : Nat} {Ap : Option Addr} {cp : Nat} {ps : List (List Int)} {ga ca : Nat} {ah : List Int} (h : Lay w0 W g Ap cp ps ga ca ah) : w0.heap.size ≤ ga ∧ ga < W.heap.size ∧ (∃ cells, W.heap[ga]? = some (.cells cells 3 (0, 0))) ∧ g ≠ ga := by
  obtain ⟨cells, hc⟩ := Kd.R_typed h.R ga (by simp [Value.ownBlock]); exact ⟨Kd.R_base h.R ga (by simp [Value.ownBlock]), blk_lt hc, ⟨cells, hc⟩, blk_ne h.blk hc (by decide)⟩
theorem Lay.ahead {w0 W : World} {g : Nat} {Ap : Option Addr} {cp : Nat} {ps : List (List Int)} {ga ca : Nat} {ah : List Int} (h : Lay w0 W g Ap cp ps ga ca ah) (i : Nat) (x : Int) :
    Lay w0 (W.setCell ⟨ga, i, none⟩ (.int .i64 x)) g Ap cp ps ga ca (ah.set i x) := by
  obtain ⟨h1, h2, _, h4⟩ := h.ga; obtain ⟨r1, r2⟩ := Rint_store h.R i x; exact ⟨by rw [List.length_set]; exact zG h.blk h4 _, h.g0, Kd.S_far h.S (fun _ hk => hk) _, by rw [List.length_set]; exact r1, zS h.B h1⟩
theorem Lay.more {w0 W W1 : World} {g : Nat} {Ap : Option Addr} {cp : Nat} {ps ps1 : List (List Int)} {ga ca : Nat} {ah : List Int} (h : Lay w0 W g Ap cp ps ga ca ah) {v1 : Value}
    (hS : Kd.S (Kd.slice 3 (Kd.int .i64)) 27 W1 w0.heap.size (fun k => k ≠ ga) v1 ps1) (hB : Below w0.heap.size w0 W1) (hg : W.grownBy W1 (Value.slice Ap ps.length cp).ownBlock) :
    (∃ A1 c1, v1 = .slice A1 ps1.length c1) ∧ W1.heap[g]? = some (.cells #[.slice Ap ps.length cp, .slice (some ⟨ga, 0, none⟩) ah.length ca] 77 (0, 0)) ∧
      ∀ A1 c1, v1 = .slice A1 ps1.length c1 → Lay w0 (W1.setCell ⟨g, 0, none⟩ v1) g A1 c1 ps1 ga ca ah := by
  have hb := blk_grown h.blk hg (Kd.S_ne h.S h.blk (by decide)); refine ⟨Kd.S_slice hS, hb, fun A1 c1 e => ?_⟩; subst e
  have hR : Kd.R (Kd.int .i64) 3 W1 w0.heap.size (fun _ => True) (.slice (some ⟨ga, 0, none⟩) ah.length ca) ah :=
    Kd.R_grown1 h.R rfl hg (fun he => (Kd.S_R h.S).1 ga he rfl)
  exact ⟨blk_set hb 0 _, h.g0, Kd.S_set hS hb (by decide) 0 _, Kd.R_set hR hb (by decide) 0 _, zS hB h.g0⟩
theorem Lay.elem {w0 W : World} {g po : Nat} {cp : Nat} {ps : List (List Int)} {ga ca : Nat} {ah : List Int} (h : Lay w0 W g (some ⟨po, 0, none⟩) cp ps ga ca ah) (k : Int) (h0 : 0 ≤ k) (h1 : k < ps.length) :
    ∃ Av cv, ∃ ok5 : Nat → Prop, W.cell? ⟨po, k.toNat, none⟩ = some (.slice Av (ps.getD k.toNat []).length cv) ∧ W.frozen? ⟨po, k.toNat, none⟩ = false ∧ (∀ j, W.heap.size ≤ j → ok5 j) ∧
      Kd.R (Kd.int .i64) 3 W w0.heap.size ok5 (.slice Av (ps.getD k.toNat []).length cv) (ps.getD k.toNat []) ∧
      ∀ v5 w5 xs5, Kd.R (Kd.int .i64) 3 w5 w0.heap.size ok5 v5 xs5 → W.grownBy w5 (Value.slice Av (ps.getD k.toNat []).length cv).ownBlock → Below w0.heap.size w0 w5 →
        (∃ A5 c5, v5 = .slice A5 xs5.length c5) ∧ w5.cell? ⟨g, 0, none⟩ = some (.slice (some ⟨po, 0, none⟩) ps.length cp) ∧ w5.cell? ⟨po, k.toNat, none⟩ = some (.slice Av (ps.getD k.toNat []).length cv) ∧ w5.frozen? ⟨po, k.toNat, none⟩ = false ∧
        Lay w0 (w5.setCell ⟨po, k.toNat, none⟩ v5) g (some ⟨po, 0, none⟩) cp (ps.set k.toNat xs5) ga ca ah := by
  obtain ⟨oki, c, hcl, hM, hcc, hfr, hok, hH⟩ := Kd.S_elem h.S [] k h0 h1; obtain ⟨v, rfl, hRv⟩ := hM; obtain ⟨Av, cv, rfl⟩ := Kd.R_slice hRv
  have ek : k.toNat * (Kd.slice 3 (Kd.int .i64)).sz + 0 = k.toNat := by show k.toNat * 1 + 0 = _; omega
  have hci := hcc 0 _ rfl; have hfi := hfr 0; rw [ek] at hci hfi; obtain ⟨hga1, hga2, hga3, hgg⟩ := h.ga; have hpob : w0.heap.size ≤ po := Kd.S_base h.S po (by simp [Value.ownBlock]); have hpoga : po ≠ ga := (Kd.S_R h.S).1 po (by simp [Value.ownBlock])
  have hgpo : g ≠ po := fun he => Kd.S_ne h.S h.blk (by decide) (by rw [he]; simp [Value.ownBlock])
  have hH2 := Kd.H_widen hH; refine ⟨Av, cv, fun j => oki j ∨ (j ≠ ga ∧ W.heap.size ≤ j), hci, hfi, fun j hj => .inr ⟨by omega, hj⟩, Kd.R_mono hRv (fun j hj => .inl hj), ?_⟩; intro v5 w5 xs5 hR5 hg5 hB5
  have hrow : ∀ j, (Value.slice Av (ps.getD k.toNat []).length cv).ownBlock = some j → oki j := fun j hj => hRv.1 j hj
  have hgn : ∀ j, (∀ i, oki i → i ≠ j) → some j ≠ (Value.slice Av (ps.getD k.toNat []).length cv).ownBlock := fun j hj he => hj j (hrow j he.symm) rfl
  have hpo : w5.heap[po]? = W.heap[po]? := hg5.block po (Kd.S_lt h.S po (by simp [Value.ownBlock])) (hgn po (fun i hi => (hok i hi).2))
  have hbg : w5.heap[g]? = W.heap[g]? := by
    refine hg5.block g (blk_lt h.blk) (fun he => ?_); obtain ⟨cells, hc⟩ := Kd.R_typed hRv g he.symm; exact blk_ne h.blk hc (by decide) rfl
  have hga : w5.heap[ga]? = W.heap[ga]? := hg5.block ga hga2 (hgn ga (fun i hi => (hok i hi).1)); refine ⟨Kd.R_slice hR5, ?_, (World.cell?_of_block (a := ⟨po, k.toNat, none⟩) hpo).trans hci, (World.frozen?_of_block (a := ⟨po, k.toNat, none⟩) hpo).trans hfi, ?_⟩; (exact (World.cell?_of_block (a := ⟨g, 0, none⟩) hbg).trans ((zC h.blk 0).trans rfl))
  · have hH5 := Kd.H_grown hH2 hg5 (fun j hj => .inl (hrow j hj))
    obtain ⟨hH6, hg6⟩ := Kd.H_seg (seg := [v5]) (j := 0) hH5 h0 h1 (by show 0 + 1 ≤ 1; omega) (fun q hq => by simp at hq; subst hq; obtain ⟨a, b, rfl⟩ := Kd.R_slice hR5; rfl)
    have es : w5.setCells po (k.toNat * (Kd.slice 3 (Kd.int .i64)).sz + 0) [v5] = w5.setCell ⟨po, k.toNat, none⟩ v5 := by rw [ek]; rfl
    rw [es] at hH6 hg6
    have hS7 := Kd.H_back hH6 (x' := xs5) (okp := fun j => oki j ∨ j ≠ ga ∧ W.heap.size ≤ j) ⟨v5, rfl, Kd.R_far hR5 (fun j hj => by
      rcases hj with hj | hj
      · exact (hok j hj).2
      · have := Kd.S_lt h.S po (by simp [Value.ownBlock]); show j ≠ po; omega) _⟩ (fun j hj => by rcases hj with hj | hj; exact .inl hj; exact .inr hj)
    refine ⟨by rw [List.length_set]; exact zG (hbg.trans h.blk) hgpo _, h.g0, by rw [List.length_set]; exact hS7, ?_, zS hB5 hpob⟩
    have hRa : Kd.R (Kd.int .i64) 3 w5 w0.heap.size (fun _ => True) (.slice (some ⟨ga, 0, none⟩) ah.length ca) ah := Kd.R_move (Kd.R_tight rfl h.R) (fun j hj => by
      have : j = ga := by simpa [Value.ownBlock] using hj
      subst this; exact hga) |> fun h => Kd.R_mono h (fun _ _ => trivial)
    exact Kd.R_mono (Kd.R_far (Kd.R_tight rfl hRa) (p := ⟨po, k.toNat, none⟩) (fun j hj => by
      have : j = ga := by simpa [Value.ownBlock] using hj
      subst this; exact fun he => hpoga he.symm) v5) (fun _ _ => trivial)
def Game (w0 W : World) (g : Nat) (ps : List (List Int)) (ah : List Int) : Prop :=
  ∃ PV AV, W.heap[g]? = some (.cells #[PV, AV] 77 (0, 0)) ∧ w0.heap.size ≤ g ∧
    Kd.S (Kd.slice 3 (Kd.int .i64)) 27 W w0.heap.size (fun k => some k ≠ AV.ownBlock) PV ps ∧
    Kd.R (Kd.int .i64) 3 W w0.heap.size (fun _ => True) AV ah ∧ Below w0.heap.size w0 W
theorem Game.lay {w0 W : World} {g : Nat} {ps : List (List Int)} {ah : List Int} (h : Game w0 W g ps ah) (h0 : 0 < ah.length) : ∃ Ap cp ga ca, Lay w0 W g Ap cp ps ga ca ah := by
  obtain ⟨PV, AV, hg, hgb, hS, hA, hB⟩ := h; obtain ⟨Ap, cp, rfl⟩ := Kd.S_slice hS; obtain ⟨ga, ca, rfl, hga1, hga2, _⟩ := Kd.R_form hA h0; exact ⟨Ap, cp, ga, ca, hg, hgb, Kd.S_mono hS (fun k hk he => hk (by rw [he]; rfl)), hA, hB⟩
theorem Lay.game {w0 W : World} {g : Nat} {Ap : Option Addr} {cp : Nat} {ps : List (List Int)} {ga ca : Nat} {ah : List Int} (h : Lay w0 W g Ap cp ps ga ca ah) : Game w0 W g ps ah :=
  ⟨_, _, h.blk, h.g0, Kd.S_mono h.S (fun k hk he => hk (by simpa [Value.ownBlock] using he)), h.R, h.B⟩
set_option maxHeartbeats 4000000 in
theorem play_calls (A0 : Option Addr) (c0 : Nat) (l : List Int) (w : World) (hr0 : Kd.C (Kd.int .i64) w A0 l.length l) (hc0 : l.length ≤ c0) (hl : l.length ≤ 1000000) :
    Calls Try.prog 37 #[.slice A0 l.length c0] w fun e w' => ∃ g, e = .returned (.pointer (some ⟨g, 0, none⟩)) ∧ Game w w' g (playN l l.length).1 (playN l l.length).2 := by
  have HR := Aside0.mk hr0; have hu32 := Try.underlying77; clear hr0
  go_enter Try.func37, Try.ntmps37
  go_wp2_with ((at_make; refine Kd.R_make (Kd.int .i64) w.heap.size 3 rfl rfl 27 _ _ rfl (l.length : Int) rfl rfl Try.underlying27 (.int .i64 0) 8 hinfo3 rfl (by decide) (by decide) 0 (ok := fun _ => True) (okp := fun _ => True) rfl (fun _ _ => trivial) trivial (by omega) (by rw [Int.toNat_natCast]; omega) (Below.refl _ w) (Nat.le_refl _) ?_; intro AV w1 HA HB _ hAB; obtain ⟨A1, c1, eAV⟩ := Kd.R_slice HA; rw [List.length_replicate, Int.toNat_natCast] at eAV; subst eAV; have HA1 := Aside0.mk HA; have HB1 := Aside0.mk HB; have HAB := Aside0.mk hAB; clear HA HB hAB))
  go_loopg [14] l.length (fun k v14 w' => ∃ i : Nat, v14 = .int .i64 i ∧ Aside0 (i + k = l.length ∧ Game w w' w1.heap.size (playN l i).1 (playN l i).2))
  case atStart =>
    refine ⟨0, rfl, ⟨by omega, .slice none 0 0, _, heap_alloc_new w1 _, HB1.out.size, Kd.S_nil _ _ _ _ _, ?_, zA HB1.out _⟩⟩; have h := Kd.R_alloc HA1.out (.cells #[.slice none 0 0, .slice A1 l.length c1] 77); rw [Int.toNat_natCast] at h; exact h
  case round =>
    obtain ⟨i, rfl, HI⟩ := hrel
    by_cases hlt : i < l.length
    · obtain ⟨hik, hgame⟩ := HI.out
      have HPI := Aside0.mk (playN_inv l i (by omega))
      obtain ⟨Ap, cp, ga, ca, hLay⟩ := hgame.lay (by rw [HPI.out.ahl]; omega)
      obtain ⟨st, hst⟩ : ∃ st, playN l i = st := ⟨_, rfl⟩
      rw [hst] at hLay HPI
      have HST := Aside0.mk hst
      have HLC := Aside0.mk (Kd.C_below HR.out hLay.B)
      obtain ⟨ad, ead, hxl⟩ := Kd.at_int HLC.out (i : Int) (by omega) (by omega)
      cases ead
      rw [Int.toNat_natCast] at hxl
      have HY := Aside0.mk hLay
      have HPS : st.1.length ≤ i := HPI.out.psl
      clear hst hLay hgame
      by_cases hneg : rd l i < 0
      · have HEN := Aside0.mk (show playN l (i + 1) = st by
          rw [show playN l (i + 1) = playStep l (playN l i) i from rfl, HST.out]
          unfold playStep
          rw [if_pos hneg])
        go_wp2_with fail
        go_roundg (l.length - (i + 1))
        case measure => omega
        case rel => exact ⟨i + 1, by go_num, ⟨by omega, by rw [HEN.out]; exact HY.out.game⟩⟩
      · have HNG := Aside0.mk hneg
        obtain ⟨hk0, hk1⟩ := findL_range l st.1 (rd l i) st.1.length 0 st.1.length (by omega)
        have HFC := find_calls w1.heap.size st.1 l Ap cp _ (some ad) c0 (rd l i) _ HY.out.blk HY.out.reads HLC.out (by omega) (by omega) (fun j h0 h1 => by have := HPI.out.at_ (by omega) j h0 h1; omega)
        obtain ⟨k, hk⟩ : ∃ k, findL st.1.length l st.1 (rd l i) 0 st.1.length = k := ⟨_, rfl⟩
        rw [hk] at HFC hk0 hk1
        have HK := Aside0.mk hk
        have HFC := Aside0.mk HFC
        clear hk HI
        go_wp2_with ((go_at_call 43; refine HFC.out.mono ?_; rintro e w' ⟨rfl, ⟨m, rfl⟩⟩))
        refine wp_region_still_tail 9 (by kernel_rfl) (by kernel_rfl) ?_
        obtain ⟨W2, hW2⟩ : ∃ W2 : World, (⟨(wr.drewN m).heap, (wr.drewN m).tape, (wr.drewN m).drawn + 1, (wr.drewN m).os, (wr.drewN m).output⟩ : World) = W2 := ⟨_, rfl⟩
        rw [hW2]
        have hB2 : Below wr.heap.size wr W2 := by subst hW2; exact ⟨rfl, rfl, rfl, Nat.le_refl _, fun _ _ => rfl⟩
        replace HY := Aside0.mk (HY.out.below hB2)
        clear HFC hW2 hxl HLC hB2
        have hcg1 := (zC HY.out.blk 1).trans rfl
        obtain ⟨hcA, hfA⟩ := Rint_at HY.out.R i (by rw [HPI.out.ahl]; omega)
        have HTC := Aside0.mk (top_calls w1.heap.size st.1 Ap cp _ (k - 1) W2 HY.out.blk HY.out.reads (fun h0 h1 => by have := HPI.out.at_ (by omega) _ h0 h1; omega))
        have hwk : IntKind.i64.wrap (k - 1) = k - 1 := IntWalk.i64_in _ (by omega)
        have hil : (i : Int) < (st.2.length : Int) := by rw [HPI.out.ahl]; omega
        simp only [List.take_succ_cons, List.take_zero, List.drop_succ_cons, List.drop_zero]
        iterate 8 still_step
        still_call HTC.out
        refine wpStill_nil ?_
        clear hwk HTC
        go_upto_region 8 with (fail)
        obtain ⟨W3, hW3⟩ : ∃ W3 : World, W2.setCell ⟨ga, i, none⟩ (.int .i64 (topAt st.1 (k - 1))) = W3 := ⟨_, rfl⟩
        rw [hW3]
        replace HY := Aside0.mk (hW3 ▸ HY.out.ahead i (topAt st.1 (k - 1)))
        clear hcg1 hcA hfA hW3 hil
        have hcg0 := (zC HY.out.blk 0).trans rfl
        go_upto_if 41 with (fail)
        go_cut [] (fun wc => ∃ (ps2 : List (List Int)) (Ap2 : Option Addr) (cp2 : Nat), Aside0 (ps2 = if k = st.1.length then st.1 ++ [[]] else st.1) ∧ Aside0 (Lay w wc w1.heap.size Ap2 cp2 ps2 ga ca (st.2.set i (topAt st.1 (k - 1)))))
        case first =>
          by_cases hkl : k = st.1.length
          · have hkd : (k == (st.1.length : Int)) = true := by simpa using hkl
            have HKL := Aside0.mk hkl
            clear hkl
            go_wp2_with ((at_builtin; refine Kd.S_append (Kd.slice 3 (Kd.int .i64)) (w0 := w) w.heap.size rfl _ _ 75 27 (.slice none 0 0) 24 rfl Try.underlying75 hinfo22 rfl (by decide) (by decide) _ st.1 [] [.slice none 0 0] (fun k => k ≠ ga) (fun _ => False) rfl rfl ⟨_, rfl, Kd.R_nil _ _ _ _ _⟩ (fun _ h => h.elim) (fun j hj => by have := HY.out.ga.2.1; omega) (Kd.S_mono HY.out.S (fun _ h => ⟨h, fun h2 => h2⟩)) HY.out.B HY.out.B.size (by omega) ?_; intro v4 w4 hS4 hB4 hg4 _; obtain ⟨⟨A4, c4, rfl⟩, hb4, hL4⟩ := HY.out.more hS4 hB4 hg4; have H4 := Aside0.mk (hL4 _ _ rfl); have hc4 := (zC hb4 0).trans rfl; have hf4 := zR hb4 0; clear hS4 hB4 hg4 hL4 hb4))
            go_meet
            case rel => exact ⟨st.1 ++ [[]], A4, c4, ⟨(if_pos HKL.out).symm⟩, ⟨by have h := H4.out; rw [show (st.1 ++ [([] : List Int)]).length = st.1.length + 1 from by simp] at h; exact h⟩⟩
          · have hkd : (k == (st.1.length : Int)) = false := by simpa using hkl
            have HKL := Aside0.mk hkl
            clear hkl
            go_wp2_with fail
            go_meet
            case rel => exact ⟨st.1, Ap, cp, ⟨(if_neg HKL.out).symm⟩, HY⟩
        case rest =>
          obtain ⟨ps2, Ap2, cp2, HP2, HY2⟩ := hcut
          have hk2 : k < (ps2.length : Int) := by rw [HP2.out]; split <;> (try simp only [List.length_append, List.length_cons, List.length_nil]) <;> omega
          obtain ⟨po, _, ePo, hpo1, hpo2, _⟩ := Kd.S_form HY2.out.S (by omega); injection ePo with ePo _ eCp; subst ePo; subst eCp; obtain ⟨Av, cv, ok5, hci, hfi, hok5, hRv, hput⟩ := HY2.out.elem k hk0 hk2
          have hgp : ¬ po = w1.heap.size := fun he => Kd.S_ne HY2.out.S HY2.out.blk (by decide) (by rw [he]; simp [Value.ownBlock])
          have hgp2 : ¬ w1.heap.size = po := fun he => hgp he.symm
          obtain ⟨pk, hpk⟩ : ∃ pk, ps2.getD k.toNat [] = pk := ⟨_, rfl⟩; rw [hpk] at hci hRv hput; have HPK := Aside0.mk hpk
          have HPL := Aside0.mk (show pk.length ≤ 1000000 by
            rw [← hpk, HP2.out]; split
            · by_cases hx : k.toNat < st.1.length
              · rw [List.getD_eq_getElem?_getD, List.getElem?_append_left hx, List.getElem?_eq_getElem hx]
                have := (HPI.out.pile _ (List.getElem_mem hx)).2.1
                simp only [Option.getD_some]; omega
              · rw [List.getD_eq_getElem?_getD, List.getElem?_append_right (by omega), show k.toNat - st.1.length = 0 from by omega]
                simp
            · rename_i hx
              rw [List.getD_eq_getElem?_getD, List.getElem?_eq_getElem (show k.toNat < st.1.length by omega)]
              have := (HPI.out.pile _ (List.getElem_mem (show k.toNat < st.1.length by omega))).2.1
              simp only [Option.getD_some]; omega)
          clear hpk; have hc0 := (zC HY2.out.blk 0).trans rfl; have HM := Aside0.mk (And.intro hok5 (And.intro hRv hput)); clear hok5 hRv hput
          go_wp2_with fail
          refine start_ (n := 17) (S := (fun w' => w'.cell? ⟨w1.heap.size, 0, none⟩ = some (.slice (some ⟨po, 0, none⟩) ps2.length cp2) ∧ w'.cell? ⟨po, k.toNat, none⟩ = some (.slice Av pk.length cv))) (ds := [16]) #[false, false, false, false, false, false, false, false, false, false, false, false, false, false, false, false, false] (by kernel_rfl) rfl rfl ?_ ?_; (exact ⟨hc0, hci⟩); intro hHeld; refine pure_ (i := 0) (N := some 51) (v := ?_) (a' := ?_) #[true, false, false, false, false, false, false, false, false, false, false, false, false, false, false, false, false] rfl rfl (by kernel_rfl) (fun _ _ _ h => h) (Or.inl ⟨by rfl, ?_⟩) ?_ ?_; rotate_left; (intro w'; go_simp; (with_reducible rfl)); rotate_left; (simp only [Act.put, List.setIfInBounds_toArray, List.set_cons_zero, List.set_cons_succ, i64_w, i32_w]; rfl); refine pure_ (i := 1) (N := some 52) (v := ?_) (a' := ?_) #[true, true, false, false, false, false, false, false, false, false, false, false, false, false, false, false, false] rfl rfl (by kernel_rfl) (fun _ _ _ h => h) (Or.inl ⟨by rfl, ?_⟩) ?_ ?_; rotate_left; (intro w'; go_simp; (with_reducible rfl)); rotate_left; (simp only [Act.put, List.setIfInBounds_toArray, List.set_cons_zero, List.set_cons_succ, i64_w, i32_w]; rfl); refine pure_ (i := 2) (N := some 53) (v := ?_) (a' := ?_) #[true, true, true, false, false, false, false, false, false, false, false, false, false, false, false, false, false] rfl rfl (by kernel_rfl) (fun _ _ _ h => h) (Or.inl ⟨by rfl, ?_⟩) ?_ ?_; rotate_left; (intro w'; go_simp; (with_reducible rfl)); rotate_left; (simp only [Act.put, List.setIfInBounds_toArray, List.set_cons_zero, List.set_cons_succ, i64_w, i32_w]; rfl); refine pure_ (i := 4) (N := some 55) (v := ?_) (a' := ?_) #[true, true, true, false, true, false, false, false, false, false, false, false, false, false, false, false, false] rfl rfl (by kernel_rfl) (fun _ _ _ h => h) (Or.inl ⟨by rfl, ?_⟩) ?_ ?_; rotate_left; (intro w'; go_simp; (with_reducible rfl)); rotate_left; (simp only [Act.put, List.setIfInBounds_toArray, List.set_cons_zero, List.set_cons_succ, i64_w, i32_w]; rfl); refine pure_ (i := 5) (N := some 56) (v := ?_) (a' := ?_) #[true, true, true, false, true, true, false, false, false, false, false, false, false, false, false, false, false] rfl rfl (by kernel_rfl) (fun _ _ _ h => h) (Or.inl ⟨by rfl, ?_⟩) ?_ ?_; rotate_left; (intro w'; go_simp; (with_reducible rfl)); rotate_left; (simp only [Act.put, List.setIfInBounds_toArray, List.set_cons_zero, List.set_cons_succ, i64_w, i32_w]; rfl); refine pure_ (i := 6) (N := some 57) (v := ?_) (a' := ?_) #[true, true, true, false, true, true, true, false, false, false, false, false, false, false, false, false, false] rfl rfl (by kernel_rfl) (fun _ _ _ h => h) (Or.inl ⟨by rfl, ?_⟩) ?_ ?_; rotate_left; (intro w'; go_simp; (with_reducible rfl)); rotate_left; (simp only [Act.put, List.setIfInBounds_toArray, List.set_cons_zero, List.set_cons_succ, i64_w, i32_w]; rfl); refine pure_ (i := 7) (N := some 58) (v := ?_) (a' := ?_) #[true, true, true, false, true, true, true, true, false, false, false, false, false, false, false, false, false] rfl rfl (by kernel_rfl) (fun _ _ _ h => h) (Or.inl ⟨by rfl, ?_⟩) ?_ ?_; rotate_left; (intro w'; go_simp; (with_reducible rfl)); rotate_left; (simp only [Act.put, List.setIfInBounds_toArray, List.set_cons_zero, List.set_cons_succ, i64_w, i32_w]; rfl); refine pure_ (i := 9) (N := some 60) (v := ?_) (a' := ?_) #[true, true, true, false, true, true, true, true, false, true, false, false, false, false, false, false, false] rfl rfl (by kernel_rfl) (fun _ _ _ h => h) (Or.inl ⟨by rfl, ?_⟩) ?_ ?_; rotate_left; (intro w'; go_simp; (with_reducible rfl)); rotate_left; (simp only [Act.put, List.setIfInBounds_toArray, List.set_cons_zero, List.set_cons_succ, i64_w, i32_w]; rfl); refine pure_ (i := 12) (N := some 63) (v := ?_) (a' := ?_) #[true, true, true, false, true, true, true, true, false, true, false, false, true, false, false, false, false] rfl rfl (by kernel_rfl) (fun _ _ _ h => h) (Or.inl ⟨by rfl, ?_⟩) ?_ ?_; rotate_left; (intro w'; go_simp; (with_reducible rfl)); rotate_left; (simp only [Act.put, List.setIfInBounds_toArray, List.set_cons_zero, List.set_cons_succ, i64_w, i32_w]; rfl); refine take_ (i := 3) (N := some 54) (v := ?_) (a' := ?_) #[true, true, true, true, true, true, true, true, false, true, false, false, true, false, false, false, false] rfl rfl (by kernel_rfl) (fun _ _ _ h => h) (Or.inl ⟨by rfl, ?_⟩) hHeld ?_ ?_; rotate_left; (rintro w' ⟨s0, s1⟩; go_simp; (with_reducible rfl)); rotate_left; (simp only [Act.put, List.setIfInBounds_toArray, List.set_cons_zero, List.set_cons_succ, i64_w, i32_w]; rfl); refine take_ (i := 8) (N := some 59) (v := ?_) (a' := ?_) #[true, true, true, true, true, true, true, true, true, true, false, false, true, false, false, false, false] rfl rfl (by kernel_rfl) (fun _ _ _ h => h) (Or.inl ⟨by rfl, ?_⟩) hHeld ?_ ?_; rotate_left; (rintro w' ⟨s0, s1⟩; go_simp; (with_reducible rfl)); rotate_left; (simp only [Act.put, List.setIfInBounds_toArray, List.set_cons_zero, List.set_cons_succ, i64_w, i32_w]; rfl); refine pure_ (i := 10) (N := some 61) (v := ?_) (a' := ?_) #[true, true, true, true, true, true, true, true, true, true, true, false, true, false, false, false, false] rfl rfl (by kernel_rfl) (fun _ _ _ h => h) (Or.inl ⟨by rfl, ?_⟩) ?_ ?_; rotate_left; (intro w'; go_simp; (with_reducible rfl)); rotate_left; (simp only [Act.put, List.setIfInBounds_toArray, List.set_cons_zero, List.set_cons_succ, i64_w, i32_w]; rfl); refine take_ (i := 11) (N := some 62) (v := ?_) (a' := ?_) #[true, true, true, true, true, true, true, true, true, true, true, true, true, false, false, false, false] rfl rfl (by kernel_rfl) (fun _ _ _ h => h) (Or.inl ⟨by rfl, ?_⟩) hHeld ?_ ?_; rotate_left; (rintro w' ⟨s0, s1⟩; go_simp; (with_reducible rfl)); rotate_left; (simp only [Act.put, List.setIfInBounds_toArray, List.set_cons_zero, List.set_cons_succ, i64_w, i32_w]; rfl); refine one_ (i := 13) (N := some 64) #[true, true, true, true, true, true, true, true, true, true, true, true, true, true, false, false, false] rfl rfl (by kernel_rfl) (by decide) (fun K hK => ?_); refine value_ (w1 := ?_) (v := ?_) (by rfl) rfl ?_ ?_; rotate_left 2
          · go_simp
            constructor
            · rfl
            · rfl
          refine hK.out _ _ ⟨(World.cell?_alloc_lt _ _ _ (World.block_lt_of_cell? _ _ hc0)).trans hc0, (World.cell?_alloc_lt _ _ _ (World.block_lt_of_cell? _ _ hci)).trans hci⟩ (fun hHeld => ?_); clear hK K; refine norm_ (a' := ?_) ?_ ?_; rotate_left
          · show Act.put _ (some 64) _ = _
            simp only [Act.put, List.setIfInBounds_toArray, List.set_cons_zero, List.set_cons_succ, i64_w, i32_w]
            rfl
          refine one_ (i := 14) (N := some 65) #[true, true, true, true, true, true, true, true, true, true, true, true, true, true, true, false, false] rfl rfl (by kernel_rfl) (by decide) (fun K hK => ?_); refine Kd.R_append_step (Kd.int .i64) (w0 := w) (W := wc.drew) w.heap.size (by rfl) (.tmp 62) (.tmp 64) 27 3 (.int .i64 0) 8 (by rfl) Try.underlying27 hinfo3 rfl (by decide) (by decide) (.slice Av pk.length cv) pk (i : Int) [.int .i64 i] ok5 (fun _ => False) (by rfl) (by rfl) rfl (fun _ h => h.elim) HM.out.1 (Kd.R_below HM.out.2.1 ⟨rfl, rfl, rfl, Nat.le_refl _, fun _ _ => rfl⟩) (HY2.out.B.trans ⟨rfl, rfl, rfl, Nat.le_refl _, fun _ _ => rfl⟩) HY2.out.B.size (by have := HPL.out; omega) ?_; intro v5 w5 hR5 hB5 hg5 _; obtain ⟨⟨A5, c5, rfl⟩, hcg5, hci5, hfi5, hL5⟩ := HM.out.2.2 v5 w5 _ hR5 ⟨hg5.os, hg5.tape, hg5.output, hg5.size, hg5.block⟩ hB5; have HL5 := Aside0.mk hL5; clear hR5 hB5 hg5 hL5; refine hK.out _ _ ⟨hcg5, hci5⟩ (fun hHeld => ?_); clear hK K; refine norm_ (a' := ?_) ?_ ?_; rotate_left
          · show Act.put _ (some 65) _ = _
            simp only [Act.put, List.setIfInBounds_toArray, List.set_cons_zero, List.set_cons_succ, i64_w, i32_w]
            rfl
          refine pure_ (i := 15) (N := some 66) (v := ?_) (a' := ?_) #[true, true, true, true, true, true, true, true, true, true, true, true, true, true, true, true, false] rfl rfl (by kernel_rfl) (fun _ _ _ h => h) (Or.inl ⟨by rfl, ?_⟩) ?_ ?_; rotate_left; (intro w'; go_simp; (with_reducible rfl)); rotate_left; (simp only [Act.put, List.setIfInBounds_toArray, List.set_cons_zero, List.set_cons_succ, i64_w, i32_w]; rfl); refine last_ (i := 16) (N := none) #[true, true, true, true, true, true, true, true, true, true, true, true, true, true, true, true, true] rfl rfl (by kernel_rfl) (by decide) (fun K hK => ?_); refine skip_ (w1 := ?_) (by rfl) rfl ?_ ?_; rotate_left; (go_simp; rfl); refine hK.out _ _ ?_; clear hK K; refine done_ (by kernel_rfl) ?_
          · have HEND := Aside0.mk (show playN l (i + 1) = (ps2.set k.toNat (pk ++ [(i : Int)]), st.2.set i (topAt st.1 (k - 1))) by
              rw [show playN l (i + 1) = playStep l (playN l i) i from rfl, HST.out]
              unfold playStep
              rw [if_neg (by have := HNG.out; omega), HK.out]
              show (((if k = (st.1.length : Int) then st.1 ++ [[]] else st.1).set k.toNat ((if k = (st.1.length : Int) then st.1 ++ [[]] else st.1).getD k.toNat [] ++ [(i : Int)])), st.2.set i (topAt st.1 (k - 1))) = _
              rw [← HP2.out, HPK.out])
            go_wp2_with fail
            go_roundg (l.length - (i + 1))
            case measure => omega
            case rel => exact ⟨i + 1, by go_num, ⟨by omega, by rw [HEND.out]; have h := HL5.out.game; rw [show (pk ++ [(i : Int)]).length = pk.length + 1 from by simp] at h; exact h⟩⟩
    · go_wp2_with fail
      go_ret
      obtain rfl : i = l.length := by have := HI.out.1; omega
      exact ⟨_, rfl, HI.out.2⟩
end Go.Proofs.Ytpekchebllobmaa.G
namespace Go.Proofs.Ytpekchebllobmaa.G
open Go.RowKit Go.Proofs.YtpekchebllobmaaW.PrintWords Go.Proofs.YtpekchebllobmaaW.PrintLast Go.Proofs.YtpekchebllobmaaW.PrintMore
set_option linter.unusedVariables false
set_option linter.unusedSimpArgs false
/-- What lay ahead: a place of the pile ahead, or -1. -/
def AInv (ps : List (List Int)) (ah : List Int) (i : Nat) : Prop :=
  ∀ (k : Nat) (x : Int), x ∈ ps.getD k [] → 0 ≤ x ∧ x < i ∧ (k = 0 → rd ah x = -1) ∧ ∀ k', k = k' + 1 → rd ah x ∈ ps.getD k' [] ∧ rd ah x < x
theorem rd_set {xs : List Int} {i : Nat} {x : Int} {j : Int} (hj : 0 ≤ j) : rd (xs.set i x) j = if j = i then (if i < xs.length then x else 0) else rd xs j := by
  unfold rd; simp only [List.getD_eq_getElem?_getD, List.getElem?_set]
  by_cases h : j = (i : Int)
  · subst h
    simp
    split
    · rfl
    · rfl
  · rw [if_neg (by omega), if_neg h]
theorem getD_stepped (ps : List (List Int)) (k : Nat) (hk : k ≤ ps.length) (x : Int) (j : Nat) :
    (((if (k : Int) = ps.length then ps ++ [[]] else ps).set k ((if (k : Int) = ps.length then ps ++ [[]] else ps).getD k [] ++ [x])).getD j []) = if j = k then ps.getD k [] ++ [x] else ps.getD j [] := by
  have e : ∀ j, (if (k : Int) = ps.length then ps ++ [[]] else ps).getD j [] = ps.getD j [] := by
    intro j; split
    · simp only [List.getD_eq_getElem?_getD]
      by_cases h : j < ps.length
      · rw [List.getElem?_append_left h]
      · rw [List.getElem?_append_right (by omega), List.getElem?_eq_none (show ps.length ≤ j by omega)]
        by_cases h2 : j - ps.length = 0
        · rw [h2]; rfl
        · rw [List.getElem?_eq_none (by simp; omega)]
    · rfl
  have hl : k < (if (k : Int) = ps.length then ps ++ [[]] else ps).length := by split <;> (try simp only [List.length_append, List.length_cons, List.length_nil]) <;> omega
  rw [e k]; simp only [List.getD_eq_getElem?_getD, List.getElem?_set]
  by_cases h : j = k
  (subst h; simp [hl]); (rw [if_neg (by omega), if_neg h]; have := e j; simp only [List.getD_eq_getElem?_getD] at this; exact this)
theorem rd_last_mem (q : List Int) (h : 0 < q.length) : rd q (q.length - 1) ∈ q := by
  unfold rd; rw [List.getD_eq_getElem?_getD, List.getElem?_eq_getElem (by omega)]; exact List.getElem_mem _
theorem topAt_mem {l : List Int} {i : Nat} {ps : List (List Int)} {ah : List Int} (h : PInv l i ps ah) (k : Nat) (hk : k < ps.length) : topAt ps k ∈ ps.getD k [] ∧ 0 ≤ topAt ps k ∧ topAt ps k < i := by
  have hm : ps.getD k [] ∈ ps := by rw [List.getD_eq_getElem?_getD, List.getElem?_eq_getElem hk]; exact List.getElem_mem _
  obtain ⟨a, b, c⟩ := h.pile _ hm
  have e : topAt ps k = rd (ps.getD k []) ((ps.getD k []).length - 1) := by
    unfold topAt topOf rd_L1; rw [if_neg (by omega), if_neg (by omega)]; rfl
  have ht : topAt ps k ∈ ps.getD k [] := by
    rw [e]; exact rd_last_mem _ a
  exact ⟨ht, c _ ht⟩
theorem AInv.step {l : List Int} {i : Nat} {st : List (List Int) × List Int} (hp : PInv l i st.1 st.2) (h : AInv st.1 st.2 i) (hi : i < l.length) : AInv (playStep l st i).1 (playStep l st i).2 (i + 1) := by
  unfold playStep; split; (intro k x hx; obtain ⟨a, b, c, d⟩ := h k x hx; exact ⟨a, by omega, c, d⟩)
  · have hk := findL_range l st.1 (rd l i) st.1.length 0 st.1.length (by omega)
    generalize findL st.1.length l st.1 (rd l i) 0 st.1.length = kk at hk
    obtain ⟨k, rfl⟩ := Int.eq_ofNat_of_zero_le hk.1
    intro j x hx
    simp only [Int.toNat_natCast] at hx ⊢
    have hkl : k ≤ st.1.length := by omega
    rw [getD_stepped _ _ hkl] at hx
    have hsub : ∀ j' y, y ∈ st.1.getD j' [] → y ∈ (((if (k : Int) = st.1.length then st.1 ++ [[]] else st.1).set k ((if (k : Int) = st.1.length then st.1 ++ [[]] else st.1).getD k [] ++ [(i : Int)])).getD j' []) := by
      intro j' y hy; rw [getD_stepped _ _ hkl]; split
      · rename_i e; rw [← e]; exact List.mem_append_left _ hy
      · exact hy
    have old : ∀ j' y, y ∈ st.1.getD j' [] → 0 ≤ y ∧ y < ((i + 1 : Nat) : Int) ∧ (j' = 0 → rd (st.2.set i (topAt st.1 (k - 1))) y = -1) ∧ ∀ k', j' = k' + 1 → rd (st.2.set i (topAt st.1 (k - 1))) y ∈ (((if (k : Int) = st.1.length then st.1 ++ [[]] else st.1).set k ((if (k : Int) = st.1.length then st.1 ++ [[]] else st.1).getD k [] ++ [(i : Int)])).getD k' []) ∧ rd (st.2.set i (topAt st.1 (k - 1))) y < y := by
      intro j' y hy; obtain ⟨a, b, c, d⟩ := h j' y hy
      have hne : rd (st.2.set i (topAt st.1 (k - 1))) y = rd st.2 y := by rw [rd_set a, if_neg (by omega)]
      rw [hne]; exact ⟨a, by omega, c, fun k' e => ⟨hsub _ _ (d k' e).1, (d k' e).2⟩⟩
    by_cases hjk : j = k
    · subst hjk
      rw [if_pos rfl] at hx
      rcases List.mem_append.1 hx with hx | hx
      · exact old j x hx
      · obtain rfl : x = i := by simpa using hx
        have he : rd (st.2.set i (topAt st.1 ((j : Int) - 1))) i = topAt st.1 (j - 1) := by
          rw [rd_set (by omega), if_pos rfl, if_pos (by rw [hp.ahl]; exact hi)]
        rw [he]
        refine ⟨by omega, by omega, fun h0 => ?_, fun k' e => ?_⟩
        · subst h0; rfl
        · subst e
          have e2 : ((k' + 1 : Nat) : Int) - 1 = (k' : Int) := by omega
          rw [e2]
          obtain ⟨a, b, c⟩ := topAt_mem hp k' (by omega)
          exact ⟨hsub _ _ a, by omega⟩
    · rw [if_neg hjk] at hx
      exact old j x hx
theorem playN_ainv (l : List Int) : ∀ i, i ≤ l.length → AInv (playN l i).1 (playN l i).2 i
  | 0, _ => fun k x hx => by simp [playN] at hx
  | i + 1, h => AInv.step (playN_inv l i (by omega)) (playN_ainv l i (by omega)) (by omega)
/-- The chain that ends at i. -/
def chainOf (ah : List Int) : Nat → Int → List Int
  | 0, _ => []
  | n + 1, i => chainOf ah n (rd ah i) ++ [i]
theorem chainOf_length (ah : List Int) : ∀ n i, (chainOf ah n i).length = n
  | 0, _ => rfl
  | n + 1, i => by simp [chainOf, chainOf_length ah n]
def pilesOf (l : List Int) : List (List Int) := (playN l l.length).1
def longestOf (l : List Int) : List Int := chainOf (playN l l.length).2 (pilesOf l).length (topAt (pilesOf l) ((pilesOf l).length - 1))
/-- Ends: pile by pile. -/
def endsIn (k : Int) : List Int → List Int → List Int
  | out, [] => out
  | out, x :: xs => endsIn k (out.set x.toNat (k + 1)) xs
def endsFrom : Nat → List Int → List (List Int) → List Int
  | _, out, [] => out
  | k, out, p :: ps => endsFrom (k + 1) (endsIn k out p) ps
def endsOf (l : List Int) : List Int := endsFrom 0 (List.replicate l.length 0) (pilesOf l)
def lis_Longest.f (l0 : List Int) : Option (List Int) := if l0.length ≤ 1000000 then some (longestOf l0) else none
/-- The game, and the room for the choice. -/
structure LongW (w W : World) (g : Nat) (Ap : Option Addr) (cp : Nat) (ps : List (List Int)) (Aa : Option Addr) (ca : Nat) (ah : List Int) (gr n cr : Nat) (xs : List Int) : Prop where
  blk : W.heap[g]? = some (.cells #[.slice Ap ps.length cp, .slice Aa ah.length ca] 77 (0, 0))
  g0 : w.heap.size ≤ g
  RA : Kd.R (Kd.int .i64) 3 W w.heap.size (fun k => k ≠ gr) (.slice Aa ah.length ca) ah
  RR : Kd.R (Kd.int .i64) 3 W w.heap.size (fun _ => True) (.slice (some ⟨gr, 0, none⟩) n cr) xs
  B : Below w.heap.size w W
theorem LongW.start {w w1 w2 : World} {g : Nat} {Ap : Option Addr} {cp : Nat} {ps : List (List Int)} {Aa : Option Addr} {ca : Nat} {ah : List Int} {gr cr n : Nat} {ok : Nat → Prop}
    (hg : w1.heap[g]? = some (.cells #[.slice Ap ps.length cp, .slice Aa ah.length ca] 77 (0, 0))) (hg0 : w.heap.size ≤ g)
    (hS : Kd.S (Kd.slice 3 (Kd.int .i64)) 27 w1 w.heap.size ok (.slice Ap ps.length cp) ps) (hA : Kd.R (Kd.int .i64) 3 w1 w.heap.size (fun _ => True) (.slice Aa ah.length ca) ah)
    (hR2 : Kd.R (Kd.int .i64) 3 w2 w.heap.size (fun _ => True) (.slice (some ⟨gr, 0, none⟩) n cr) (List.replicate n 0)) (hgr : w1.heap.size ≤ gr) (hb : Below w1.heap.size w1 w2) (hB2 : Below w.heap.size w w2) :
    LongW w w2 g Ap cp ps Aa ca ah gr n cr (List.replicate n 0) ∧ Kd.C (Kd.slice 3 (Kd.int .i64)) w2 Ap ps.length ps := by
  refine ⟨⟨(hb.block _ (blk_lt hg)).trans hg, hg0, ?_, hR2, hB2⟩, Kd.C_below (Kd.S_reads' hS).2.2 hb⟩; refine Kd.R_mono (Kd.R_tight rfl (Kd.R_below hA hb)) (fun k hk he => ?_); have := Kd.R_lt hA k hk.symm; omega
theorem LongW.put {w W : World} {g : Nat} {Ap : Option Addr} {cp : Nat} {ps : List (List Int)} {Aa : Option Addr} {ca : Nat} {ah : List Int} {gr n cr : Nat} {xs : List Int} (h : LongW w W g Ap cp ps Aa ca ah gr n cr xs) (j : Nat) (x : Int) :
    LongW w (W.setCell ⟨gr, j, none⟩ (.int .i64 x)) g Ap cp ps Aa ca ah gr n cr (xs.set j x) := by
  obtain ⟨r1, r2⟩ := Rint_store h.RR j x; have hgr : w.heap.size ≤ gr := Kd.R_base h.RR gr (by simp [Value.ownBlock]); obtain ⟨cells, hc⟩ := Kd.R_typed h.RR gr (by simp [Value.ownBlock]); exact ⟨zG h.blk (blk_ne h.blk hc (by decide)) _, h.g0, Kd.R_far (p := ⟨gr, j, none⟩) h.RA (fun k hk => hk) _, r1, zS h.B hgr⟩
set_option maxHeartbeats 4000000 in
theorem lis_Longest.calls (A0 : Option Addr) (c0 : Nat) (l0 : List Int) (r : List Int) (w : World) (hr0 : Kd.C (Kd.int .i64) w A0 l0.length l0) (hc0 : l0.length ≤ c0) (h : lis_Longest.f l0 = some r) :
    Calls Try.prog 32 #[.slice A0 l0.length c0] w fun e w' => ∃ v0_ : Value, e = .returned (v0_) ∧ Kd.R (Kd.int .i64) 3 w' w.heap.size (fun _ => True) v0_ r ∧ Below w.heap.size w w' := by
  obtain ⟨hl, rfl⟩ : l0.length ≤ 1000000 ∧ r = longestOf l0 := by
    unfold lis_Longest.f at h; split at h; (exact ⟨by assumption, (Option.some.inj h).symm⟩); (cases h)
  have HP := Aside0.mk (play_calls A0 c0 l0 w hr0 hc0 hl); have HPI := Aside0.mk (playN_inv l0 l0.length (Nat.le_refl _)); have HAI := Aside0.mk (playN_ainv l0 l0.length (Nat.le_refl _)); have HLO := Aside0.mk (show longestOf l0 = chainOf (playN l0 l0.length).2 (playN l0 l0.length).1.length (topAt (playN l0 l0.length).1 ((playN l0 l0.length).1.length - 1)) from rfl); obtain ⟨st, hst⟩ : ∃ st, playN l0 l0.length = st := ⟨_, rfl⟩; rw [hst] at HP HPI HAI HLO; clear hr0 h hst
  have hpl : st.1.length ≤ 1000000 := by have := HPI.out.psl; omega
  have hu32 := Try.underlying77
  go_enter Try.func32, Try.ntmps32
  go_wp2_with (first | (go_at_call 37; refine HP.out.mono ?_; rintro e w1 ⟨g, rfl, hG⟩; obtain ⟨PV, AV, hg, hg0, hS, hA, hB⟩ := hG; obtain ⟨Ap, cp, rfl⟩ := Kd.S_slice hS; obtain ⟨Aa, ca, rfl⟩ := Kd.R_slice hA; have hc0 := (zC hg 0).trans rfl; have HG := Aside0.mk hg; have HB := Aside0.mk hB; have HS := Aside0.mk hS; have HA := Aside0.mk hA; clear hg hS hA hB) | (at_make; refine make_ints (w0 := w) w.heap.size 3 .i64 8 rfl rfl 27 _ _ rfl st.1.length rfl rfl Try.underlying27 hinfo3 (by decide) (by omega) HB.out HB.out.size ?_; intro gr cr w2 hR2 hgr hlt hb2 hB2; have HW := Aside0.mk (LongW.start HG.out hg0 HS.out HA.out hR2 hgr hb2 hB2); clear hR2 hgr hb2 hB2 HG HS HA HB hc0) | (go_at_call 38; refine (top_calls g st.1 Ap cp _ (st.1.length - 1) _ HW.out.1.blk HW.out.2 (fun h0 h1 => by have := HPI.out.at_ (Nat.le_refl _) _ h0 h1; omega)).mono ?_; rintro e w' ⟨rfl, rfl⟩))
  go_loopg [5, 6] st.1.length (fun k v5 v6 w' => ∃ (a x : Int) (xs : List Int), v5 = .int .i64 a ∧ v6 = .int .i64 x ∧ Aside0 (a = k) ∧ Aside0 (k ≤ st.1.length ∧ (k = 0 → x = -1) ∧ (∀ k', k = k' + 1 → x ∈ st.1.getD k' []) ∧ chainOf st.2 k x ++ xs.drop k = longestOf l0) ∧ Aside0 (LongW w w' g Ap cp st.1 Aa ca st.2 gr st.1.length cr xs))
  case atStart =>
    refine ⟨_, _, _, rfl, rfl, ⟨rfl⟩, ⟨Nat.le_refl _, fun h => ?_, fun k' h => ?_, ?_⟩, ⟨HW.out.1⟩⟩; (rw [h]; rfl); (have := (topAt_mem HPI.out k' (by omega)).1; rwa [show (st.1.length : Int) - 1 = (k' : Int) by omega]); (rw [List.drop_of_length_le (by simp), List.append_nil, HLO.out])
  case round =>
    clear HW; obtain ⟨a, x, xs, rfl, rfl, HAK, HI, HW⟩ := hrel; have HLEN := Aside0.mk (Kd.R_reads' HW.out.RR).1
    cases gk with
    | zero =>
      obtain rfl := HI.out.2.1 rfl; obtain rfl : a = 0 := HAK.out; have HX := Aside0.mk (show xs = longestOf l0 from by have h := HI.out.2.2.2; rw [chainOf, List.nil_append, List.drop_zero] at h; exact h); clear HI
      go_wp2_with (first | (at_make; refine make_ints (w0 := w) w.heap.size 3 .i64 8 rfl rfl 27 _ _ rfl st.1.length rfl rfl Try.underlying27 hinfo3 (by decide) (by omega) HW.out.B HW.out.B.size ?_; intro go co w4 hR4 hgo hlt4 hb4 hB4; have HC := Aside0.mk (And.intro hR4 (And.intro (Kd.C_below (Kd.R_reads' HW.out.RR).2.2 hb4) hB4)); clear hR4 hgo hlt4 hb4 hB4) | (refine Kd.R_copy (enc := Value.int .i64) (h1 := fun _ => rfl) 0 (w0 := w) w.heap.size rfl (.tmp 43) (.tmp 46) 27 27 3 rfl Try.underlying27 (by kernel_rfl) (.slice (some ⟨go, 0, none⟩) st.1.length co) (List.replicate st.1.length 0) xs (some ⟨gr, 0, none⟩) st.1.length cr (fun _ => True) rfl rfl HC.out.1 (by rw [HLEN.out]; exact HC.out.2.1) HC.out.2.2 HC.out.2.2.size ?_; intro w5 hR5 hB5 _; have H5 := Aside0.mk (And.intro hR5 hB5); clear hR5 hB5))
      go_ret; refine ⟨_, rfl, ?_, H5.out.2⟩; have h := H5.out.1; have hlen := HLEN.out; rw [List.length_replicate, Nat.min_self, List.take_of_length_le (by omega), List.drop_of_length_le (by simp), List.append_nil, HX.out] at h; exact h
    | succ k =>
      have hx := HI.out.2.2.1 k rfl; obtain rfl : a = ((k + 1 : Nat) : Int) := HAK.out; obtain ⟨a0, a1, a2, a3⟩ := HAI.out k x hx
      have hkn : k < st.1.length := by have := HI.out.1; omega
      obtain ⟨hcr, hfr⟩ := Rint_at HW.out.RR k hkn
      go_upto_region 6 with (fail)
      obtain ⟨W3, hW3⟩ : ∃ W3 : World, wr.setCell ⟨gr, k, none⟩ (.int .i64 x) = W3 := ⟨_, rfl⟩; rw [hW3]; replace HW := Aside0.mk (hW3 ▸ HW.out.put k x); clear hcr hfr hW3; have hc1 := (zC HW.out.blk 1).trans rfl; have hal := HPI.out.ahl; obtain ⟨ga, ca', e, _, _, _⟩ := Kd.R_form HW.out.RA (by omega); injection e with e _ e2; subst e; subst e2; obtain ⟨hca, _⟩ := Rint_at HW.out.RA x.toNat (by omega)
      have hxa : x < (st.2.length : Int) := by omega
      have HR := Aside0.mk (show rd st.2 x = st.2.getD x.toNat 0 from rfl); obtain ⟨y, hy⟩ : ∃ y, st.2.getD x.toNat 0 = y := ⟨_, rfl⟩; rw [hy] at hca HR; clear hy hal; have HZ := Aside0.mk (And.intro a2 a3); clear a2 a3 hx
      go_wp2_with fail
      go_roundg k
      case measure => omega
      case rel =>
        have hlen := HLEN.out; refine ⟨_, y, xs.set k x, rfl, rfl, ⟨rfl⟩, ⟨by omega, fun h => ?_, fun k' h => ?_, ?_⟩, HW⟩; (rw [← HR.out]; exact HZ.out.1 h); (rw [← HR.out]; exact (HZ.out.2 k' h).1)
        · have h := HI.out.2.2.2
          rw [chainOf, HR.out] at h
          rw [← h, List.append_assoc]
          congr 1
          rw [List.drop_eq_getElem_cons (by rw [List.length_set]; omega), List.getElem_set_self, List.drop_set_of_lt (by omega)]
          rfl
end Go.Proofs.Ytpekchebllobmaa.G
namespace Go.Proofs.Ytpekchebllobmaa.G
open Go.RowKit Go.Proofs.YtpekchebllobmaaW.PrintWords Go.Proofs.YtpekchebllobmaaW.PrintLast Go.Proofs.YtpekchebllobmaaW.PrintMore
attribute [local go_sem] max2_int min2_int max_two min_two max_three min_three max_four min_four
set_option linter.unusedVariables false
set_option linter.unusedSimpArgs false
def lw_heavy.l0 : Nat → List (S50) → Int → Int → Option (Bool)
  | 0, _, _, _ => none
  | k + 1, x0, x5, x6 => if x6 < x5 then (if 0 ≤ x6 then (if x6 < (x0.length : Int) then (if (wrap64 ((((rd_T50 x0 x6).f0).size : Int) + (((rd_T50 x0 x6).f1).size : Int))) > 500 then (some true) else (lw_heavy.l0 k x0 x5 (wrap64 (x6 + 1)))) else (none)) else (none)) else (some (decide ((x0.length : Int) > 100)))
def lw_heavy.f (k : Nat) (l0 : List (S50)) : Option (Bool) := lw_heavy.l0 k l0 (l0.length : Int) 0
set_option maxHeartbeats 8000000 in
set_option maxRecDepth 100000 in
theorem lw_heavy.calls (k : Nat) (A0 : Option Addr) (c0 : Nat) (l0 : List (S50)) (r : Bool) (w : World) (hr0 : Kd.C k50 w A0 l0.length l0) (hc0 : l0.length ≤ c0) (h : lw_heavy.f k l0 = some r) :
    Calls Try.prog 7 #[.slice A0 l0.length c0] w fun e w' => e = .returned (.bool r) ∧ Drawn0 w w' := by
  have HR0 := zk hr0; have HC0 := zk hc0; clear hr0 hc0; have H : (lw_heavy.l0 k l0 (l0.length : Int) 0) = some r := h; clear h; have H' := zk H; clear H
  go_enter Try.func7, Try.ntmps7
  go_wp2
  repeat (go_quiet (fail); try go_wp2)
  go_loopg [6] k (fun kq v6 w' => ∃ (x6_1 : Int), v6 = .int .i64 x6_1 ∧ Aside0 (lw_heavy.l0 kq l0 (l0.length : Int) x6_1 = some r) ∧ Aside0 (kq ≤ k) ∧ Drawn0 w w')
  case atStart => exact ⟨(0), (by first | rfl | (simp; done) | (simp [*]; done)), H', ⟨Nat.le_refl _⟩, by repeat (first | exact Drawn0.refl _ | apply Drawn0.step)⟩
  case round =>
    clear H'; obtain ⟨x6_1, rfl, HA, HK1, ⟨m1, rfl⟩⟩ := hrel
    cases gk with
    | zero => exact absurd HA.out (by simp [lw_heavy.l0])
    | succ k1 =>
      have H := HA.out; clear HA; simp only [lw_heavy.l0] at H
      by_cases c2 : x6_1 < (l0.length : Int)
      · rw [if_pos c2] at H
        have c2b0 := decide_eq_true c2
        clear c2
        by_cases c3 : 0 ≤ x6_1
        · rw [if_pos c3] at H
          have c3b0 := decide_eq_true c3
          clear c3
          by_cases c4 : x6_1 < (l0.length : Int)
          · rw [if_pos c4] at H
            have c4b0 := decide_eq_true c4
            clear c4
            by_cases c5 : (wrap64 ((((rd_T50 l0 x6_1).f0).size : Int) + (((rd_T50 l0 x6_1).f1).size : Int))) > 500
            · rw [if_pos c5] at H
              have c5b0 : decide (500 < (wrap64 ((((rd_T50 l0 x6_1).f0).size : Int) + (((rd_T50 l0 x6_1).f1).size : Int)))) = true := decide_eq_true c5
              clear c5
              obtain rfl := Option.some.inj H
              have p108 : 0 ≤ (x6_1 : Int) := zo (by assumption)
              have q108 : x6_1 < (l0.length : Int) := zo (by assumption)
              obtain ⟨ad108, e108, hx108_0, hx108_1, hx108_2⟩ := at_T50 HR0.out x6_1 p108 q108
              cases e108
              replace p108 := eq_true p108
              replace q108 := eq_true q108
              have p109 : 0 ≤ (x6_1 : Int) := zo (by assumption)
              have q109 : x6_1 < (l0.length : Int) := zo (by assumption)
              obtain ⟨ad109, e109, hx109_0, hx109_1, hx109_2⟩ := at_T50 HR0.out x6_1 p109 q109
              obtain rfl : ad108 = ad109 := (by injection e109)
              replace p109 := eq_true p109
              replace q109 := eq_true q109
              go_wp2
              repeat (go_quiet (fail); try go_wp2)
              go_ret
              exact ⟨by first | rfl | (simp; done) | (simp [*]; done), by repeat (first | exact Drawn0.refl _ | apply Drawn0.step)⟩
            · rw [if_neg c5] at H
              have c5b0 : decide (500 < (wrap64 ((((rd_T50 l0 x6_1).f0).size : Int) + (((rd_T50 l0 x6_1).f1).size : Int)))) = false := decide_eq_false c5
              clear c5
              have H' := zk H
              clear H
              have p108 : 0 ≤ (x6_1 : Int) := zo (by assumption)
              have q108 : x6_1 < (l0.length : Int) := zo (by assumption)
              obtain ⟨ad108, e108, hx108_0, hx108_1, hx108_2⟩ := at_T50 HR0.out x6_1 p108 q108
              cases e108
              replace p108 := eq_true p108
              replace q108 := eq_true q108
              have p109 : 0 ≤ (x6_1 : Int) := zo (by assumption)
              have q109 : x6_1 < (l0.length : Int) := zo (by assumption)
              obtain ⟨ad109, e109, hx109_0, hx109_1, hx109_2⟩ := at_T50 HR0.out x6_1 p109 q109
              obtain rfl : ad108 = ad109 := (by injection e109)
              replace p109 := eq_true p109
              replace q109 := eq_true q109
              go_wp2
              repeat (go_quiet (fail); try go_wp2)
              go_roundg k1
              case measure => have := HK1.out; omega
              case rel => exact ⟨(wrap64 (x6_1 + 1)), (by first | rfl | (simp; done) | (simp [*]; done)), H', ⟨by have := HK1.out; omega⟩, by repeat (first | exact Drawn0.refl _ | apply Drawn0.step)⟩
          · rw [if_neg c4] at H
            exact absurd H (by simp)
        · rw [if_neg c3] at H
          exact absurd H (by simp)
      · rw [if_neg c2] at H
        have c2b0 := decide_eq_false c2
        clear c2
        obtain rfl := Option.some.inj H
        go_wp2
        repeat (go_quiet (fail); try go_wp2)
        go_ret
        exact ⟨by first | rfl | (simp; done) | (simp [*]; done), by repeat (first | exact Drawn0.refl _ | apply Drawn0.step)⟩
mutual
def kids_stay.l0 : Nat → List (S50) → List Int → Int → Int → List Bool → Int → Int → Option (List Bool)
 | 0, _, _, _, _, _, _, _ => none
 | k + 1, x1, x2, x7, x8, x9, x23, x24 => if x24 < x23 then (if x24 < x7 then (if 0 ≤ x24 then (if x24 < (x9.length : Int) then (kids_stay.l0 k x1 x2 x7 x8 (x9.set (x24 : Int).toNat true) x23 (wrap64 (x24 + 1))) else (none)) else (none)) else (if 0 ≤ x24 then (if x24 < (x9.length : Int) then (kids_stay.l0 k x1 x2 x7 x8 (x9.set (x24 : Int).toNat (decide (x24 ≥ (wrap64 ((x1.length : Int) - x8))))) x23 (wrap64 (x24 + 1))) else (none)) else (none))) else (if 0 ≤ x7 then (if x7 ≤ (wrap64 ((x1.length : Int) - x8)) then (if (wrap64 ((x1.length : Int) - x8)) ≤ (x2.length : Int) then ((lis_Longest.f ((x2.take ((wrap64 ((x1.length : Int) - x8)) : Int).toNat).drop (x7 : Int).toNat)).bind fun t124 => (kids_stay.l1 k x7 x9 t124 (t124.length : Int) 0)) else (none)) else (none)) else (none))
def kids_stay.l1 : Nat → Int → List Bool → List Int → Int → Int → Option (List Bool)
 | 0, _, _, _, _, _ => none
 | k + 1, x7, x9, x49, x50, x51 => if x51 < x50 then (if 0 ≤ x51 then (if x51 < (x49.length : Int) then (if 0 ≤ (wrap64 (x7 + (rd x49 x51))) then (if (wrap64 (x7 + (rd x49 x51))) < (x9.length : Int) then (kids_stay.l1 k x7 (x9.set ((wrap64 (x7 + (rd x49 x51))) : Int).toNat true) x49 x50 (wrap64 (x51 + 1))) else (none)) else (none)) else (none)) else (none)) else (some x9)
end
def kids_stay.f (k : Nat) (l0 : List (S50)) (l1 : List (S50)) (l2 : List Int) : Option (List Bool) := (kids_Trim.f k l0 l1).bind fun bt116 => (if 0 ≤ (l1.length : Int) then (if ((l1.length : Int) : Int).toNat ≤ 281474976710656 then ((some (List.replicate ((l1.length : Int) : Int).toNat false : List Bool)).bind fun y118 => (kids_stay.l0 k l1 l2 bt116.1 bt116.2 y118 (y118.length : Int) 0)) else (none)) else (none))
theorem kids_stay.mono_l : ∀ k, (∀ y0 y1 y2 y3 y4 y5 y6, LeO (kids_stay.l0 k y0 y1 y2 y3 y4 y5 y6) (kids_stay.l0 (k + 1) y0 y1 y2 y3 y4 y5 y6)) ∧ (∀ y0 y1 y2 y3 y4, LeO (kids_stay.l1 k y0 y1 y2 y3 y4) (kids_stay.l1 (k + 1) y0 y1 y2 y3 y4))
 | 0 => ⟨fun _ _ _ _ _ _ _ r h => by simp [kids_stay.l0] at h, fun _ _ _ _ _ r h => by simp [kids_stay.l1] at h⟩
 | k + 1 => by
  obtain ⟨ih0, ih1⟩ := kids_stay.mono_l k
  refine ⟨?_, ?_⟩
  ·
   intro y0 y1 y2 y3 y4 y5 y6
   unfold kids_stay.l0
   with_reducible repeat' first | exact ih0 _ _ _ _ _ _ _ | exact ih1 _ _ _ _ _ | exact kids_Trim.mono _ _ _ | exact LeO.refl _ | exact LeO.none _ | refine LeO.ite ?_ ?_ | refine LeO.bind ?_ (fun _ => ?_)
  ·
   intro y0 y1 y2 y3 y4
   unfold kids_stay.l1
   with_reducible repeat' first | exact ih0 _ _ _ _ _ _ _ | exact ih1 _ _ _ _ _ | exact kids_Trim.mono _ _ _ | exact LeO.refl _ | exact LeO.none _ | refine LeO.ite ?_ ?_ | refine LeO.bind ?_ (fun _ => ?_)
theorem kids_stay.mono : ∀ a0 a1 a2 k, LeO (kids_stay.f k a0 a1 a2) (kids_stay.f (k + 1) a0 a1 a2) := by
 intro a0 a1 a2 k
 obtain ⟨ih0, ih1⟩ := kids_stay.mono_l k
 unfold kids_stay.f
 with_reducible repeat' first | exact ih0 _ _ _ _ _ _ _ | exact ih1 _ _ _ _ _ | exact kids_Trim.mono _ _ _ | exact LeO.refl _ | exact LeO.none _ | refine LeO.ite ?_ ?_ | refine LeO.bind ?_ (fun _ => ?_)
set_option maxHeartbeats 8000000 in
set_option maxRecDepth 100000 in
theorem kids_stay.calls (k : Nat) (A0 : Option Addr) (c0 : Nat) (l0 : List (S50)) (A1 : Option Addr) (c1 : Nat) (l1 : List (S50)) (A2 : Option Addr) (c2 : Nat) (l2 : List Int) (r : List Bool) (w : World) (hr0 : Kd.C k50 w A0 l0.length l0) (hc0 : l0.length ≤ c0) (hr1 : Kd.C k50 w A1 l1.length l1) (hc1 : l1.length ≤ c1) (hr2 : Kd.C (Kd.int .i64) w A2 l2.length l2) (hc2 : l2.length ≤ c2) (h : kids_stay.f k l0 l1 l2 = some r) :
  Calls Try.prog 25 #[.slice A0 l0.length c0, .slice A1 l1.length c1, .slice A2 l2.length c2] w fun e w' => ∃ v0_ : Value, e = .returned (v0_) ∧ Kd.R Kd.bool 4 w' w.heap.size (fun _ => True) v0_ r ∧ Below w.heap.size w w' := by
 have HR0 := zk hr0
 have HC0 := zk hc0
 clear hr0 hc0
 have HR1 := zk hr1
 have HC1 := zk hc1
 clear hr1 hc1
 have HR2 := zk hr2
 have HC2 := zk hc2
 clear hr2 hc2
 have HB := zk (Below.refl w.heap.size w)
 have H : ((kids_Trim.f k l0 l1).bind fun bt116 => (if 0 ≤ (l1.length : Int) then (if ((l1.length : Int) : Int).toNat ≤ 281474976710656 then ((some (List.replicate ((l1.length : Int) : Int).toNat false : List Bool)).bind fun y118 => (kids_stay.l0 k l1 l2 bt116.1 bt116.2 y118 (y118.length : Int) 0)) else (none)) else (none))) = some r := h
 clear h
 replace H := Option.bind_eq_some_iff.mp H
 obtain ⟨⟨t116, t117⟩, A40, H⟩ := H
 replace H : (if 0 ≤ (l1.length : Int) then (if ((l1.length : Int) : Int).toNat ≤ 281474976710656 then ((some (List.replicate ((l1.length : Int) : Int).toNat false : List Bool)).bind fun y118 => (kids_stay.l0 k l1 l2 t116 t117 y118 (y118.length : Int) 0)) else (none)) else (none)) = some r := H
 have A4 := zk A40
 clear A40
 by_cases c5 : 0 ≤ (l1.length : Int)
 ·
  rw [if_pos c5] at H; have c5b0 := eq_true c5; have c5b1 : decide (0 ≤ (l1.length : Int)) = true := decide_eq_true c5; clear c5
  by_cases c6 : ((l1.length : Int) : Int).toNat ≤ 281474976710656
  ·
   rw [if_pos c6] at H; have c6b0 := eq_true c6; have c6b1 := decide_eq_true c6; clear c6; obtain ⟨y118, hy118⟩ : ∃ y_ : List Bool, y_ = (List.replicate ((l1.length : Int) : Int).toNat false) := ⟨_, rfl⟩
   replace H : (kids_stay.l0 k l1 l2 t116 t117 y118 (y118.length : Int) 0) = some r := by first | (rw [hy118]; with_reducible exact H) | (have H2_ := (Option.bind_some _ _).symm.trans H; rw [hy118]; with_reducible exact H2_) | (have H2_ := (Option.bind_some _ _).symm.trans H; with_reducible exact H2_) | with_reducible exact H | (rw [hy118]; exact H) | exact H
   have Ny118 := zk hy118; clear hy118; have H' := zk H; clear H
   go_enter Try.func25, Try.ntmps25
   go_wp2_with (first | ((with_reducible refine gk (f := 9) rfl ?_); refine gl (some 16) rfl rfl Try.func9 (by kernel_rfl) rfl #[.slice A0 l0.length c0, .slice A1 l1.length c1] rfl (by (try simp only [List.map_toArray, List.map_cons, List.map_nil]); first | done | rfl | (simp only [List.length_drop, List.length_take]; rfl)) ?_; (with_reducible refine (kids_Trim.calls k _ _ l0 _ _ l1 t116 t117 _ ?side1 ?side2 ?side3 ?side4 A4.out).mono ?_); (case side1 => repeat (first | exact HR0.out | (with_reducible refine Kd.C_alloc ?_ _) | (with_reducible refine Kd.C_drewN ?_ _) | (with_reducible refine Kd.C_drew ?_))); (case side2 => exact HC0.out); (case side3 => repeat (first | exact HR1.out | (with_reducible refine Kd.C_alloc ?_ _) | (with_reducible refine Kd.C_drewN ?_ _) | (with_reducible refine Kd.C_drew ?_))); (case side4 => exact HC1.out); rintro e w7 ⟨rfl, hb⟩; refine ⟨_, rfl, ?_⟩; have n0_ := zk (zs (by with_reducible repeat first | exact HB.out | apply zA | apply zN | apply zD) hb); clear HB; have HB := n0_; clear n0_; (try clear hb); (try clear hb2); (try clear hk); (try clear hi)) | ((with_reducible refine gd (N := 21) rfl ?_); (try (refine gg (by rfl) ?_; dsimp only)); refine Kd.R_make Kd.bool _ 4 rfl (N := 21) rfl 52 _ _ rfl (l1.length : Int) rfl rfl Try.underlying52 (.bool false) 1 info4 rfl (by decide) (by omega) false (ok := fun _ => True) (okp := fun _ => True) rfl (fun _ hk => hk) trivial (zo (by assumption)) (Nat.le_trans (Nat.mul_le_mul_right _ (zo (by assumption) : (l1.length : Int).toNat ≤ 281474976710656)) (by omega)) (Below.refl _ _) (Nat.le_refl _) ?_; intro v119 w8 ho9 hb hg_ hnew_; clear hg_ hnew_; (first | rw [← Ny118.out] at ho9 | (simp only [Int.reduceToNat] at ho9; rw [← Ny118.out] at ho9)); have n0_ := zk (Kd.R_lower ho9 (zq (by with_reducible repeat first | exact HB.out | apply zA | apply zN | apply zD))); have n1_ := zk (zs (by with_reducible repeat first | exact HB.out | apply zA | apply zN | apply zD) hb); clear HB; have HO120 := n0_; have HB := n1_; clear n0_ n1_; clear hb ho9; obtain ⟨Ao10, co10, eo10⟩ := Kd.R_slice HO120.out; subst eo10))
   go_loopg [24] k (fun kq v24 w' => ∃ (x9_1 : List Bool) (x24_1 : Int), v24 = .int .i64 x24_1 ∧ Aside0 (kids_stay.l0 kq l1 l2 t116 t117 x9_1 (y118.length : Int) x24_1 = some r) ∧ Aside0 (kq ≤ k) ∧ Aside0 (Kd.R Kd.bool 4 w' w.heap.size (fun _ => True) (.slice Ao10 y118.length co10) x9_1) ∧ Aside0 (Below w.heap.size w w'))
   case atStart => exact ⟨(y118), (0), (by first | rfl | (simp; done) | (simp [*]; done)), H', ⟨Nat.le_refl _⟩, ⟨by (with_reducible repeat (first | apply Kd.R_alloc | apply Kd.R_drewN | apply Kd.R_drew)); exact HO120.out⟩, ⟨by with_reducible repeat first | exact HB.out | apply zA | apply zN | apply zD⟩⟩
   case round =>
    clear H'; (try clear c1); (try clear c2); (try clear p2); (try clear c5); (try clear c5b0); (try clear c5b1); (try clear c6); (try clear c6b0); (try clear c6b1); (try clear c9); obtain ⟨x9_1, x24_1, rfl, HA, HK1, HO_9, HB⟩ := hrel; have hl9_1 := (Kd.R_reads' HO_9.out).1; rw [hl9_1] at HO_9
    (try simp only [hl9_1])
    cases gk with
    | zero => exact absurd HA.out (by simp [kids_stay.l0])
    | succ k1 =>
     have H := HA.out; clear HA; simp only [kids_stay.l0] at H
     by_cases c11 : x24_1 < (y118.length : Int)
     ·
      rw [if_pos c11] at H; have c11b0 := decide_eq_true c11; have c11b8 := c11b0; rw [hl9_1] at c11b8; clear c11
      by_cases c12 : x24_1 < t116
      ·
       rw [if_pos c12] at H; have c12b0 := decide_eq_true c12; clear c12
       by_cases c13 : 0 ≤ x24_1
       ·
        rw [if_pos c13] at H; have c13b0 := decide_eq_true c13; clear c13
        by_cases c14 : x24_1 < (x9_1.length : Int)
        ·
         rw [if_pos c14] at H; have c14b0 := decide_eq_true c14; clear c14; obtain ⟨y121, hy121⟩ : ∃ y_ : List Bool, y_ = (x9_1.set (x24_1 : Int).toNat true) := ⟨_, rfl⟩
         replace H : (kids_stay.l0 k1 l1 l2 t116 t117 y121 (y118.length : Int) (wrap64 (x24_1 + 1))) = some r := by first | (rw [hy121]; with_reducible exact H) | (have H2_ := (Option.bind_some _ _).symm.trans H; rw [hy121]; with_reducible exact H2_) | (have H2_ := (Option.bind_some _ _).symm.trans H; with_reducible exact H2_) | with_reducible exact H | (rw [hy121]; exact H) | exact H
         have Ny121 := zk hy121; clear hy121; have H' := zk H; clear H; have p15 : 0 ≤ (x24_1 : Int) := zo (by assumption); have q15 : (x24_1 : Int) < ((x9_1.length : Int) : Int) := zo (by assumption); obtain ⟨go15, co15, eo15, gb15, gl15, cl15, HG15⟩ := Kd.R_form HO_9.out (by omega)
         (first | cases eo15 | (injection eo15 with ea_ en_ ec_; (first | subst ea_ | (injection ea_ with ea_; subst ea_)); subst ec_; clear en_))
         have GB15 := zk gb15; have GG15 := zk HG15; clear gb15 gl15 HG15; obtain ⟨hx15_0, hf15_0⟩ := Kd.R_celln false HO_9.out (x24_1 : Int) p15 q15; replace p15 := eq_true p15; replace q15 := eq_true q15; have HP16 := Kd.R_putg HO_9.out (x24_1 : Int) true
         go_wp2_with (first | ((with_reducible refine gw (t := 4) (p := 40) rfl ?_); refine store_event (t := 4) (p := 40) (v := ?vo_w17) (w1 := (wr.setCell ⟨go15, (x24_1 : Int).toNat, none⟩ (.bool true))) ?hg ?ho ?hn ?hr ?_; (case ho => rfl); (case hg => rfl); (case hn => rfl); (case hr => go_simp; first | done | rfl); intro w17 hw; have hg : wr.grownBy w17 (some go15) := (by rw [hw]; exact HP16.2); have hp_ : Kd.R Kd.bool 4 w17 w.heap.size (fun _ => True) (.slice (some ⟨go15, 0, none⟩) x9_1.length co10) y121 := (by rw [hw, Ny121.out]; exact HP16.1); clear HP16; have n0_ := zk (hp_); have n1_ := zk ((by rw [hw]; exact zS (HB.out) GB15.out : Below w.heap.size w w17)); clear HO_9; clear HB; have HO_9 := n0_; have HB := n1_; clear n0_ n1_; clear hg hw hp_))
         (try simp only [← hl9_1])
         go_roundg k1
         case measure => have := HK1.out; omega
         case rel => exact ⟨(y121), (wrap64 (x24_1 + 1)), (by first | rfl | (simp; done) | (simp [*]; done)), H', ⟨by have := HK1.out; omega⟩, ⟨by (try simp only [hl9_1]); (with_reducible repeat (first | apply Kd.R_alloc | apply Kd.R_drewN | apply Kd.R_drew)); exact HO_9.out⟩, ⟨by with_reducible repeat first | exact HB.out | apply zA | apply zN | apply zD⟩⟩
        ·
         rw [if_neg c14] at H; exact absurd H (by simp)
       ·
        rw [if_neg c13] at H; exact absurd H (by simp)
      ·
       rw [if_neg c12] at H; have c12b0 := decide_eq_false c12; clear c12
       by_cases c18 : 0 ≤ x24_1
       ·
        rw [if_pos c18] at H; have c18b0 := decide_eq_true c18; clear c18
        by_cases c19 : x24_1 < (x9_1.length : Int)
        ·
         rw [if_pos c19] at H; have c19b0 := decide_eq_true c19; clear c19; obtain ⟨y122, hy122⟩ : ∃ y_ : List Bool, y_ = (x9_1.set (x24_1 : Int).toNat (decide (x24_1 ≥ (wrap64 ((l1.length : Int) - t117))))) := ⟨_, rfl⟩
         replace H : (kids_stay.l0 k1 l1 l2 t116 t117 y122 (y118.length : Int) (wrap64 (x24_1 + 1))) = some r := by first | (rw [hy122]; with_reducible exact H) | (have H2_ := (Option.bind_some _ _).symm.trans H; rw [hy122]; with_reducible exact H2_) | (have H2_ := (Option.bind_some _ _).symm.trans H; with_reducible exact H2_) | with_reducible exact H | (rw [hy122]; exact H) | exact H
         have Ny122 := zk hy122; clear hy122; have H' := zk H; clear H; have p20 : 0 ≤ (x24_1 : Int) := zo (by assumption); have q20 : (x24_1 : Int) < ((x9_1.length : Int) : Int) := zo (by assumption); obtain ⟨go20, co20, eo20, gb20, gl20, cl20, HG20⟩ := Kd.R_form HO_9.out (by omega)
         (first | cases eo20 | (injection eo20 with ea_ en_ ec_; (first | subst ea_ | (injection ea_ with ea_; subst ea_)); subst ec_; clear en_))
         have GB20 := zk gb20; have GG20 := zk HG20; clear gb20 gl20 HG20; obtain ⟨hx20_0, hf20_0⟩ := Kd.R_celln false HO_9.out (x24_1 : Int) p20 q20; replace p20 := eq_true p20; replace q20 := eq_true q20; have HP21 := Kd.R_putg HO_9.out (x24_1 : Int) (decide (x24_1 ≥ (wrap64 ((l1.length : Int) - t117))))
         go_wp2_with (first | ((with_reducible refine gw (t := 4) (p := 40) rfl ?_); refine store_event (t := 4) (p := 40) (v := ?vo_w22) (w1 := (wr.setCell ⟨go20, (x24_1 : Int).toNat, none⟩ (.bool (decide (x24_1 ≥ (wrap64 ((l1.length : Int) - t117))))))) ?hg ?ho ?hn ?hr ?_; (case ho => rfl); (case hg => rfl); (case hn => rfl); (case hr => go_simp; first | done | rfl); intro w22 hw; have hg : wr.grownBy w22 (some go20) := (by rw [hw]; exact HP21.2); have hp_ : Kd.R Kd.bool 4 w22 w.heap.size (fun _ => True) (.slice (some ⟨go20, 0, none⟩) x9_1.length co10) y122 := (by rw [hw, Ny122.out]; exact HP21.1); clear HP21; have n0_ := zk (hp_); have n1_ := zk ((by rw [hw]; exact zS (HB.out) GB20.out : Below w.heap.size w w22)); clear HO_9; clear HB; have HO_9 := n0_; have HB := n1_; clear n0_ n1_; clear hg hw hp_))
         (try simp only [← hl9_1])
         go_roundg k1
         case measure => have := HK1.out; omega
         case rel => exact ⟨(y122), (wrap64 (x24_1 + 1)), (by first | rfl | (simp; done) | (simp [*]; done)), H', ⟨by have := HK1.out; omega⟩, ⟨by (try simp only [hl9_1]); (with_reducible repeat (first | apply Kd.R_alloc | apply Kd.R_drewN | apply Kd.R_drew)); exact HO_9.out⟩, ⟨by with_reducible repeat first | exact HB.out | apply zA | apply zN | apply zD⟩⟩
        ·
         rw [if_neg c19] at H; exact absurd H (by simp)
       ·
        rw [if_neg c18] at H; exact absurd H (by simp)
     ·
      rw [if_neg c11] at H; have c11b0 := decide_eq_false c11; have c11b8 := c11b0; rw [hl9_1] at c11b8; clear c11
      by_cases c23 : 0 ≤ t116
      ·
       rw [if_pos c23] at H; have c23b0 := eq_true c23; have c23b1 := decide_eq_true c23; clear c23
       by_cases c24 : t116 ≤ (wrap64 ((l1.length : Int) - t117))
       ·
        rw [if_pos c24] at H; have c24b0 := eq_true c24; have c24b1 := decide_eq_true c24; clear c24
        by_cases c25 : (wrap64 ((l1.length : Int) - t117)) ≤ (l2.length : Int)
        ·
         rw [if_pos c25] at H; have c25b0 := eq_true c25; have c25b1 := decide_eq_true c25; clear c25; replace H := Option.bind_eq_some_iff.mp H; obtain ⟨t124, A260, H⟩ := H; replace H : (kids_stay.l1 k1 t116 x9_1 t124 (t124.length : Int) 0) = some r := H; have A26 := zk A260; clear A260; have H' := zk H; clear H; obtain ⟨i027, hi027, _, hsz27, _⟩ := info_parts info3; obtain ⟨A27, hcut27, hA27, hC27⟩ := print_mid_of (P := Try.prog) (Value.int .i64) 0 27 3 .i64 .i64 Try.underlying27 hi027 hsz27 A2 c2 l2 t116 (wrap64 ((l1.length : Int) - t117)) (zo (by assumption)) (by first | omega | exact zo (by assumption)) (zo (by assumption)) HC2.out; have HR123 := zk (Kd.C_of_reads (h1 := fun _ => rfl) (hA27 _ (Kd.reads_of_C HR2.out))); have HC123 := zk hC27; clear hA27 hC27 hi027 hsz27
         go_wp2_with (first | ((with_reducible refine gk (f := 32) rfl ?_); refine gl (some 49) rfl rfl Try.func32 (by kernel_rfl) rfl #[.slice A27 ((l2.take ((wrap64 ((l1.length : Int) - t117)) : Int).toNat).drop (t116 : Int).toNat).length (c2 - t116.toNat)] rfl (by (try simp only [List.map_toArray, List.map_cons, List.map_nil]); first | done | (rw [show ((l2.take ((wrap64 ((l1.length : Int) - t117)) : Int).toNat).drop (t116 : Int).toNat).length = ((wrap64 ((l1.length : Int) - t117)).toNat - t116.toNat) from (by rw [List.length_drop, List.length_take]; have h_ : ((wrap64 ((l1.length : Int) - t117)) : Int) ≤ (l2.length : Int) := zo (by assumption); omega)] <;> rfl) | rfl | (simp only [List.length_drop, List.length_take]; rfl)) ?_; (with_reducible refine (lis_Longest.calls _ _ ((l2.take ((wrap64 ((l1.length : Int) - t117)) : Int).toNat).drop (t116 : Int).toNat) t124 _ ?side1 ?side2 A26.out).mono ?_); (case side1 => repeat (first | exact (Kd.C_below HR123.out HB.out) | (with_reducible refine Kd.C_alloc ?_ _) | (with_reducible refine Kd.C_drewN ?_ _) | (with_reducible refine Kd.C_drew ?_))); (case side2 => exact HC123.out); rintro e w28 ⟨v125, rfl, ho0, hb⟩; refine ⟨_, rfl, ?_⟩; have n0_ := zk (Kd.R_below (by (with_reducible repeat (first | apply Kd.R_alloc | apply Kd.R_drewN | apply Kd.R_drew)); exact HO_9.out) hb); have n1_ := zk (Kd.R_lower ho0 (zq (by with_reducible repeat first | exact HB.out | apply zA | apply zN | apply zD))); have n2_ := zk (zs (by with_reducible repeat first | exact HB.out | apply zA | apply zN | apply zD) hb); clear HO_9; clear HB; have HO_9 := n0_; have HO126 := n1_; have HB := n2_; clear n0_ n1_ n2_; (try clear hb); (try clear hb2); (try clear hk); (try clear hi); (try clear ho0); obtain ⟨Ao29, co29, eo29⟩ := Kd.R_slice HO126.out; subst eo29))
         go_loopg [51] k1 (fun kq v51 w' => ∃ (x9_2 : List Bool) (x51_2 : Int), v51 = .int .i64 x51_2 ∧ Aside0 (kids_stay.l1 kq t116 x9_2 t124 (t124.length : Int) x51_2 = some r) ∧ Aside0 (kq ≤ k1) ∧ Aside0 (Kd.R Kd.bool 4 w' w.heap.size (fun _ => True) (.slice Ao10 x9_1.length co10) x9_2) ∧ Aside0 (Kd.R (Kd.int .i64) 3 w' w.heap.size (fun _ => True) (.slice Ao29 t124.length co29) t124) ∧ Aside0 (Below w.heap.size w w'))
         case atStart => exact ⟨(x9_1), (0), (by first | rfl | (simp; done) | (simp [*]; done)), H', ⟨Nat.le_refl _⟩, ⟨by (try simp only [hl9_1]); (with_reducible repeat (first | apply Kd.R_alloc | apply Kd.R_drewN | apply Kd.R_drew)); exact HO_9.out⟩, ⟨by (try simp only [hl9_1]); (with_reducible repeat (first | apply Kd.R_alloc | apply Kd.R_drewN | apply Kd.R_drew)); exact HO126.out⟩, ⟨by with_reducible repeat first | exact HB.out | apply zA | apply zN | apply zD⟩⟩
         case round =>
          clear H'; (try clear c1); (try clear p1); (try clear q1); (try clear hx1); (try clear c2); (try clear p2); (try clear q2); (try clear hx2); (try clear c3); (try clear c5); (try clear c5b0); (try clear c5b1); (try clear c6); (try clear c6b0); (try clear c6b1); (try clear p6); (try clear c9); (try clear c11); (try clear c11b0); (try clear c12); (try clear c12b0); (try clear c13); (try clear c13b0); (try clear c14); (try clear c14b0); (try clear p15); (try clear q15); (try clear hx15); (try clear hf15); (try clear c18); (try clear c18b0); (try clear c19); (try clear c19b0); (try clear p20); (try clear q20); (try clear hx20); (try clear hf20); (try clear c23); (try clear c23b0); (try clear c23b1); (try clear c24); (try clear c24b0); (try clear c24b1); (try clear c25); (try clear c25b0); (try clear c25b1); (try clear hx15_0); (try clear hx20_0); (try clear p15); (try clear p2); (try clear p20); (try clear q15); (try clear q20); obtain ⟨x9_2, x51_2, rfl, HA, HK2, HO_9, HO_49, HB⟩ := hrel; have hl9_2 := (Kd.R_reads' HO_9.out).1; rw [hl9_2] at HO_9
          (try simp only [hl9_2])
          (try simp only [hl9_2] at HO_49)
          cases gk with
          | zero => exact absurd HA.out (by simp [kids_stay.l1])
          | succ k2 =>
           have H := HA.out; clear HA; simp only [kids_stay.l1] at H
           by_cases c30 : x51_2 < (t124.length : Int)
           ·
            rw [if_pos c30] at H; have c30b0 := decide_eq_true c30; clear c30
            by_cases c31 : 0 ≤ x51_2
            ·
             rw [if_pos c31] at H; have c31b0 := decide_eq_true c31; clear c31
             by_cases c32 : x51_2 < (t124.length : Int)
             ·
              rw [if_pos c32] at H; have c32b0 := decide_eq_true c32; clear c32; obtain ⟨ji33, hji33⟩ : ∃ j_ : Int, (wrap64 (t116 + (rd t124 x51_2))) = j_ := ⟨_, rfl⟩
              replace H : (if 0 ≤ (ji33) then (if (ji33) < (x9_2.length : Int) then (kids_stay.l1 k2 t116 (x9_2.set ((ji33) : Int).toNat true) t124 (t124.length : Int) (wrap64 (x51_2 + 1))) else (none)) else (none)) = some r := by first | (rw [hji33] at H; exact H) | (simp only [hji33] at H ⊢; exact H)
              have hji33w : (IntKind.i64.wrap (t116 + (rd t124 x51_2))) = ji33 := (i64_w _).trans hji33
              by_cases c34 : 0 ≤ (ji33)
              ·
               rw [if_pos c34] at H; have c34b0 := decide_eq_true c34; clear c34
               by_cases c35 : (ji33) < (x9_2.length : Int)
               ·
                rw [if_pos c35] at H; have c35b0 := decide_eq_true c35; clear c35; obtain ⟨y128, hy128⟩ : ∃ y_ : List Bool, y_ = (x9_2.set ((ji33) : Int).toNat true) := ⟨_, rfl⟩
                replace H : (kids_stay.l1 k2 t116 y128 t124 (t124.length : Int) (wrap64 (x51_2 + 1))) = some r := by first | (rw [hy128]; with_reducible exact H) | (have H2_ := (Option.bind_some _ _).symm.trans H; rw [hy128]; with_reducible exact H2_) | (have H2_ := (Option.bind_some _ _).symm.trans H; with_reducible exact H2_) | with_reducible exact H | (rw [hy128]; exact H) | exact H
                have Ny128 := zk hy128; clear hy128; have H' := zk H; clear H; have p127 : 0 ≤ (x51_2 : Int) := zo (by assumption); have q127 : x51_2 < (t124.length : Int) := zo (by assumption); obtain ⟨ad127, e127, hx127_0⟩ := Kd.at_int (Kd.R_reads' HO_49.out).2.2 x51_2 p127 q127; cases e127; replace p127 := eq_true p127; replace q127 := eq_true q127; have p36 : 0 ≤ ((ji33) : Int) := zo (by assumption); have q36 : ((ji33) : Int) < ((x9_2.length : Int) : Int) := zo (by assumption); obtain ⟨go36, co36, eo36, gb36, gl36, cl36, HG36⟩ := Kd.R_form HO_9.out (by omega)
                (first | cases eo36 | (injection eo36 with ea_ en_ ec_; (first | subst ea_ | (injection ea_ with ea_; subst ea_)); subst ec_; clear en_))
                have GB36 := zk gb36; have GG36 := zk HG36; clear gb36 gl36 HG36; obtain ⟨hx36_0, hf36_0⟩ := Kd.R_celln false HO_9.out ((ji33) : Int) p36 q36; replace p36 := eq_true p36; replace q36 := eq_true q36; have HP37 := Kd.R_putg HO_9.out ((ji33) : Int) true
                go_wp2_with (first | ((with_reducible refine gw (t := 4) (p := 59) rfl ?_); refine store_event (t := 4) (p := 59) (v := ?vo_w38) (w1 := (wr.setCell ⟨go36, ((ji33) : Int).toNat, none⟩ (.bool true))) ?hg ?ho ?hn ?hr ?_; (case ho => rfl); (case hg => rfl); (case hn => rfl); (case hr => go_simp; first | done | rfl); intro w38 hw; have hg : wr.grownBy w38 (some go36) := (by rw [hw]; exact HP37.2); have hp_ : Kd.R Kd.bool 4 w38 w.heap.size (fun _ => True) (.slice (some ⟨go36, 0, none⟩) x9_2.length co10) y128 := (by rw [hw, Ny128.out]; exact HP37.1); clear HP37; have n0_ := zk (hp_); have n1_ := zk (Kd.R_over' (v := (.slice (some ⟨go36, 0, none⟩) x9_2.length co10)) (by (with_reducible repeat (first | apply Kd.R_alloc | apply Kd.R_drewN | apply Kd.R_drew)); exact HO_49.out) (Kd.R_typed HO_9.out) (by decide) hg); have n2_ := zk ((by rw [hw]; exact zS (HB.out) GB36.out : Below w.heap.size w w38)); clear HO_9; clear HO_49; clear HB; have HO_9 := n0_; have HO_49 := n1_; have HB := n2_; clear n0_ n1_ n2_; clear hg hw hp_))
                (try simp only [← hl9_2])
                go_roundg k2
                case measure => have := HK1.out; have := HK2.out; omega
                case rel => exact ⟨(y128), (wrap64 (x51_2 + 1)), (by first | rfl | (simp; done) | (simp [*]; done)), H', ⟨by have := HK1.out; have := HK2.out; omega⟩, ⟨by (try simp only [hl9_1]); (try simp only [hl9_2]); (with_reducible repeat (first | apply Kd.R_alloc | apply Kd.R_drewN | apply Kd.R_drew)); exact HO_9.out⟩, ⟨by (try simp only [hl9_1]); (try simp only [hl9_2]); (with_reducible repeat (first | apply Kd.R_alloc | apply Kd.R_drewN | apply Kd.R_drew)); exact HO_49.out⟩, ⟨by with_reducible repeat first | exact HB.out | apply zA | apply zN | apply zD⟩⟩
               ·
                rw [if_neg c35] at H; exact absurd H (by simp)
              ·
               rw [if_neg c34] at H; exact absurd H (by simp)
             ·
              rw [if_neg c32] at H; exact absurd H (by simp)
            ·
             rw [if_neg c31] at H; exact absurd H (by simp)
           ·
            rw [if_neg c30] at H; have c30b0 := decide_eq_false c30; clear c30; obtain rfl := Option.some.inj H; go_wp2; go_ret; exact ⟨_, by first | rfl | (simp [wN, wS] <;> rfl) | (simp [*, wN, wS] <;> rfl), by (with_reducible repeat (first | apply Kd.R_alloc | apply Kd.R_drewN | apply Kd.R_drew)); exact HO_9.out, by with_reducible repeat first | exact HB.out | apply zA | apply zN | apply zD⟩
        ·
         rw [if_neg c25] at H; exact absurd H (by simp)
       ·
        rw [if_neg c24] at H; exact absurd H (by simp)
      ·
       rw [if_neg c23] at H; exact absurd H (by simp)
  ·
   rw [if_neg c6] at H; exact absurd H (by simp)
 ·
  rw [if_neg c5] at H; exact absurd H (by simp)
open List renaming setIfInBounds_toArray → zt, set_cons_zero → zu, set_cons_succ → zv
open Bool renaming true → T, false → F
mutual
def kids_Of.j0 : Nat → List (S50) → List (S50) → Bool → Option (List Int × List Int × (List (S46)) × Int)
 | 0, _, _, _ => none
 | k + 1, x0, x1, x20 => if x20 = true then (some (([] : List Int), ([] : List Int), ([] : List (S46)), 10)) else ((kids_kept.f k x0 x1).bind fun t132 => (if 0 ≤ (x0.length : Int) then (if ((x0.length : Int) : Int).toNat ≤ 281474976710656 then (kids_Of.l0 k x0 x1 (List.replicate ((x0.length : Int) : Int).toNat false) t132 (t132.length : Int) 0 t132) else (none)) else (none)))
def kids_Of.l0 : Nat → List (S50) → List (S50) → List Bool → List Int → Int → Int → List Int → Option (List Int × List Int × (List (S46)) × Int)
 | 0, _, _, _, _, _, _, _ => none
 | k + 1, x0, x1, x7, x30, x31, x32, x136000 => if x32 < x31 then (if 0 ≤ x32 then (if x32 < (x30.length : Int) then (if (rd x30 x32) ≥ 0 then (if 0 ≤ (rd x30 x32) then (if (rd x30 x32) < (x7.length : Int) then (kids_Of.l0 k x0 x1 (x7.set ((rd x30 x32) : Int).toNat true) x30 x31 (wrap64 (x32 + 1)) x136000) else (none)) else (none)) else (kids_Of.l0 k x0 x1 x7 x30 x31 (wrap64 (x32 + 1)) x136000)) else (none)) else (none)) else (kids_Of.l1 k x0 x1 x7 (x7.length : Int) 0 x136000 ([] : List Int))
def kids_Of.l1 : Nat → List (S50) → List (S50) → List Bool → Int → Int → List Int → List Int → Option (List Int × List Int × (List (S46)) × Int)
 | 0, _, _, _, _, _, _, _ => none
 | k + 1, x0, x1, x42, x43, x44, x136000, x136001 => if x44 < x43 then (if 0 ≤ x44 then (if x44 < (x42.length : Int) then (if rdOf false x42 x44 = true then (kids_Of.l1 k x0 x1 x42 x43 (wrap64 (x44 + 1)) x136000 x136001) else (if x136001.length < 17592186044416 then (kids_Of.l1 k x0 x1 x42 x43 (wrap64 (x44 + 1)) x136000 (x136001 ++ [x44])) else (none))) else (none)) else (none)) else ((kids_stay.f k x0 x1 x136000).bind fun t145 => (kids_Of.l2 k t145 (-1) (wrap64 ((x1.length : Int) - 1)) x136000 x136001 ([] : List (S46))))
def kids_Of.l2 : Nat → List Bool → Int → Int → List Int → List Int → List (S46) → Option (List Int × List Int × (List (S46)) × Int)
 | 0, _, _, _, _, _, _ => none
 | k + 1, x12, x13, x14, x136000, x136001, x136002 => if x14 ≥ 0 then (if 0 ≤ x14 then (if x14 < (x12.length : Int) then (if rdOf false x12 x14 = true then (kids_Of.l2 k x12 x14 (wrap64 (x14 - 1)) x136000 x136001 x136002) else (if x14 < (x136000.length : Int) then (if x136002.length < 5864062014805 then (kids_Of.l2 k x12 x14 (wrap64 (x14 - 1)) x136000 x136001 (x136002 ++ [(⟨x14, rd x136000 x14, x13⟩ : S46)])) else (none)) else (none))) else (none)) else (none)) else (some (x136000, x136001, x136002, 0))
end
def kids_Of.f (k : Nat) (l0 : List (S50)) (l1 : List (S50)) : Option (List Int × List Int × (List (S46)) × Int) := (kids_twice.f l0).bind fun t130 => (if t130 = true then (kids_Of.j0 k l0 l1 true) else ((kids_twice.f l1).bind fun t131 => (kids_Of.j0 k l0 l1 t131)))
theorem kids_Of.mono_l : ∀ k, (∀ y0 y1 y2, LeO (kids_Of.j0 k y0 y1 y2) (kids_Of.j0 (k + 1) y0 y1 y2)) ∧ (∀ y0 y1 y2 y3 y4 y5 y6, LeO (kids_Of.l0 k y0 y1 y2 y3 y4 y5 y6) (kids_Of.l0 (k + 1) y0 y1 y2 y3 y4 y5 y6)) ∧ (∀ y0 y1 y2 y3 y4 y5 y6, LeO (kids_Of.l1 k y0 y1 y2 y3 y4 y5 y6) (kids_Of.l1 (k + 1) y0 y1 y2 y3 y4 y5 y6)) ∧ (∀ y0 y1 y2 y3 y4 y5, LeO (kids_Of.l2 k y0 y1 y2 y3 y4 y5) (kids_Of.l2 (k + 1) y0 y1 y2 y3 y4 y5))
 | 0 => ⟨fun _ _ _ r h => by simp [kids_Of.j0] at h, fun _ _ _ _ _ _ _ r h => by simp [kids_Of.l0] at h, fun _ _ _ _ _ _ _ r h => by simp [kids_Of.l1] at h, fun _ _ _ _ _ _ r h => by simp [kids_Of.l2] at h⟩
 | k + 1 => by
  obtain ⟨ih0, ih1, ih2, ih3⟩ := kids_Of.mono_l k
  refine ⟨?_, ?_, ?_, ?_⟩
  ·
   intro y0 y1 y2
   unfold kids_Of.j0
   with_reducible repeat' first | exact ih0 _ _ _ | exact ih1 _ _ _ _ _ _ _ | exact ih2 _ _ _ _ _ _ _ | exact ih3 _ _ _ _ _ _ | exact kids_kept.mono _ _ _ | exact kids_stay.mono _ _ _ _ | exact LeO.refl _ | exact LeO.none _ | refine LeO.ite ?_ ?_ | refine LeO.bind ?_ (fun _ => ?_)
  ·
   intro y0 y1 y2 y3 y4 y5 y6
   unfold kids_Of.l0
   with_reducible repeat' first | exact ih0 _ _ _ | exact ih1 _ _ _ _ _ _ _ | exact ih2 _ _ _ _ _ _ _ | exact ih3 _ _ _ _ _ _ | exact kids_kept.mono _ _ _ | exact kids_stay.mono _ _ _ _ | exact LeO.refl _ | exact LeO.none _ | refine LeO.ite ?_ ?_ | refine LeO.bind ?_ (fun _ => ?_)
  ·
   intro y0 y1 y2 y3 y4 y5 y6
   unfold kids_Of.l1
   with_reducible repeat' first | exact ih0 _ _ _ | exact ih1 _ _ _ _ _ _ _ | exact ih2 _ _ _ _ _ _ _ | exact ih3 _ _ _ _ _ _ | exact kids_kept.mono _ _ _ | exact kids_stay.mono _ _ _ _ | exact LeO.refl _ | exact LeO.none _ | refine LeO.ite ?_ ?_ | refine LeO.bind ?_ (fun _ => ?_)
  ·
   intro y0 y1 y2 y3 y4 y5
   unfold kids_Of.l2
   with_reducible repeat' first | exact ih0 _ _ _ | exact ih1 _ _ _ _ _ _ _ | exact ih2 _ _ _ _ _ _ _ | exact ih3 _ _ _ _ _ _ | exact kids_kept.mono _ _ _ | exact kids_stay.mono _ _ _ _ | exact LeO.refl _ | exact LeO.none _ | refine LeO.ite ?_ ?_ | refine LeO.bind ?_ (fun _ => ?_)
theorem kids_Of.mono : ∀ a0 a1 k, LeO (kids_Of.f k a0 a1) (kids_Of.f (k + 1) a0 a1) := by
 intro a0 a1 k
 obtain ⟨ih0, ih1, ih2, ih3⟩ := kids_Of.mono_l k
 unfold kids_Of.f
 with_reducible repeat' first | exact ih0 _ _ _ | exact ih1 _ _ _ _ _ _ _ | exact ih2 _ _ _ _ _ _ _ | exact ih3 _ _ _ _ _ _ | exact kids_kept.mono _ _ _ | exact kids_stay.mono _ _ _ _ | exact LeO.refl _ | exact LeO.none _ | refine LeO.ite ?_ ?_ | refine LeO.bind ?_ (fun _ => ?_)
def kids_Of.T23 : Bool × List (List Nat × List Nat) := (true, [([], []), ([0], [0]), ([], []), ([], []), ([3], [3]), ([], []), ([4, 5], [4, 5]), ([6], [6]), ([], []), ([2, 7, 8], [2, 7, 8]), ([9], [9]), ([1, 10], [1, 10]), ([0, 1, 2, 3, 4, 5, 6, 7, 8, 9, 10, 11], []), ([12, 11, 11, 0, 1, 2, 3, 4, 5, 6, 7, 8, 9, 10, 11], [11, 12])])
def kids_Of.B23 : List Nat := [0, 1, 0, 0, 8, 0, 56, 120, 0, 508, 1020, 2047, 4095, 8191]
theorem kids_Of.tab23 : rtab .any (opsOf Try.f11 23) = kids_Of.T23 := by kernel_rfl
theorem kids_Of.bits23 : waitsOk kids_Of.T23.2 kids_Of.B23 = true := by kernel_rfl
set_option maxHeartbeats 8000000 in
set_option maxRecDepth 100000 in
theorem kids_Of.calls (k : Nat) (A0 : Option Addr) (c0 : Nat) (l0 : List (S50)) (A1 : Option Addr) (c1 : Nat) (l1 : List (S50)) (r1 : List Int) (r2 : List Int) (r3 : List (S46)) (r4 : Int) (w : World) (hr0 : Kd.C k50 w A0 l0.length l0) (hc0 : l0.length ≤ c0) (hr1 : Kd.C k50 w A1 l1.length l1) (hc1 : l1.length ≤ c1) (h : kids_Of.f k l0 l1 = some (r1, r2, r3, r4)) :
  Calls Try.prog 11 #[.slice A0 l0.length c0, .slice A1 l1.length c1] w fun e w' => ∃ v0_ v1_ v2_ : Value, e = .returned (.tuple #[.agg #[v0_, v1_, v2_], .int .i64 r4]) ∧ Kd.R (Kd.int .i64) 3 w' w.heap.size (fun k_ => some k_ ≠ (v1_ : Value).ownBlock) v0_ r1 ∧ Kd.R (Kd.int .i64) 3 w' w.heap.size (fun k_ => some k_ ≠ (v0_ : Value).ownBlock) v1_ r2 ∧ Kd.R k46 46 w' w.heap.size (fun _ => True) v2_ r3 ∧ Below w.heap.size w w' := by
 have hu30 := Try.underlying30
 have hu46 := Try.underlying46
 have HR0 := zk hr0
 have HC0 := zk hc0
 clear hr0 hc0
 have HR1 := zk hr1
 have HC1 := zk hc1
 clear hr1 hc1
 have HB := zk (Below.refl w.heap.size w)
 have H : ((kids_twice.f l0).bind fun t130 => (if t130 = true then (kids_Of.j0 k l0 l1 true) else ((kids_twice.f l1).bind fun t131 => (kids_Of.j0 k l0 l1 t131)))) = some (r1, r2, r3, r4) := h
 clear h
 have HC3 := zk H
 clear H
 go_enter Try.func11, Try.ntmps11
 go_upto_region 1 with (first | ((with_reducible refine gd (N := 4) rfl ?_); refine zb ?hg (N := 4) ?hd (cs := #[.slice none 0 0, .slice none 0 0, .slice none 0 0]) (t := 30) ?hr ?_; (case hd => rfl); (case hg => rfl); (case hr => go_simp; first | done | rfl); intro gb129 hg w4 hbox hb; have n0_ := zk (zs (by with_reducible repeat first | exact HB.out | apply zA | apply zN | apply zD) hb); have n1_ := zk (hbox); have n2_ := zk ((by rw [hg]; exact (zq (by with_reducible repeat first | exact HB.out | apply zA | apply zN | apply zD)) : w.heap.size ≤ gb129)); have n3_ := n2_; clear HB; have HB := n0_; have BK129 := n1_; have GW129 := n2_; have GE129 := n3_; clear n0_ n1_ n2_ n3_; clear hb hbox hg))
 (try simp only [Act.put, zt, zu, zv])
 go_cut [20] (fun v20 wc => ∃ (kq : Nat) (x20_2 : Bool), v20 = .bool x20_2 ∧ Aside0 (kids_Of.j0 kq l0 l1 x20_2 = some (r1, r2, r3, r4)) ∧ Aside0 (kq ≤ k) ∧ Aside0 (wc.heap[gb129]? = some (.cells #[(.slice none 0 0), (.slice none 0 0), (.slice none 0 0)] 30 (0, 0))) ∧ Aside0 (Below w.heap.size w wc))
 case first =>
  have H := HC3.out; clear HC3; replace H := Option.bind_eq_some_iff.mp H; obtain ⟨t130, A50, H⟩ := H; replace H : (if t130 = true then (kids_Of.j0 k l0 l1 true) else ((kids_twice.f l1).bind fun t131 => (kids_Of.j0 k l0 l1 t131))) = some (r1, r2, r3, r4) := H; have A5 := zk A50; clear A50
  by_cases c6 : t130 = true
  ·
   subst c6
   have H1 : (kids_Of.j0 k l0 l1 true) = some (r1, r2, r3, r4) := by rw [if_pos rfl] at H; exact H
   clear H; have H := H1; clear H1; have H' := zk H; clear H
   go_wp2_with (first | ((with_reducible refine gk (f := 23) rfl ?_); refine gl (some 16) rfl rfl Try.func23 (by kernel_rfl) rfl #[.slice A0 l0.length c0] rfl (by (try simp only [List.map_toArray, List.map_cons, List.map_nil]); first | done | rfl | (simp only [List.length_drop, List.length_take]; rfl)) ?_; (with_reducible refine (kids_twice.calls _ _ l0 true _ ?side1 ?side2 A5.out).mono ?_); (case side1 => repeat (first | exact (Kd.C_below HR0.out HB.out) | (with_reducible refine Kd.C_alloc ?_ _) | (with_reducible refine Kd.C_drewN ?_ _) | (with_reducible refine Kd.C_drew ?_))); (case side2 => exact HC0.out); rintro e w7 ⟨rfl, hb⟩; refine ⟨_, rfl, ?_⟩; have n0_ := zk (blk_below (g := gb129) (o := .cells #[.slice none 0 0, .slice none 0 0, .slice none 0 0] 30 (0, 0)) (by (with_reducible repeat first | apply zM | apply zE | apply zF); exact BK129.out) hb); have n1_ := zk (zs (by with_reducible repeat first | exact HB.out | apply zA | apply zN | apply zD | refine zS ?_ GE129.out) hb); clear BK129; clear HB; have BK129 := n0_; have HB := n1_; clear n0_ n1_; (try clear hb); (try clear hb2); (try clear hk); (try clear hi)))
   go_meet
   case rel => exact ⟨_, (true), (by first | rfl | (simp; done) | (simp [*]; done)), H', ⟨by first | omega | exact Nat.le_refl _⟩, ⟨by (with_reducible repeat first | apply zM | apply zE | apply zF); exact BK129.out⟩, ⟨by with_reducible repeat first | exact HB.out | apply zA | apply zN | apply zD | refine zS ?_ GE129.out⟩⟩
  ·
   replace c6 := Bool.eq_false_iff.mpr c6; subst c6
   have H1 : ((kids_twice.f l1).bind fun t131 => (kids_Of.j0 k l0 l1 t131)) = some (r1, r2, r3, r4) := by rw [if_neg (show ¬ (false = true) by decide)] at H; exact H
   clear H; have H := H1; clear H1; replace H := Option.bind_eq_some_iff.mp H; obtain ⟨t131, A80, H⟩ := H; replace H : (kids_Of.j0 k l0 l1 t131) = some (r1, r2, r3, r4) := H; have A8 := zk A80; clear A80; have H' := zk H; clear H
   go_wp2_with (first | ((with_reducible refine gk (f := 23) rfl ?_); refine gl (some 16) rfl rfl Try.func23 (by kernel_rfl) rfl #[.slice A0 l0.length c0] rfl (by (try simp only [List.map_toArray, List.map_cons, List.map_nil]); first | done | rfl | (simp only [List.length_drop, List.length_take]; rfl)) ?_; (with_reducible refine (kids_twice.calls _ _ l0 false _ ?side1 ?side2 A5.out).mono ?_); (case side1 => repeat (first | exact (Kd.C_below HR0.out HB.out) | (with_reducible refine Kd.C_alloc ?_ _) | (with_reducible refine Kd.C_drewN ?_ _) | (with_reducible refine Kd.C_drew ?_))); (case side2 => exact HC0.out); rintro e w9 ⟨rfl, hb⟩; refine ⟨_, rfl, ?_⟩; have n0_ := zk (blk_below (g := gb129) (o := .cells #[.slice none 0 0, .slice none 0 0, .slice none 0 0] 30 (0, 0)) (by (with_reducible repeat first | apply zM | apply zE | apply zF); exact BK129.out) hb); have n1_ := zk (zs (by with_reducible repeat first | exact HB.out | apply zA | apply zN | apply zD | refine zS ?_ GE129.out) hb); clear BK129; clear HB; have BK129 := n0_; have HB := n1_; clear n0_ n1_; (try clear hb); (try clear hb2); (try clear hk); (try clear hi)) | (go_at_call 23; (with_reducible refine (kids_twice.calls _ _ l1 t131 _ ?side1 ?side2 A8.out).mono ?_); (case side1 => repeat (first | exact (Kd.C_below HR1.out HB.out) | (with_reducible refine Kd.C_alloc ?_ _) | (with_reducible refine Kd.C_drewN ?_ _) | (with_reducible refine Kd.C_drew ?_))); (case side2 => exact HC1.out); rintro e w10 ⟨rfl, hb⟩; have n0_ := zk (blk_below (g := gb129) (o := .cells #[.slice none 0 0, .slice none 0 0, .slice none 0 0] 30 (0, 0)) (by (with_reducible repeat first | apply zM | apply zE | apply zF); exact BK129.out) hb); have n1_ := zk (zs (by with_reducible repeat first | exact HB.out | apply zA | apply zN | apply zD | refine zS ?_ GE129.out) hb); clear BK129; clear HB; have BK129 := n0_; have HB := n1_; clear n0_ n1_; (try clear hb); (try clear hb2); (try clear hk); (try clear hi)))
   go_meet
   case rel => exact ⟨_, (t131), (by first | rfl | (simp; done) | (simp [*]; done)), H', ⟨by first | omega | exact Nat.le_refl _⟩, ⟨by (with_reducible repeat first | apply zM | apply zE | apply zF); exact BK129.out⟩, ⟨by with_reducible repeat first | exact HB.out | apply zA | apply zN | apply zD | refine zS ?_ GE129.out⟩⟩
 case rest =>
  clear HC3; (try clear c1); (try clear c2); (try clear p2); (try clear c6); obtain ⟨kq, x20_2, rfl, HA, HJ2, BK129, HB⟩ := hcut
  cases kq with
  | zero => exact absurd HA.out (by simp [kids_Of.j0])
  | succ kj2 =>
   have H := HA.out; clear HA; simp only [kids_Of.j0] at H
   by_cases c11 : x20_2 = true
   ·
    subst c11
    have H1 : (some (([] : List Int), ([] : List Int), ([] : List (S46)), 10)) = some (r1, r2, r3, r4) := by rw [if_pos rfl] at H; exact H
    clear H; have H := H1; clear H1; simp only [Option.some.injEq, Prod.mk.injEq] at H; obtain ⟨rfl, rfl, rfl, rfl⟩ := H; have hcz12_0 : wc.cell? ⟨gb129, 0, none⟩ = some (.slice none 0 0) := (zC BK129.out 0).trans rfl; have hcz12_1 : wc.cell? ⟨gb129, 1, none⟩ = some (.slice none 0 0) := (zC BK129.out 1).trans rfl; have hcz12_2 : wc.cell? ⟨gb129, 2, none⟩ = some (.slice none 0 0) := (zC BK129.out 2).trans rfl; have hfz12_0 := zR BK129.out 0; have hfz12_1 := zR BK129.out 1; have hfz12_2 := zR BK129.out 2; go_wp2; refine bodyPost_ret (zx rfl _ _ gb129 30 #[.slice none 0 0, .slice none 0 0, .slice none 0 0] (0, 0) _ rfl (by (with_reducible repeat first | apply zM | apply zE | apply zF); refine zP (cs := #[.slice none 0 0, .slice none 0 0, .slice none 0 0]) ?_ 2 _ rfl; (with_reducible repeat first | apply zM | apply zE | apply zF); refine zP (cs := #[.slice none 0 0, .slice none 0 0, .slice none 0 0]) ?_ 1 _ rfl; (with_reducible repeat first | apply zM | apply zE | apply zF); refine zP (cs := #[.slice none 0 0, .slice none 0 0, .slice none 0 0]) ?_ 0 _ rfl; (with_reducible repeat first | apply zM | apply zE | apply zF); exact BK129.out) Try.underlying30 rfl (by kernel_rfl)) rfl ?_; exact ⟨_, _, _, by first | rfl | (simp [wN, wS] <;> rfl) | (simp [*, wN, wS] <;> rfl), by first | exact Kd.R_nil _ _ _ _ _ | exact Kd.N_nil _ _ _ _ _ | exact Kd.V_nil _ _ _ _ _ | exact Kd.Q_nil _ _ _ _ _ | exact Kd.S_nil _ _ _ _ _, by first | exact Kd.R_nil _ _ _ _ _ | exact Kd.N_nil _ _ _ _ _ | exact Kd.V_nil _ _ _ _ _ | exact Kd.Q_nil _ _ _ _ _ | exact Kd.S_nil _ _ _ _ _, by first | exact Kd.R_nil _ _ _ _ _ | exact Kd.N_nil _ _ _ _ _ | exact Kd.V_nil _ _ _ _ _ | exact Kd.Q_nil _ _ _ _ _ | exact Kd.S_nil _ _ _ _ _, by with_reducible repeat first | exact HB.out | apply zA | apply zN | apply zD | refine zS ?_ GE129.out⟩
   ·
    replace c11 := Bool.eq_false_iff.mpr c11; subst c11
    have H1 : ((kids_kept.f kj2 l0 l1).bind fun t132 => (if 0 ≤ (l0.length : Int) then (if ((l0.length : Int) : Int).toNat ≤ 281474976710656 then (kids_Of.l0 kj2 l0 l1 (List.replicate ((l0.length : Int) : Int).toNat false) t132 (t132.length : Int) 0 t132) else (none)) else (none))) = some (r1, r2, r3, r4) := by rw [if_neg (show ¬ (false = true) by decide)] at H; exact H
    clear H; have H := H1; clear H1; replace H := Option.bind_eq_some_iff.mp H; obtain ⟨t132, A130, H⟩ := H; replace H : (if 0 ≤ (l0.length : Int) then (if ((l0.length : Int) : Int).toNat ≤ 281474976710656 then (kids_Of.l0 kj2 l0 l1 (List.replicate ((l0.length : Int) : Int).toNat false) t132 (t132.length : Int) 0 t132) else (none)) else (none)) = some (r1, r2, r3, r4) := H; have A13 := zk A130; clear A130
    by_cases c14 : 0 ≤ (l0.length : Int)
    ·
     rw [if_pos c14] at H; have c14b0 := eq_true c14; have c14b1 := decide_eq_true c14; clear c14
     by_cases c15 : ((l0.length : Int) : Int).toNat ≤ 281474976710656
     ·
      rw [if_pos c15] at H; have c15b0 := eq_true c15; have c15b1 := decide_eq_true c15; clear c15; obtain ⟨y136, hy136⟩ : ∃ y_ : List Bool, y_ = (List.replicate ((l0.length : Int) : Int).toNat false) := ⟨_, rfl⟩
      replace H : (kids_Of.l0 kj2 l0 l1 y136 t132 (t132.length : Int) 0 t132) = some (r1, r2, r3, r4) := by first | (rw [hy136]; with_reducible exact H) | (have H2_ := (Option.bind_some _ _).symm.trans H; rw [hy136]; with_reducible exact H2_) | (have H2_ := (Option.bind_some _ _).symm.trans H; with_reducible exact H2_) | with_reducible exact H | (rw [hy136]; exact H) | exact H
      have Ny136 := zk hy136; clear hy136; have H' := zk H; clear H
      go_wp2_with (first | ((with_reducible refine gk (f := 24) rfl ?_); refine gl (some 24) rfl rfl Try.func24 (by kernel_rfl) rfl #[.slice A0 l0.length c0, .slice A1 l1.length c1] rfl (by (try simp only [List.map_toArray, List.map_cons, List.map_nil]); first | done | rfl | (simp only [List.length_drop, List.length_take]; rfl)) ?_; (with_reducible refine (kids_kept.calls kj2 _ _ l0 _ _ l1 t132 _ ?side1 ?side2 ?side3 ?side4 A13.out).mono ?_); (case side1 => repeat (first | exact (Kd.C_below HR0.out HB.out) | (with_reducible refine Kd.C_alloc ?_ _) | (with_reducible refine Kd.C_drewN ?_ _) | (with_reducible refine Kd.C_drew ?_))); (case side2 => exact HC0.out); (case side3 => repeat (first | exact (Kd.C_below HR1.out HB.out) | (with_reducible refine Kd.C_alloc ?_ _) | (with_reducible refine Kd.C_drewN ?_ _) | (with_reducible refine Kd.C_drew ?_))); (case side4 => exact HC1.out); rintro e w16 ⟨v133, rfl, ho0, hb⟩; refine ⟨_, rfl, ?_⟩; have n0_ := zk (Kd.R_lower ho0 (zq (by with_reducible repeat first | exact HB.out | apply zA | apply zN | apply zD | refine zS ?_ GE129.out))); have n1_ := zk (blk_below (g := gb129) (o := .cells #[.slice none 0 0, .slice none 0 0, .slice none 0 0] 30 (0, 0)) (by (with_reducible repeat first | apply zM | apply zE | apply zF); exact BK129.out) hb); have n2_ := zk (zs (by with_reducible repeat first | exact HB.out | apply zA | apply zN | apply zD | refine zS ?_ GE129.out) hb); clear BK129; clear HB; have HO134 := n0_; have BK129 := n1_; have HB := n2_; clear n0_ n1_ n2_; (try clear hb); (try clear hb2); (try clear hk); (try clear hi); (try clear ho0); obtain ⟨Ao17, co17, eo17⟩ := Kd.R_slice HO134.out; subst eo17) | ((with_reducible refine gd (N := 6) rfl ?_); refine zb ?hg (N := 6) ?hd (cs := #[.slice none 0 0, .slice none 0 0, .slice none 0 0]) (t := 30) ?hr ?_; (case hd => rfl); (case hg => rfl); (case hr => go_simp; first | done | rfl); intro gb135 hg w18 hbox hb; have n0_ := zk (Kd.R_below (by (with_reducible repeat (first | apply Kd.R_alloc | apply Kd.R_drewN | apply Kd.R_drew)); exact HO134.out) hb); have n1_ := zk (blk_below (g := gb129) (o := .cells #[.slice none 0 0, .slice none 0 0, .slice none 0 0] 30 (0, 0)) (by (with_reducible repeat first | apply zM | apply zE | apply zF); exact BK129.out) hb); have n2_ := zk (zs (by with_reducible repeat first | exact HB.out | apply zA | apply zN | apply zD | refine zS ?_ GE129.out) hb); have n3_ := zk (hbox); have n4_ := zk ((by rw [hg]; exact (zq (by with_reducible repeat first | exact HB.out | apply zA | apply zN | apply zD | refine zS ?_ GE129.out)) : w.heap.size ≤ gb135)); have n5_ := n4_; have n6_ := zk ((by rw [hg]; exact Nat.ne_of_lt (blk_lt (g := gb129) (o := .cells #[.slice none 0 0, .slice none 0 0, .slice none 0 0] 30 (0, 0)) (by (with_reducible repeat first | apply zM | apply zE | apply zF); exact BK129.out)) : gb129 ≠ gb135)); have n7_ := zk ((by rw [hg]; exact Nat.ne_of_gt (blk_lt (g := gb129) (o := .cells #[.slice none 0 0, .slice none 0 0, .slice none 0 0] 30 (0, 0)) (by (with_reducible repeat first | apply zM | apply zE | apply zF); exact BK129.out)) : gb135 ≠ gb129)); clear HO134; clear BK129; clear HB; have HO134 := n0_; have BK129 := n1_; have HB := n2_; have BK135 := n3_; have GW135 := n4_; have GE135 := n5_; have NB129_135 := n6_; have NB135_129 := n7_; clear n0_ n1_ n2_ n3_ n4_ n5_ n6_ n7_; clear hb hbox hg; have hnb19 := NB135_129.out; have hnc19 := NB129_135.out; obtain ⟨hcz20_0, hcz20_1, hcz20_2, hfz20_0, hfz20_1, hfz20_2⟩ := zc3 BK135.out) | ((with_reducible refine gd (N := 28) rfl ?_); refine Kd.R_make Kd.bool _ 4 rfl (N := 28) rfl 52 _ _ rfl (l0.length : Int) rfl rfl Try.underlying52 (.bool false) 1 info4 rfl (by decide) (by omega) false (ok := fun _ => True) (okp := fun _ => True) rfl (fun _ hk => hk) trivial (zo (by assumption)) (Nat.le_trans (Nat.mul_le_mul_right _ (zo (by assumption) : (l0.length : Int).toNat ≤ 281474976710656)) (by omega)) (Below.refl _ _) (Nat.le_refl _) ?_; intro v137 w21 ho22 hb hg_ hnew_; clear hg_ hnew_; (first | rw [← Ny136.out] at ho22 | (simp only [Int.reduceToNat] at ho22; rw [← Ny136.out] at ho22)); have n0_ := zk (Kd.R_below (by (with_reducible repeat (first | apply Kd.R_alloc | apply Kd.R_drewN | apply Kd.R_drew)); exact (Kd.R_mono (Kd.R_far (p := ⟨gb135, 2, none⟩) (Kd.R_far (p := ⟨gb135, 1, none⟩) (Kd.R_far (p := ⟨gb135, 0, none⟩) (Kd.R_types HO134.out BK135.out (by decide)) (fun _ hk => hk.2) (.slice Ao17 t132.length co17)) (fun _ hk => hk.2) (.slice none 0 0)) (fun _ hk => hk.2) (.slice none 0 0)) (fun _ h_ => h_.1))) hb); have n1_ := zk (Kd.R_lower ho22 (zq (by with_reducible repeat first | exact HB.out | apply zA | apply zN | apply zD | refine zS ?_ GE129.out | refine zS ?_ GE135.out))); have n2_ := zk (blk_below (g := gb129) (o := .cells #[.slice none 0 0, .slice none 0 0, .slice none 0 0] 30 (0, 0)) (by (with_reducible repeat first | apply zM | apply zE | apply zF); refine zG ?_ NB129_135.out _; (with_reducible repeat first | apply zM | apply zE | apply zF); refine zG ?_ NB129_135.out _; (with_reducible repeat first | apply zM | apply zE | apply zF); refine zG ?_ NB129_135.out _; (with_reducible repeat first | apply zM | apply zE | apply zF); exact BK129.out) hb); have n3_ := zk (blk_below (g := gb135) (o := .cells #[.slice Ao17 t132.length co17, .slice none 0 0, .slice none 0 0] 30 (0, 0)) (by (with_reducible repeat first | apply zM | apply zE | apply zF); refine zP (cs := #[.slice Ao17 t132.length co17, .slice none 0 0, .slice none 0 0]) ?_ 2 _ rfl; (with_reducible repeat first | apply zM | apply zE | apply zF); refine zP (cs := #[.slice Ao17 t132.length co17, .slice none 0 0, .slice none 0 0]) ?_ 1 _ rfl; (with_reducible repeat first | apply zM | apply zE | apply zF); refine zP (cs := #[.slice none 0 0, .slice none 0 0, .slice none 0 0]) ?_ 0 _ rfl; (with_reducible repeat first | apply zM | apply zE | apply zF); exact BK135.out) hb); have n4_ := zk (zs (by with_reducible repeat first | exact HB.out | apply zA | apply zN | apply zD | refine zS ?_ GE129.out | refine zS ?_ GE135.out) hb); clear HO134; clear BK129; clear BK135; clear HB; have HO134 := n0_; have HO138 := n1_; have BK129 := n2_; have BK135 := n3_; have HB := n4_; clear n0_ n1_ n2_ n3_ n4_; clear hb ho22; obtain ⟨hcz23_0, hcz23_1, hcz23_2, hfz23_0, hfz23_1, hfz23_2⟩ := zc3 BK135.out))
      go_loopg [32] kj2 (fun kq v32 w' => ∃ (x7_2 : List Bool) (x32_2 : Int), v32 = .int .i64 x32_2 ∧ Aside0 (kids_Of.l0 kq l0 l1 x7_2 t132 (t132.length : Int) x32_2 t132 = some (r1, r2, r3, r4)) ∧ Aside0 (kq ≤ kj2) ∧ Aside0 (Kd.R Kd.bool 4 w' w.heap.size (fun _ => True) v137 x7_2) ∧ Aside0 (Kd.R (Kd.int .i64) 3 w' w.heap.size (fun _ => True) (.slice Ao17 t132.length co17) t132) ∧ Aside0 (Kd.R (Kd.int .i64) 3 w' w.heap.size (fun _ => True) (.slice Ao17 t132.length co17) t132) ∧ Aside0 (w'.heap[gb129]? = some (.cells #[(.slice none 0 0), (.slice none 0 0), (.slice none 0 0)] 30 (0, 0))) ∧ Aside0 (w'.heap[gb135]? = some (.cells #[(.slice Ao17 t132.length co17), (.slice none 0 0), (.slice none 0 0)] 30 (0, 0))) ∧ Aside0 (Below w.heap.size w w'))
      case atStart => exact ⟨(y136), (0), (by first | rfl | (simp; done) | (simp [*]; done)), H', ⟨Nat.le_refl _⟩, ⟨by (with_reducible repeat (first | apply Kd.R_alloc | apply Kd.R_drewN | apply Kd.R_drew)); exact HO138.out⟩, ⟨by (with_reducible repeat (first | apply Kd.R_alloc | apply Kd.R_drewN | apply Kd.R_drew)); exact HO134.out⟩, ⟨by (with_reducible repeat (first | apply Kd.R_alloc | apply Kd.R_drewN | apply Kd.R_drew)); exact HO134.out⟩, ⟨by (with_reducible repeat first | apply zM | apply zE | apply zF); exact BK129.out⟩, ⟨by (with_reducible repeat first | apply zM | apply zE | apply zF); exact BK135.out⟩, ⟨by with_reducible repeat first | exact HB.out | apply zA | apply zN | apply zD | refine zS ?_ GE129.out | refine zS ?_ GE135.out⟩⟩
      case round =>
       clear H'; (try clear c1); (try clear c2); (try clear p2); (try clear c6); (try clear c11); (try clear c14); (try clear c14b0); (try clear c14b1); (try clear c15); (try clear c15b0); (try clear c15b1); (try clear c19); (try clear c23); (try clear p2)
       (try clear BK129); (try clear BK135)
       obtain ⟨x7_2, x32_2, rfl, HA, HK2, HO_7, HO_30, HO_136000, BK129, BK135, HB⟩ := hrel
       cases gk with
       | zero => exact absurd HA.out (by simp [kids_Of.l0])
       | succ k2 =>
        have H := HA.out; clear HA; simp only [kids_Of.l0] at H
        by_cases c24 : x32_2 < (t132.length : Int)
        ·
         rw [if_pos c24] at H; have c24b0 := decide_eq_true c24; clear c24
         by_cases c25 : 0 ≤ x32_2
         ·
          rw [if_pos c25] at H; have c25b0 := decide_eq_true c25; clear c25
          by_cases c26 : x32_2 < (t132.length : Int)
          ·
           rw [if_pos c26] at H; have c26b0 := decide_eq_true c26; clear c26
           by_cases c27 : (rd t132 x32_2) ≥ 0
           ·
            rw [if_pos c27] at H; have c27b0 : decide (0 ≤ (rd t132 x32_2)) = true := decide_eq_true c27; clear c27
            by_cases c28 : 0 ≤ (rd t132 x32_2)
            ·
             rw [if_pos c28] at H; have c28b0 := decide_eq_true c28; clear c28
             by_cases c29 : (rd t132 x32_2) < (x7_2.length : Int)
             ·
              rw [if_pos c29] at H; have c29b0 := decide_eq_true c29; clear c29; obtain ⟨y140, hy140⟩ : ∃ y_ : List Bool, y_ = (x7_2.set ((rd t132 x32_2) : Int).toNat true) := ⟨_, rfl⟩
              replace H : (kids_Of.l0 k2 l0 l1 y140 t132 (t132.length : Int) (wrap64 (x32_2 + 1)) t132) = some (r1, r2, r3, r4) := by first | (rw [hy140]; with_reducible exact H) | (have H2_ := (Option.bind_some _ _).symm.trans H; rw [hy140]; with_reducible exact H2_) | (have H2_ := (Option.bind_some _ _).symm.trans H; with_reducible exact H2_) | with_reducible exact H | (rw [hy140]; exact H) | exact H
              have Ny140 := zk hy140; clear hy140; have H' := zk H; clear H; have p139 : 0 ≤ (x32_2 : Int) := zo (by assumption); have q139 : x32_2 < (t132.length : Int) := zo (by assumption); obtain ⟨ad139, e139, hx139_0⟩ := Kd.at_int (Kd.R_reads' HO_30.out).2.2 x32_2 p139 q139; cases e139; replace p139 := eq_true p139; replace q139 := eq_true q139; have p30 : 0 ≤ ((rd t132 x32_2) : Int) := zo (by assumption); have q30 : ((rd t132 x32_2) : Int) < ((x7_2.length : Int) : Int) := zo (by assumption); obtain ⟨go30, co30, eo30, gb30, gl30, cl30, HG30⟩ := Kd.R_form HO_7.out (by omega)
              (first | cases eo30 | (injection eo30 with ea_ en_ ec_; (first | subst ea_ | (injection ea_ with ea_; subst ea_)); subst ec_; clear en_))
              have GB30 := zk gb30; have GG30 := zk HG30; clear gb30 gl30 HG30; obtain ⟨hx30_0, hf30_0⟩ := Kd.R_celln false HO_7.out ((rd t132 x32_2) : Int) p30 q30; replace p30 := eq_true p30; replace q30 := eq_true q30; have HP31 := Kd.R_putg HO_7.out ((rd t132 x32_2) : Int) true
              go_wp2_with (first | ((with_reducible refine gw (t := 4) (p := 40) rfl ?_); refine store_event (t := 4) (p := 40) (v := ?vo_w32) (w1 := (wr.setCell ⟨go30, ((rd t132 x32_2) : Int).toNat, none⟩ (.bool true))) ?hg ?ho ?hn ?hr ?_; (case ho => rfl); (case hg => rfl); (case hn => rfl); (case hr => go_simp; first | done | rfl); intro w32 hw; have hg : wr.grownBy w32 (some go30) := (by rw [hw]; exact HP31.2); have hp_ : Kd.R Kd.bool 4 w32 w.heap.size (fun _ => True) (.slice (some ⟨go30, 0, none⟩) x7_2.length co30) y140 := (by rw [hw, Ny140.out]; exact HP31.1); clear HP31; have n0_ := zk (hp_); have n1_ := zk (Kd.R_over' (v := (.slice (some ⟨go30, 0, none⟩) x7_2.length co30)) (by (with_reducible repeat (first | apply Kd.R_alloc | apply Kd.R_drewN | apply Kd.R_drew)); exact HO_30.out) (Kd.R_typed HO_7.out) (by decide) hg); have n2_ := zk (Kd.R_over' (v := (.slice (some ⟨go30, 0, none⟩) x7_2.length co30)) (by (with_reducible repeat (first | apply Kd.R_alloc | apply Kd.R_drewN | apply Kd.R_drew)); exact HO_136000.out) (Kd.R_typed HO_7.out) (by decide) hg); have n3_ := zk (blk_grown (g := gb129) (o := .cells #[.slice none 0 0, .slice none 0 0, .slice none 0 0] 30 (0, 0)) (by (with_reducible repeat first | apply zM | apply zE | apply zF); exact BK129.out) hg (Kd.R_ne HO_7.out BK129.out (by decide))); have n4_ := zk (blk_grown (g := gb135) (o := .cells #[.slice (some ad139) t132.length co17, .slice none 0 0, .slice none 0 0] 30 (0, 0)) (by (with_reducible repeat first | apply zM | apply zE | apply zF); exact BK135.out) hg (Kd.R_ne HO_7.out BK135.out (by decide))); have n5_ := zk ((by rw [hw]; exact zS (HB.out) GB30.out : Below w.heap.size w w32)); clear HO_7; clear HO_30; clear HO_136000; clear BK129; clear BK135; clear HB; have HO_7 := n0_; have HO_30 := n1_; have HO_136000 := n2_; have BK129 := n3_; have BK135 := n4_; have HB := n5_; clear n0_ n1_ n2_ n3_ n4_ n5_; clear hg hw hp_))
              go_roundg k2
              case measure => have := HJ2.out; have := HK2.out; omega
              case rel => exact ⟨(y140), (wrap64 (x32_2 + 1)), (by first | rfl | (simp; done) | (simp [*]; done)), H', ⟨by have := HJ2.out; have := HK2.out; omega⟩, ⟨by (with_reducible repeat (first | apply Kd.R_alloc | apply Kd.R_drewN | apply Kd.R_drew)); exact HO_7.out⟩, ⟨by (with_reducible repeat (first | apply Kd.R_alloc | apply Kd.R_drewN | apply Kd.R_drew)); exact HO_30.out⟩, ⟨by (with_reducible repeat (first | apply Kd.R_alloc | apply Kd.R_drewN | apply Kd.R_drew)); exact HO_136000.out⟩, ⟨by (with_reducible repeat first | apply zM | apply zE | apply zF); exact BK129.out⟩, ⟨by (with_reducible repeat first | apply zM | apply zE | apply zF); exact BK135.out⟩, ⟨by with_reducible repeat first | exact HB.out | apply zA | apply zN | apply zD | refine zS ?_ GE129.out | refine zS ?_ GE135.out⟩⟩
             ·
              rw [if_neg c29] at H; exact absurd H (by simp)
            ·
             rw [if_neg c28] at H; exact absurd H (by simp)
           ·
            rw [if_neg c27] at H; have c27b0 : decide (0 ≤ (rd t132 x32_2)) = false := decide_eq_false c27; clear c27; have H' := zk H; clear H; have p139 : 0 ≤ (x32_2 : Int) := zo (by assumption); have q139 : x32_2 < (t132.length : Int) := zo (by assumption); obtain ⟨ad139, e139, hx139_0⟩ := Kd.at_int (Kd.R_reads' HO_30.out).2.2 x32_2 p139 q139; cases e139; replace p139 := eq_true p139; replace q139 := eq_true q139; go_wp2
            go_roundg k2
            case measure => have := HJ2.out; have := HK2.out; omega
            case rel => exact ⟨(x7_2), (wrap64 (x32_2 + 1)), (by first | rfl | (simp; done) | (simp [*]; done)), H', ⟨by have := HJ2.out; have := HK2.out; omega⟩, ⟨by (with_reducible repeat (first | apply Kd.R_alloc | apply Kd.R_drewN | apply Kd.R_drew)); exact HO_7.out⟩, ⟨by (with_reducible repeat (first | apply Kd.R_alloc | apply Kd.R_drewN | apply Kd.R_drew)); exact HO_30.out⟩, ⟨by (with_reducible repeat (first | apply Kd.R_alloc | apply Kd.R_drewN | apply Kd.R_drew)); exact HO_136000.out⟩, ⟨by (with_reducible repeat first | apply zM | apply zE | apply zF); exact BK129.out⟩, ⟨by (with_reducible repeat first | apply zM | apply zE | apply zF); exact BK135.out⟩, ⟨by with_reducible repeat first | exact HB.out | apply zA | apply zN | apply zD | refine zS ?_ GE129.out | refine zS ?_ GE135.out⟩⟩
          ·
           rw [if_neg c26] at H; exact absurd H (by simp)
         ·
          rw [if_neg c25] at H; exact absurd H (by simp)
        ·
         rw [if_neg c24] at H; have c24b0 := decide_eq_false c24; clear c24; have H' := zk H; clear H; obtain ⟨Ao33, co33, eo33⟩ := Kd.R_slice HO_7.out; subst eo33; go_wp2
         go_loopg [44] k2 (fun kq v44 w' => ∃ (x44_3 : Int) (x136001_3 : List Int) (u136001 : Value), v44 = .int .i64 x44_3 ∧ Aside0 (kids_Of.l1 kq l0 l1 x7_2 (x7_2.length : Int) x44_3 t132 x136001_3 = some (r1, r2, r3, r4)) ∧ Aside0 (kq ≤ k2) ∧ Aside0 (Kd.R Kd.bool 4 w' w.heap.size (fun _ => True) (.slice Ao33 x7_2.length co33) x7_2) ∧ Aside0 (Kd.R (Kd.int .i64) 3 w' w.heap.size (fun k_ => some k_ ≠ (u136001 : Value).ownBlock) (.slice Ao17 t132.length co17) t132) ∧ Aside0 (Kd.R (Kd.int .i64) 3 w' w.heap.size (fun k_ => some k_ ≠ ((.slice Ao17 t132.length co17) : Value).ownBlock) u136001 x136001_3) ∧ Aside0 (w'.heap[gb129]? = some (.cells #[(.slice none 0 0), (.slice none 0 0), (.slice none 0 0)] 30 (0, 0))) ∧ Aside0 (w'.heap[gb135]? = some (.cells #[(.slice Ao17 t132.length co17), u136001, (.slice none 0 0)] 30 (0, 0))) ∧ Aside0 (Below w.heap.size w w'))
         case atStart => exact ⟨(0), (([] : List Int)), (.slice none 0 0), (by first | rfl | (simp; done) | (simp [*]; done)), H', ⟨Nat.le_refl _⟩, ⟨by (with_reducible repeat (first | apply Kd.R_alloc | apply Kd.R_drewN | apply Kd.R_drew)); exact HO_7.out⟩, ⟨by (with_reducible repeat (first | apply Kd.R_alloc | apply Kd.R_drewN | apply Kd.R_drew)); exact Kd.R_mono HO_136000.out (fun _ hk => (by simp [Value.ownBlock]))⟩, ⟨by first | exact Kd.R_nil _ _ _ _ _ | exact Kd.N_nil _ _ _ _ _ | exact Kd.V_nil _ _ _ _ _ | exact Kd.Q_nil _ _ _ _ _ | exact Kd.S_nil _ _ _ _ _⟩, ⟨by (with_reducible repeat first | apply zM | apply zE | apply zF); exact BK129.out⟩, ⟨by (with_reducible repeat first | apply zM | apply zE | apply zF); exact BK135.out⟩, ⟨by with_reducible repeat first | exact HB.out | apply zA | apply zN | apply zD | refine zS ?_ GE129.out | refine zS ?_ GE135.out⟩⟩
         case round =>
          clear H'; (try clear c1); (try clear p1); (try clear q1); (try clear hx1); (try clear c2); (try clear p2); (try clear p3); (try clear q3); (try clear hx3); (try clear hf3); (try clear c6); (try clear p6); (try clear c11); (try clear p13); (try clear q13); (try clear hx13); (try clear c14); (try clear c14b0); (try clear c14b1); (try clear c15); (try clear c15b0); (try clear c15b1); (try clear c19); (try clear c23); (try clear c24); (try clear c24b0); (try clear c25); (try clear c25b0); (try clear c26); (try clear c26b0); (try clear c27); (try clear c27b0); (try clear c28); (try clear c28b0); (try clear c29); (try clear c29b0); (try clear p30); (try clear q30); (try clear hx30); (try clear hf30); (try clear hx139_0); (try clear hx30_0); (try clear p139); (try clear p2); (try clear p30); (try clear q139); (try clear q30)
          (try clear BK129); (try clear BK135)
          obtain ⟨x44_3, x136001_3, u136001, rfl, HA, HK3, HO_42, HO_136000, HO_136001, BK129, BK135, HB⟩ := hrel
          cases gk with
          | zero => exact absurd HA.out (by simp [kids_Of.l1])
          | succ k3 =>
           have H := HA.out; clear HA; simp only [kids_Of.l1] at H
           by_cases c34 : x44_3 < (x7_2.length : Int)
           ·
            rw [if_pos c34] at H; have c34b0 := decide_eq_true c34; clear c34
            by_cases c35 : 0 ≤ x44_3
            ·
             rw [if_pos c35] at H; have c35b0 := decide_eq_true c35; clear c35
             by_cases c36 : x44_3 < (x7_2.length : Int)
             ·
              rw [if_pos c36] at H; have c36b0 := decide_eq_true c36; clear c36; obtain ⟨bq37, hbq37⟩ : ∃ b_ : Bool, b_ = (rdOf false x7_2 x44_3) := ⟨_, rfl⟩
              replace H : (if bq37 = true then (kids_Of.l1 k3 l0 l1 x7_2 (x7_2.length : Int) (wrap64 (x44_3 + 1)) t132 x136001_3) else (if x136001_3.length < 17592186044416 then (kids_Of.l1 k3 l0 l1 x7_2 (x7_2.length : Int) (wrap64 (x44_3 + 1)) t132 (x136001_3 ++ [x44_3])) else (none))) = some (r1, r2, r3, r4) := by rw [← hbq37] at H; exact H
              have Nbq37 := zk hbq37; clear hbq37
              by_cases c38 : bq37 = true
              ·
               subst c38
               have H1 : (kids_Of.l1 k3 l0 l1 x7_2 (x7_2.length : Int) (wrap64 (x44_3 + 1)) t132 x136001_3) = some (r1, r2, r3, r4) := by rw [if_pos rfl] at H; exact H
               clear H; have H := H1; clear H1; have H' := zk H; clear H; have p141 : 0 ≤ (x44_3 : Int) := zo (by assumption); have q141 : x44_3 < (x7_2.length : Int) := zo (by assumption); obtain ⟨ad141, e141, hx141_0⟩ := Kd.at_bool (Kd.R_reads' HO_42.out).2.2 x44_3 p141 q141
               (try rw [← Nbq37.out] at hx141_0)
               cases e141; replace p141 := eq_true p141; replace q141 := eq_true q141; go_wp2
               go_roundg k3
               case measure => have := HJ2.out; have := HK2.out; have := HK3.out; omega
               case rel => exact ⟨(wrap64 (x44_3 + 1)), (x136001_3), (u136001), (by first | rfl | (simp; done) | (simp [*]; done)), H', ⟨by have := HJ2.out; have := HK2.out; have := HK3.out; omega⟩, ⟨by (with_reducible repeat (first | apply Kd.R_alloc | apply Kd.R_drewN | apply Kd.R_drew)); exact HO_42.out⟩, ⟨by (with_reducible repeat (first | apply Kd.R_alloc | apply Kd.R_drewN | apply Kd.R_drew)); exact HO_136000.out⟩, ⟨by (with_reducible repeat (first | apply Kd.R_alloc | apply Kd.R_drewN | apply Kd.R_drew)); exact HO_136001.out⟩, ⟨by (with_reducible repeat first | apply zM | apply zE | apply zF); exact BK129.out⟩, ⟨by (with_reducible repeat first | apply zM | apply zE | apply zF); exact BK135.out⟩, ⟨by with_reducible repeat first | exact HB.out | apply zA | apply zN | apply zD | refine zS ?_ GE129.out | refine zS ?_ GE135.out⟩⟩
              ·
               replace c38 := Bool.eq_false_iff.mpr c38; subst c38
               have H1 : (if x136001_3.length < 17592186044416 then (kids_Of.l1 k3 l0 l1 x7_2 (x7_2.length : Int) (wrap64 (x44_3 + 1)) t132 (x136001_3 ++ [x44_3])) else (none)) = some (r1, r2, r3, r4) := by rw [if_neg (show ¬ (false = true) by decide)] at H; exact H
               clear H; have H := H1; clear H1
               by_cases c39 : x136001_3.length < 17592186044416
               ·
                rw [if_pos c39] at H; have LMc39 := zk c39; clear c39; obtain ⟨y142, hy142⟩ : ∃ y_ : List Int, y_ = (x136001_3 ++ [x44_3]) := ⟨_, rfl⟩
                replace H : (kids_Of.l1 k3 l0 l1 x7_2 (x7_2.length : Int) (wrap64 (x44_3 + 1)) t132 y142) = some (r1, r2, r3, r4) := by first | (rw [hy142]; with_reducible exact H) | (have H2_ := (Option.bind_some _ _).symm.trans H; rw [hy142]; with_reducible exact H2_) | (have H2_ := (Option.bind_some _ _).symm.trans H; with_reducible exact H2_) | with_reducible exact H | (rw [hy142]; exact H) | exact H
                have Ny142 := zk hy142; clear hy142; have H' := zk H; clear H; have p141 : 0 ≤ (x44_3 : Int) := zo (by assumption); have q141 : x44_3 < (x7_2.length : Int) := zo (by assumption); obtain ⟨ad141, e141, hx141_0⟩ := Kd.at_bool (Kd.R_reads' HO_42.out).2.2 x44_3 p141 q141
                (try rw [← Nbq37.out] at hx141_0)
                cases e141; replace p141 := eq_true p141; replace q141 := eq_true q141; have hnb40 := NB135_129.out; have hnc40 := NB129_135.out; have hcz41_0 : wr.cell? ⟨gb135, 0, none⟩ = some (.slice Ao17 t132.length co17) := (zC BK135.out 0).trans rfl; have hcz41_1 : wr.cell? ⟨gb135, 1, none⟩ = some (u136001) := (zC BK135.out 1).trans rfl; have hcz41_2 : wr.cell? ⟨gb135, 2, none⟩ = some (.slice none 0 0) := (zC BK135.out 2).trans rfl; have hfz41_0 := zR BK135.out 0; have hfz41_1 := zR BK135.out 1; have hfz41_2 := zR BK135.out 2
                go_wp2_with (first | ((with_reducible refine gn (b := .append) (xs := #[.tmp 52, .tmp 54]) rfl ?_); at_builtin; refine Kd.R_append (Kd.int .i64) (w0 := w) w.heap.size rfl (.tmp 52) (.tmp 54) 27 3 (.int .i64 0) 8 rfl Try.underlying27 info3 rfl (by decide) (by omega) u136001 x136001_3 x44_3 [.int .i64 x44_3] (fun k_ => some k_ ≠ (.slice Ao17 t132.length co17 : Value).ownBlock) (fun _ => False) rfl rfl ?aP (fun _ hk => hk.elim) ?aF ?aO ?aB ?aS ?aL ?_; (case aP => exact rfl); (case aB => exact (by with_reducible repeat first | exact HB.out | apply zA | apply zN | apply zD | refine zS ?_ GE129.out | refine zS ?_ GE135.out)); (case aF => exact (fun k_ hk => Kd.fresh' (Kd.R_lt (by (with_reducible repeat (first | apply Kd.R_alloc | apply Kd.R_drewN | apply Kd.R_drew)); exact HO_136000.out)) k_ hk)); (case aO => exact (by (with_reducible repeat (first | apply Kd.R_alloc | apply Kd.R_drewN | apply Kd.R_drew)); exact HO_136001.out)); (case aS => exact (zq (by with_reducible repeat first | exact HB.out | apply zA | apply zN | apply zD | refine zS ?_ GE129.out | refine zS ?_ GE135.out))); (case aL => have := LMc39.out; omega); intro v143 w42 ho hb hg hat; rw [← Ny142.out] at ho; have n0_ := zk (Kd.R_over' (by (with_reducible repeat (first | apply Kd.R_alloc | apply Kd.R_drewN | apply Kd.R_drew)); exact HO_42.out) (Kd.R_typed (by (with_reducible repeat (first | apply Kd.R_alloc | apply Kd.R_drewN | apply Kd.R_drew)); exact HO_136001.out)) (by decide) hg); have n1_ := zk (Kd.R_after (ok := (fun _ => True)) (by (with_reducible repeat (first | apply Kd.R_alloc | apply Kd.R_drewN | apply Kd.R_drew)); exact Kd.R_mono HO_136000.out (fun _ hk => ⟨trivial, hk⟩)) hg hat); have n2_ := zk (blk_grown (g := gb129) (o := .cells #[.slice none 0 0, .slice none 0 0, .slice none 0 0] 30 (0, 0)) (by (with_reducible repeat first | apply zM | apply zE | apply zF); exact BK129.out) hg (Kd.R_ne HO_136001.out BK129.out (by decide))); have n3_ := zk (blk_grown (g := gb135) (o := .cells #[.slice Ao17 t132.length co17, u136001, .slice none 0 0] 30 (0, 0)) (by (with_reducible repeat first | apply zM | apply zE | apply zF); exact BK135.out) hg (Kd.R_ne HO_136001.out BK135.out (by decide))); have n4_ := zk (hb); have n5_ := zk (ho); clear HO_42; clear HO_136000; clear BK129; clear BK135; clear HB; clear HO_136001; have HO_42 := n0_; have HO_136000 := n1_; have BK129 := n2_; have BK135 := n3_; have HB := n4_; have HO144 := n5_; clear n0_ n1_ n2_ n3_ n4_ n5_; clear ho hb hg hat; obtain ⟨Ao43, co43, eo43⟩ := Kd.R_slice HO144.out; subst eo43; obtain ⟨hcz44_0, hcz44_1, hcz44_2, hfz44_0, hfz44_1, hfz44_2⟩ := zc3 BK135.out))
                go_roundg k3
                case measure => have := HJ2.out; have := HK2.out; have := HK3.out; omega
                case rel => exact ⟨(wrap64 (x44_3 + 1)), (y142), (.slice Ao43 y142.length co43), (by first | rfl | (simp; done) | (simp [*]; done)), H', ⟨by have := HJ2.out; have := HK2.out; have := HK3.out; omega⟩, ⟨by (with_reducible repeat (first | apply Kd.R_alloc | apply Kd.R_drewN | apply Kd.R_drew)); exact Kd.R_mono (Kd.R_far (p := ⟨gb135, 1, none⟩) (Kd.R_types HO_42.out BK135.out (by decide)) (fun _ hk => hk.2) (.slice Ao43 y142.length co43)) (fun _ hk => trivial)⟩, ⟨by (with_reducible repeat (first | apply Kd.R_alloc | apply Kd.R_drewN | apply Kd.R_drew)); exact Kd.R_mono (Kd.R_far (p := ⟨gb135, 1, none⟩) (Kd.R_types HO_136000.out BK135.out (by decide)) (fun _ hk => hk.2) (.slice Ao43 y142.length co43)) (fun _ hk => hk.1.2)⟩, ⟨by (with_reducible repeat (first | apply Kd.R_alloc | apply Kd.R_drewN | apply Kd.R_drew)); exact Kd.R_mono (Kd.R_far (p := ⟨gb135, 1, none⟩) (Kd.R_types HO144.out BK135.out (by decide)) (fun _ hk => hk.2) (.slice Ao43 y142.length co43)) (fun _ hk => hk.1)⟩, ⟨by (with_reducible repeat first | apply zM | apply zE | apply zF); refine zG ?_ NB129_135.out _; (with_reducible repeat first | apply zM | apply zE | apply zF); exact BK129.out⟩, ⟨by (with_reducible repeat first | apply zM | apply zE | apply zF); refine zP (cs := #[.slice Ao17 t132.length co17, u136001, .slice none 0 0]) ?_ 1 _ rfl; (with_reducible repeat first | apply zM | apply zE | apply zF); exact BK135.out⟩, ⟨by with_reducible repeat first | exact HB.out | apply zA | apply zN | apply zD | refine zS ?_ GE129.out | refine zS ?_ GE135.out⟩⟩
               ·
                rw [if_neg c39] at H; exact absurd H (by simp)
             ·
              rw [if_neg c36] at H; exact absurd H (by simp)
            ·
             rw [if_neg c35] at H; exact absurd H (by simp)
           ·
            rw [if_neg c34] at H; have c34b0 := decide_eq_false c34; clear c34; replace H := Option.bind_eq_some_iff.mp H; obtain ⟨t145, A450, H⟩ := H; replace H : (kids_Of.l2 k3 t145 (-1) (wrap64 ((l1.length : Int) - 1)) t132 x136001_3 ([] : List (S46))) = some (r1, r2, r3, r4) := H; have A45 := zk A450; clear A450; have H' := zk H; clear H; have hnb46 := NB135_129.out; have hnc46 := NB129_135.out; have hcz47_0 : wr.cell? ⟨gb135, 0, none⟩ = some (.slice Ao17 t132.length co17) := (zC BK135.out 0).trans rfl; have hcz47_1 : wr.cell? ⟨gb135, 1, none⟩ = some (u136001) := (zC BK135.out 1).trans rfl; have hcz47_2 : wr.cell? ⟨gb135, 2, none⟩ = some (.slice none 0 0) := (zC BK135.out 2).trans rfl; have hfz47_0 := zR BK135.out 0; have hfz47_1 := zR BK135.out 1; have hfz47_2 := zR BK135.out 2
            go_wp2_with (first | ((with_reducible refine gk (f := 25) rfl ?_); refine gl (some 62) rfl rfl Try.func25 (by kernel_rfl) rfl #[.slice A0 l0.length c0, .slice A1 l1.length c1, .slice Ao17 t132.length co17] rfl (by (try simp only [List.map_toArray, List.map_cons, List.map_nil]); first | done | rfl | (simp only [List.length_drop, List.length_take]; rfl)) ?_; (with_reducible refine (kids_stay.calls k3 _ _ l0 _ _ l1 _ _ t132 t145 _ ?side1 ?side2 ?side3 ?side4 ?side5 ?side6 A45.out).mono ?_); (case side1 => repeat (first | exact (Kd.C_below HR0.out HB.out) | (with_reducible refine Kd.C_alloc ?_ _) | (with_reducible refine Kd.C_drewN ?_ _) | (with_reducible refine Kd.C_drew ?_))); (case side2 => exact HC0.out); (case side3 => repeat (first | exact (Kd.C_below HR1.out HB.out) | (with_reducible refine Kd.C_alloc ?_ _) | (with_reducible refine Kd.C_drewN ?_ _) | (with_reducible refine Kd.C_drew ?_))); (case side4 => exact HC1.out); (case side5 => repeat (first | exact (Kd.R_reads' HO_136000.out).2.2 | (with_reducible refine Kd.C_alloc ?_ _) | (with_reducible refine Kd.C_drewN ?_ _) | (with_reducible refine Kd.C_drew ?_))); (case side6 => exact (Kd.R_reads' HO_136000.out).2.1); rintro e w48 ⟨v146, rfl, ho0, hb⟩; refine ⟨_, rfl, ?_⟩; have n0_ := zk (Kd.R_elder' (by (with_reducible repeat (first | apply Kd.R_alloc | apply Kd.R_drewN | apply Kd.R_drew)); exact HO_42.out) (Kd.R_base ho0) hb); have n1_ := zk (Kd.R_below (by (with_reducible repeat (first | apply Kd.R_alloc | apply Kd.R_drewN | apply Kd.R_drew)); exact HO_136000.out) hb); have n2_ := zk (Kd.R_below (by (with_reducible repeat (first | apply Kd.R_alloc | apply Kd.R_drewN | apply Kd.R_drew)); exact HO_136001.out) hb); have n3_ := zk (Kd.R_lower (Kd.R_new' ho0 (Kd.R_lt (by (with_reducible repeat (first | apply Kd.R_alloc | apply Kd.R_drewN | apply Kd.R_drew)); exact HO_42.out))) (zq (by with_reducible repeat first | exact HB.out | apply zA | apply zN | apply zD | refine zS ?_ GE129.out | refine zS ?_ GE135.out))); have n4_ := zk (blk_below (g := gb129) (o := .cells #[.slice none 0 0, .slice none 0 0, .slice none 0 0] 30 (0, 0)) (by (with_reducible repeat first | apply zM | apply zE | apply zF); exact BK129.out) hb); have n5_ := zk (blk_below (g := gb135) (o := .cells #[.slice Ao17 t132.length co17, u136001, .slice none 0 0] 30 (0, 0)) (by (with_reducible repeat first | apply zM | apply zE | apply zF); exact BK135.out) hb); have n6_ := zk (zs (by with_reducible repeat first | exact HB.out | apply zA | apply zN | apply zD | refine zS ?_ GE129.out | refine zS ?_ GE135.out) hb); clear HO_42; clear HO_136000; clear HO_136001; clear BK129; clear BK135; clear HB; have HO_42 := n0_; have HO_136000 := n1_; have HO_136001 := n2_; have HO147 := n3_; have BK129 := n4_; have BK135 := n5_; have HB := n6_; clear n0_ n1_ n2_ n3_ n4_ n5_ n6_; (try clear hb); (try clear hb2); (try clear hk); (try clear hi); (try clear ho0)))
            go_loopg [13, 14] k3 (fun kq v13 v14 w' => ∃ (x13_4 : Int) (x14_4 : Int) (x136002_4 : List (S46)) (u136002 : Value), v13 = .int .i64 x13_4 ∧ v14 = .int .i64 x14_4 ∧ Aside0 (kids_Of.l2 kq t145 x13_4 x14_4 t132 x136001_3 x136002_4 = some (r1, r2, r3, r4)) ∧ Aside0 (kq ≤ k3) ∧ Aside0 (Kd.R Kd.bool 4 w' w.heap.size (fun _ => True) v146 t145) ∧ Aside0 (Kd.R (Kd.int .i64) 3 w' w.heap.size (fun k_ => some k_ ≠ (u136001 : Value).ownBlock) (.slice Ao17 t132.length co17) t132) ∧ Aside0 (Kd.R (Kd.int .i64) 3 w' w.heap.size (fun k_ => some k_ ≠ ((.slice Ao17 t132.length co17) : Value).ownBlock) u136001 x136001_3) ∧ Aside0 (Kd.R k46 46 w' w.heap.size (fun _ => True) u136002 x136002_4) ∧ Aside0 (w'.heap[gb129]? = some (.cells #[(.slice none 0 0), (.slice none 0 0), (.slice none 0 0)] 30 (0, 0))) ∧ Aside0 (w'.heap[gb135]? = some (.cells #[(.slice Ao17 t132.length co17), u136001, u136002] 30 (0, 0))) ∧ Aside0 (Below w.heap.size w w'))
            case atStart => exact ⟨((-1)), (wrap64 ((l1.length : Int) - 1)), (([] : List (S46))), (.slice none 0 0), (by first | rfl | (simp; done) | (simp [*]; done)), (by first | rfl | (simp; done) | (simp [*]; done)), H', ⟨Nat.le_refl _⟩, ⟨by (with_reducible repeat (first | apply Kd.R_alloc | apply Kd.R_drewN | apply Kd.R_drew)); exact Kd.R_mono HO147.out (fun _ hk => trivial)⟩, ⟨by (with_reducible repeat (first | apply Kd.R_alloc | apply Kd.R_drewN | apply Kd.R_drew)); exact HO_136000.out⟩, ⟨by (with_reducible repeat (first | apply Kd.R_alloc | apply Kd.R_drewN | apply Kd.R_drew)); exact HO_136001.out⟩, ⟨by first | exact Kd.R_nil _ _ _ _ _ | exact Kd.N_nil _ _ _ _ _ | exact Kd.V_nil _ _ _ _ _ | exact Kd.Q_nil _ _ _ _ _ | exact Kd.S_nil _ _ _ _ _⟩, ⟨by (with_reducible repeat first | apply zM | apply zE | apply zF); exact BK129.out⟩, ⟨by (with_reducible repeat first | apply zM | apply zE | apply zF); exact BK135.out⟩, ⟨by with_reducible repeat first | exact HB.out | apply zA | apply zN | apply zD | refine zS ?_ GE129.out | refine zS ?_ GE135.out⟩⟩
            case round =>
             clear H'; (try clear c1); (try clear p1); (try clear q1); (try clear hx1); (try clear c2); (try clear p2); (try clear c3); (try clear p3); (try clear q3); (try clear hx3); (try clear hf3); (try clear c4); (try clear c6); (try clear p6); (try clear c11); (try clear p13); (try clear q13); (try clear hx13); (try clear c14); (try clear c14b0); (try clear c14b1); (try clear p14); (try clear q14); (try clear hx14); (try clear c15); (try clear c15b0); (try clear c15b1); (try clear c19); (try clear c23); (try clear c24); (try clear c24b0); (try clear c25); (try clear c25b0); (try clear c26); (try clear c26b0); (try clear c27); (try clear c27b0); (try clear c28); (try clear c28b0); (try clear c29); (try clear c29b0); (try clear p30); (try clear q30); (try clear hx30); (try clear hf30); (try clear c34); (try clear c34b0); (try clear c35); (try clear c35b0); (try clear c36); (try clear c36b0); (try clear q37); (try clear c38); (try clear c39); (try clear c40); (try clear c46); (try clear hx139_0); (try clear hx141_0); (try clear hx30_0); (try clear p1); (try clear p13); (try clear p139); (try clear p141); (try clear p2); (try clear p3); (try clear p30); (try clear p6); (try clear q1); (try clear q13); (try clear q139); (try clear q141); (try clear q3); (try clear q30)
             (try clear BK129); (try clear BK135)
             obtain ⟨x13_4, x14_4, x136002_4, u136002, rfl, rfl, HA, HK4, HO_12, HO_136000, HO_136001, HO_136002, BK129, BK135, HB⟩ := hrel
             cases gk with
             | zero => exact absurd HA.out (by simp [kids_Of.l2])
             | succ k4 =>
              have H := HA.out; clear HA; simp only [kids_Of.l2] at H
              by_cases c49 : x14_4 ≥ 0
              ·
               rw [if_pos c49] at H; have c49b0 : decide (0 ≤ x14_4) = true := decide_eq_true c49; clear c49
               by_cases c50 : 0 ≤ x14_4
               ·
                rw [if_pos c50] at H; have c50b0 := decide_eq_true c50; clear c50
                by_cases c51 : x14_4 < (t145.length : Int)
                ·
                 rw [if_pos c51] at H; have c51b0 := decide_eq_true c51; clear c51; obtain ⟨bq52, hbq52⟩ : ∃ b_ : Bool, b_ = (rdOf false t145 x14_4) := ⟨_, rfl⟩
                 replace H : (if bq52 = true then (kids_Of.l2 k4 t145 x14_4 (wrap64 (x14_4 - 1)) t132 x136001_3 x136002_4) else (if x14_4 < (t132.length : Int) then (if x136002_4.length < 5864062014805 then (kids_Of.l2 k4 t145 x14_4 (wrap64 (x14_4 - 1)) t132 x136001_3 (x136002_4 ++ [(⟨x14_4, rd t132 x14_4, x13_4⟩ : S46)])) else (none)) else (none))) = some (r1, r2, r3, r4) := by rw [← hbq52] at H; exact H
                 have Nbq52 := zk hbq52; clear hbq52
                 by_cases c53 : bq52 = true
                 ·
                  subst c53
                  have H1 : (kids_Of.l2 k4 t145 x14_4 (wrap64 (x14_4 - 1)) t132 x136001_3 x136002_4) = some (r1, r2, r3, r4) := by rw [if_pos rfl] at H; exact H
                  clear H; have H := H1; clear H1; have H' := zk H; clear H; obtain ⟨Ao54, co54, eo54⟩ := Kd.R_slice HO_12.out; subst eo54; have p148 : 0 ≤ (x14_4 : Int) := zo (by assumption); have q148 : x14_4 < (t145.length : Int) := zo (by assumption); obtain ⟨ad148, e148, hx148_0⟩ := Kd.at_bool (Kd.R_reads' HO_12.out).2.2 x14_4 p148 q148
                  (try rw [← Nbq52.out] at hx148_0)
                  cases e148; replace p148 := eq_true p148; replace q148 := eq_true q148; go_wp2
                  go_roundg k4
                  case measure => have := HJ2.out; have := HK2.out; have := HK3.out; have := HK4.out; omega
                  case rel => exact ⟨(x14_4), (wrap64 (x14_4 - 1)), (x136002_4), (u136002), (by first | rfl | (simp; done) | (simp [*]; done)), (by first | rfl | (simp; done) | (simp [*]; done)), H', ⟨by have := HJ2.out; have := HK2.out; have := HK3.out; have := HK4.out; omega⟩, ⟨by (with_reducible repeat (first | apply Kd.R_alloc | apply Kd.R_drewN | apply Kd.R_drew)); exact HO_12.out⟩, ⟨by (with_reducible repeat (first | apply Kd.R_alloc | apply Kd.R_drewN | apply Kd.R_drew)); exact HO_136000.out⟩, ⟨by (with_reducible repeat (first | apply Kd.R_alloc | apply Kd.R_drewN | apply Kd.R_drew)); exact HO_136001.out⟩, ⟨by (with_reducible repeat (first | apply Kd.R_alloc | apply Kd.R_drewN | apply Kd.R_drew)); exact HO_136002.out⟩, ⟨by (with_reducible repeat first | apply zM | apply zE | apply zF); exact BK129.out⟩, ⟨by (with_reducible repeat first | apply zM | apply zE | apply zF); exact BK135.out⟩, ⟨by with_reducible repeat first | exact HB.out | apply zA | apply zN | apply zD | refine zS ?_ GE129.out | refine zS ?_ GE135.out⟩⟩
                 ·
                  replace c53 := Bool.eq_false_iff.mpr c53; subst c53
                  have H1 : (if x14_4 < (t132.length : Int) then (if x136002_4.length < 5864062014805 then (kids_Of.l2 k4 t145 x14_4 (wrap64 (x14_4 - 1)) t132 x136001_3 (x136002_4 ++ [(⟨x14_4, rd t132 x14_4, x13_4⟩ : S46)])) else (none)) else (none)) = some (r1, r2, r3, r4) := by rw [if_neg (show ¬ (false = true) by decide)] at H; exact H
                  clear H; have H := H1; clear H1
                  by_cases c55 : x14_4 < (t132.length : Int)
                  ·
                   rw [if_pos c55] at H; have c55b0 := decide_eq_true c55; clear c55
                   by_cases c56 : x136002_4.length < 5864062014805
                   ·
                    rw [if_pos c56] at H; have LMc56 := zk c56; clear c56; obtain ⟨y150, hy150⟩ : ∃ y_ : List (S46), y_ = (x136002_4 ++ [(⟨x14_4, rd t132 x14_4, x13_4⟩ : S46)]) := ⟨_, rfl⟩
                    replace H : (kids_Of.l2 k4 t145 x14_4 (wrap64 (x14_4 - 1)) t132 x136001_3 y150) = some (r1, r2, r3, r4) := by first | (rw [hy150]; with_reducible exact H) | (have H2_ := (Option.bind_some _ _).symm.trans H; rw [hy150]; with_reducible exact H2_) | (have H2_ := (Option.bind_some _ _).symm.trans H; with_reducible exact H2_) | with_reducible exact H | (rw [hy150]; exact H) | exact H
                    have Ny150 := zk hy150; clear hy150; have H' := zk H; clear H; obtain ⟨Ao57, co57, eo57⟩ := Kd.R_slice HO_12.out; subst eo57; have p148 : 0 ≤ (x14_4 : Int) := zo (by assumption); have q148 : x14_4 < (t145.length : Int) := zo (by assumption); obtain ⟨ad148, e148, hx148_0⟩ := Kd.at_bool (Kd.R_reads' HO_12.out).2.2 x14_4 p148 q148
                    (try rw [← Nbq52.out] at hx148_0)
                    cases e148; replace p148 := eq_true p148; replace q148 := eq_true q148
                    try go_wp2
                    have n0_ := zk (Kd.R_drew HO_12.out); have n1_ := zk (Kd.R_drew HO_136000.out); have n2_ := zk (Kd.R_drew HO_136001.out); have n3_ := zk (Kd.R_drew HO_136002.out); have n4_ := zk (zE BK129.out); have n5_ := zk (zE BK135.out); have n6_ := zk (zD HB.out); clear HO_12; clear HO_136000; clear HO_136001; clear HO_136002; clear BK129; clear BK135; clear HB; have HO_12 := n0_; have HO_136000 := n1_; have HO_136001 := n2_; have HO_136002 := n3_; have BK129 := n4_; have BK135 := n5_; have HB := n6_; clear n0_ n1_ n2_ n3_ n4_ n5_ n6_; have p149 : 0 ≤ (x14_4 : Int) := zo (by assumption); have q149 : x14_4 < (t132.length : Int) := zo (by assumption); obtain ⟨ad149, e149, hx149_0⟩ := Kd.at_int (Kd.R_reads' HO_136000.out).2.2 x14_4 p149 q149; cases e149; replace p149 := eq_true p149; replace q149 := eq_true q149; refine start_ (n := 14) (S := fun w' => w'.cell? ⟨gb135, 0, none⟩ = some (.slice (some ad149) t132.length co17) ∧ w'.cell? ⟨gb135, 1, none⟩ = some (u136001) ∧ w'.cell? ⟨gb135, 2, none⟩ = some (u136002) ∧ w'.cell? (ad149.add (x14_4).toNat) = some (.int .i64 (rd t132 x14_4))) (ds := [11, 13]) #[F,F,F,F,F,F,F,F,F,F,F,F,F,F] (by kernel_rfl) rfl rfl ⟨(zC BK135.out 0).trans rfl, (zC BK135.out 1).trans rfl, (zC BK135.out 2).trans rfl, hx149_0⟩ (fun hHeld => ?_); refine with_tabW kids_Of.tab23 kids_Of.bits23 (fun HT_ HW_ => ?_); generalize wr.drew = w58 at HO_12 HO_136000 HO_136001 HO_136002 BK129 BK135 HB hx149_0 hHeld ⊢; refine pure_ (i := 0) (N := some 75) (v := ?_) (a' := ?_) #[T,F,F,F,F,F,F,F,F,F,F,F,F,F] rfl rfl (any_of HT_.out (by kernel_rfl)) (fun _ _ _ h => h) (Or.inl ⟨by rfl, ?_⟩) ?_ ?_; rotate_left; (intro w'; go_simp; (with_reducible rfl)); rotate_left; (simp only [Act.put, zt, zu, zv, i64_w, i32_w]; rfl); refine pure_ (i := 2) (N := some 77) (v := ?_) (a' := ?_) #[T,F,T,F,F,F,F,F,F,F,F,F,F,F] rfl rfl (any_of HT_.out (by kernel_rfl)) (fun _ _ _ h => h) (Or.inl ⟨by rfl, ?_⟩) ?_ ?_; rotate_left; (intro w'; go_simp; (with_reducible rfl)); rotate_left; (simp only [Act.put, zt, zu, zv, i64_w, i32_w]; rfl); refine pure_ (i := 3) (N := some 78) (v := ?_) (a' := ?_) #[T,F,T,T,F,F,F,F,F,F,F,F,F,F] rfl rfl (any_of HT_.out (by kernel_rfl)) (fun _ _ _ h => h) (Or.inl ⟨by rfl, ?_⟩) ?_ ?_; rotate_left; (intro w'; go_simp; (with_reducible rfl)); rotate_left; (simp only [Act.put, zt, zu, zv, i64_w, i32_w]; rfl); refine pure_ (i := 5) (N := some 80) (v := ?_) (a' := ?_) #[T,F,T,T,F,T,F,F,F,F,F,F,F,F] rfl rfl (any_of HT_.out (by kernel_rfl)) (fun _ _ _ h => h) (Or.inl ⟨by rfl, ?_⟩) ?_ ?_; rotate_left; (intro w'; go_simp; (with_reducible rfl)); rotate_left; (simp only [Act.put, zt, zu, zv, i64_w, i32_w]; rfl); refine pure_ (i := 8) (N := some 83) (v := ?_) (a' := ?_) #[T,F,T,T,F,T,F,F,T,F,F,F,F,F] rfl rfl (any_of HT_.out (by kernel_rfl)) (fun _ _ _ h => h) (Or.inl ⟨by rfl, ?_⟩) ?_ ?_; rotate_left; (intro w'; go_simp; (with_reducible rfl)); rotate_left; (simp only [Act.put, zt, zu, zv, i64_w, i32_w]; rfl); refine take_ (i := 1) (N := some 76) (v := ?_) (a' := ?_) #[T,T,T,T,F,T,F,F,T,F,F,F,F,F] rfl rfl (take_ofW HT_.out HW_.out (by kernel_rfl)) (fun _ _ _ h => h) (Or.inl ⟨by rfl, ?_⟩) hHeld ?_ ?_; rotate_left; (rintro w' ⟨s0, s1, s2, s3⟩; go_simp; (with_reducible rfl)); rotate_left; (simp only [Act.put, zt, zu, zv, i64_w, i32_w]; rfl); refine take_ (i := 4) (N := some 79) (v := ?_) (a' := ?_) #[T,T,T,T,T,T,F,F,T,F,F,F,F,F] rfl rfl (take_ofW HT_.out HW_.out (by kernel_rfl)) (fun _ _ _ h => h) (Or.inl ⟨by rfl, ?_⟩) hHeld ?_ ?_; rotate_left; (rintro w' ⟨s0, s1, s2, s3⟩; go_simp; (with_reducible rfl)); rotate_left; (simp only [Act.put, zt, zu, zv, i64_w, i32_w]; rfl); refine pure_ (i := 6) (N := some 81) (v := ?_) (a' := ?_) #[T,T,T,T,T,T,T,F,T,F,F,F,F,F] rfl rfl (any_of HT_.out (by kernel_rfl)) (fun _ _ _ h => h) (Or.inl ⟨by rfl, ?_⟩) ?_ ?_; rotate_left; (intro w'; go_simp; (with_reducible rfl)); rotate_left; (simp only [Act.put, zt, zu, zv, i64_w, i32_w]; rfl); refine take_ (i := 7) (N := some 82) (v := ?_) (a' := ?_) #[T,T,T,T,T,T,T,T,T,F,F,F,F,F] rfl rfl (take_ofW HT_.out HW_.out (by kernel_rfl)) (fun _ _ _ h => h) (Or.inl ⟨by rfl, ?_⟩) hHeld ?_ ?_; rotate_left; (rintro w' ⟨s0, s1, s2, s3⟩; go_simp; (with_reducible rfl)); rotate_left; (simp only [Act.put, zt, zu, zv, i64_w, i32_w]; rfl); refine pure_ (i := 9) (N := some 84) (v := ?_) (a' := ?_) #[T,T,T,T,T,T,T,T,T,T,F,F,F,F] rfl rfl (any_of HT_.out (by kernel_rfl)) (fun _ _ _ h => h) (Or.inl ⟨by rfl, ?_⟩) ?_ ?_; rotate_left; (intro w'; go_simp; (with_reducible rfl)); rotate_left; (simp only [Act.put, zt, zu, zv, i64_w, i32_w]; rfl); refine one_ (i := 10) (N := some 85) #[T,T,T,T,T,T,T,T,T,T,T,F,F,F] rfl rfl (one_of HT_.out (by kernel_rfl)) (by decide) (fun K hK => ?_); refine value_ (w1 := ?_) (v := ?_) (by rfl) rfl ?_ ?_; rotate_left 2
                    ·
                     go_simp; constructor; (rfl); (rfl)
                    refine hK.out _ _ ⟨(zC (zF BK135.out _) 0).trans rfl, (zC (zF BK135.out _) 1).trans rfl, (zC (zF BK135.out _) 2).trans rfl, (World.cell?_alloc_lt _ _ _ (World.block_lt_of_cell? _ _ (hHeld.2.2.2))).trans (hHeld.2.2.2)⟩ (fun hHeld => ?_); clear hK K; refine norm_ (a' := ?_) ?_ ?_; rotate_left
                    ·
                     show Act.put _ (some 85) _ = _
                     simp only [Act.put, zt, zu, zv, i64_w, i32_w]; rfl
                    refine last_ (i := 11) (N := some 86) #[T,T,T,T,T,T,T,T,T,T,T,T,F,F] rfl rfl (one_of HT_.out (by kernel_rfl)) (by decide) (fun K hK => ?_); refine Kd.R_append_step k46 (w0 := w) w.heap.size (by rfl) (.tmp 76) (.tmp 85) 28 46 (.agg #[(.int .i64 0), (.int .i64 0), (.int .i64 0)]) 24 rfl Try.underlying28 info46 rfl (by decide) (by omega) u136002 x136002_4 (⟨x14_4, rd t132 x14_4, x13_4⟩ : S46) [.int .i64 x14_4, .int .i64 (rd t132 x14_4), .int .i64 x13_4] (fun _ => True) (fun _ => False) rfl rfl ?aP (fun _ hk => hk.elim) ?aF ?aO ?aB ?aS ?aL ?_
                    (case aP => exact k46_mkM _ _ _ (⟨x14_4, rd t132 x14_4, x13_4⟩ : S46))
                    (case aB => exact (by with_reducible repeat first | exact HB.out | apply zA | apply zN | apply zD | refine zS ?_ GE129.out | refine zS ?_ GE135.out))
                    (case aF => exact (fun _ _ => trivial))
                    (case aO => exact (by (with_reducible repeat (first | apply Kd.R_alloc | apply Kd.R_drewN | apply Kd.R_drew)); exact HO_136002.out))
                    (case aS => exact (zq (by with_reducible repeat first | exact HB.out | apply zA | apply zN | apply zD | refine zS ?_ GE129.out | refine zS ?_ GE135.out)))
                    (case aL => have := LMc56.out; omega)
                    intro v151 w59 ho hb hg hat; rw [← Ny150.out] at ho; have n0_ := zk (Kd.R_over' (by (with_reducible repeat (first | apply Kd.R_alloc | apply Kd.R_drewN | apply Kd.R_drew)); exact HO_12.out) (Kd.R_typed (by (with_reducible repeat (first | apply Kd.R_alloc | apply Kd.R_drewN | apply Kd.R_drew)); exact HO_136002.out)) (by decide) hg); have n1_ := zk (Kd.R_over' (by (with_reducible repeat (first | apply Kd.R_alloc | apply Kd.R_drewN | apply Kd.R_drew)); exact HO_136000.out) (Kd.R_typed (by (with_reducible repeat (first | apply Kd.R_alloc | apply Kd.R_drewN | apply Kd.R_drew)); exact HO_136002.out)) (by decide) hg); have n2_ := zk (Kd.R_over' (by (with_reducible repeat (first | apply Kd.R_alloc | apply Kd.R_drewN | apply Kd.R_drew)); exact HO_136001.out) (Kd.R_typed (by (with_reducible repeat (first | apply Kd.R_alloc | apply Kd.R_drewN | apply Kd.R_drew)); exact HO_136002.out)) (by decide) hg); have n3_ := zk (blk_grown (g := gb129) (o := .cells #[.slice none 0 0, .slice none 0 0, .slice none 0 0] 30 (0, 0)) (by (with_reducible repeat first | apply zM | apply zE | apply zF); exact BK129.out) hg (Kd.R_ne HO_136002.out BK129.out (by decide))); have n4_ := zk (blk_grown (g := gb135) (o := .cells #[.slice (some ad149) t132.length co17, u136001, u136002] 30 (0, 0)) (by (with_reducible repeat first | apply zM | apply zE | apply zF); exact BK135.out) hg (Kd.R_ne HO_136002.out BK135.out (by decide))); have n5_ := zk (hb); have n6_ := zk (ho); clear HO_12; clear HO_136000; clear HO_136001; clear BK129; clear BK135; clear HB; clear HO_136002; have HO_12 := n0_; have HO_136000 := n1_; have HO_136001 := n2_; have BK129 := n3_; have BK135 := n4_; have HB := n5_; have HO152 := n6_; clear n0_ n1_ n2_ n3_ n4_ n5_ n6_; clear ho hb hg hat; obtain ⟨Ao60, co60, eo60⟩ := Kd.R_slice HO152.out
                    (first | subst eo60 | (injection eo60 with f1_ f2_ f3_; have f4_ := f1_.symm; have f5_ := f3_.symm; clear f1_ f2_ f3_; subst f4_; subst f5_))
                    refine hK.out _ _ ?_; clear hK K; refine norm_ (a' := ?_) ?_ ?_; rotate_left
                    ·
                     show Act.put _ (some 86) _ = _
                     simp only [Act.put, zt, zu, zv, i64_w, i32_w]; rfl
                    refine pure_ (i := 12) (N := some 87) (v := ?_) (a' := ?_) #[T,T,T,T,T,T,T,T,T,T,T,T,T,F] rfl rfl (any_of HT_.out (by kernel_rfl)) (fun _ _ _ h => h) (Or.inl ⟨by rfl, ?_⟩) ?_ ?_; rotate_left; (intro w'; go_simp; (with_reducible rfl)); rotate_left; (simp only [Act.put, zt, zu, zv, i64_w, i32_w]; rfl); refine last_ (i := 13) (N := none) #[T,T,T,T,T,T,T,T,T,T,T,T,T,T] rfl rfl (one_of HT_.out (by kernel_rfl)) (by decide) (fun K hK => ?_); have hs61 : w59.cell? ⟨gb135, 2, none⟩ = some (u136002) := (zC BK135.out 2).trans rfl; have hfs61 := zR BK135.out 2; have hns61_0 := NB129_135.out; have hms61_0 := NB135_129.out; refine skip_ (w1 := ?_) (by rfl) rfl ?_ ?_; rotate_left; (go_simp; rfl); refine hK.out _ _ ?_; clear hK K; refine done_ (done_of HT_.out (by kernel_rfl)) ?_
                    try go_wp2
                    go_roundg k4
                    case measure => have := HJ2.out; have := HK2.out; have := HK3.out; have := HK4.out; omega
                    case rel => exact ⟨(x14_4), (wrap64 (x14_4 - 1)), (y150), (.slice Ao60 y150.length co60), (by first | rfl | (simp; done) | (simp [*]; done)), (by first | rfl | (simp; done) | (simp [*]; done)), H', ⟨by have := HJ2.out; have := HK2.out; have := HK3.out; have := HK4.out; omega⟩, ⟨by (with_reducible repeat (first | apply Kd.R_alloc | apply Kd.R_drewN | apply Kd.R_drew)); exact Kd.R_mono (Kd.R_far (p := ⟨gb135, 2, none⟩) (Kd.R_types HO_12.out BK135.out (by decide)) (fun _ hk => hk.2) (.slice Ao60 y150.length co60)) (fun _ hk => trivial)⟩, ⟨by (with_reducible repeat (first | apply Kd.R_alloc | apply Kd.R_drewN | apply Kd.R_drew)); exact Kd.R_mono (Kd.R_far (p := ⟨gb135, 2, none⟩) (Kd.R_types HO_136000.out BK135.out (by decide)) (fun _ hk => hk.2) (.slice Ao60 y150.length co60)) (fun _ hk => hk.1)⟩, ⟨by (with_reducible repeat (first | apply Kd.R_alloc | apply Kd.R_drewN | apply Kd.R_drew)); exact Kd.R_mono (Kd.R_far (p := ⟨gb135, 2, none⟩) (Kd.R_types HO_136001.out BK135.out (by decide)) (fun _ hk => hk.2) (.slice Ao60 y150.length co60)) (fun _ hk => hk.1)⟩, ⟨by (with_reducible repeat (first | apply Kd.R_alloc | apply Kd.R_drewN | apply Kd.R_drew)); exact Kd.R_mono (Kd.R_far (p := ⟨gb135, 2, none⟩) (Kd.R_types HO152.out BK135.out (by decide)) (fun _ hk => hk.2) (.slice Ao60 y150.length co60)) (fun _ hk => trivial)⟩, ⟨by (with_reducible repeat first | apply zM | apply zE | apply zF); refine zG ?_ NB129_135.out _; (with_reducible repeat first | apply zM | apply zE | apply zF); exact BK129.out⟩, ⟨by (with_reducible repeat first | apply zM | apply zE | apply zF); refine zP (cs := #[.slice (some ad149) t132.length co17, u136001, u136002]) ?_ 2 _ rfl; (with_reducible repeat first | apply zM | apply zE | apply zF); exact BK135.out⟩, ⟨by with_reducible repeat first | exact HB.out | apply zA | apply zN | apply zD | refine zS ?_ GE129.out | refine zS ?_ GE135.out⟩⟩
                   ·
                    rw [if_neg c56] at H; exact absurd H (by simp)
                  ·
                   rw [if_neg c55] at H; exact absurd H (by simp)
                ·
                 rw [if_neg c51] at H; exact absurd H (by simp)
               ·
                rw [if_neg c50] at H; exact absurd H (by simp)
              ·
               rw [if_neg c49] at H; have c49b0 : decide (0 ≤ x14_4) = false := decide_eq_false c49; clear c49; simp only [Option.some.injEq, Prod.mk.injEq] at H; obtain ⟨rfl, rfl, rfl, rfl⟩ := H; have hnb62 := NB135_129.out; have hnc62 := NB129_135.out; have hcz63_0 : wr.cell? ⟨gb135, 0, none⟩ = some (.slice Ao17 t132.length co17) := (zC BK135.out 0).trans rfl; have hcz63_1 : wr.cell? ⟨gb135, 1, none⟩ = some (u136001) := (zC BK135.out 1).trans rfl; have hcz63_2 : wr.cell? ⟨gb135, 2, none⟩ = some (u136002) := (zC BK135.out 2).trans rfl; have hfz63_0 := zR BK135.out 0; have hfz63_1 := zR BK135.out 1; have hfz63_2 := zR BK135.out 2; have hcz64_0 : wr.cell? ⟨gb129, 0, none⟩ = some (.slice none 0 0) := (zC BK129.out 0).trans rfl; have hcz64_1 : wr.cell? ⟨gb129, 1, none⟩ = some (.slice none 0 0) := (zC BK129.out 1).trans rfl; have hcz64_2 : wr.cell? ⟨gb129, 2, none⟩ = some (.slice none 0 0) := (zC BK129.out 2).trans rfl; have hfz64_0 := zR BK129.out 0; have hfz64_1 := zR BK129.out 1; have hfz64_2 := zR BK129.out 2; obtain ⟨Ao65, co65, eo65⟩ := Kd.R_slice HO_136001.out; subst eo65; obtain ⟨Ao66, co66, eo66⟩ := Kd.R_slice HO_136002.out; subst eo66; go_wp2; refine bodyPost_ret (zx rfl _ _ gb129 30 #[.slice Ao17 t132.length co17, .slice Ao65 x136001_3.length co65, .slice Ao66 x136002_4.length co66] (0, 0) _ rfl (by (with_reducible repeat first | apply zM | apply zE | apply zF); refine zP (cs := #[.slice Ao17 t132.length co17, .slice Ao65 x136001_3.length co65, .slice none 0 0]) ?_ 2 _ rfl; (with_reducible repeat first | apply zM | apply zE | apply zF); refine zP (cs := #[.slice Ao17 t132.length co17, .slice none 0 0, .slice none 0 0]) ?_ 1 _ rfl; (with_reducible repeat first | apply zM | apply zE | apply zF); refine zP (cs := #[.slice none 0 0, .slice none 0 0, .slice none 0 0]) ?_ 0 _ rfl; (with_reducible repeat first | apply zM | apply zE | apply zF); exact BK129.out) Try.underlying30 rfl (by kernel_rfl)) rfl ?_; exact ⟨_, _, _, by first | rfl | (simp [wN, wS] <;> rfl) | (simp [*, wN, wS] <;> rfl), by (with_reducible repeat (first | apply Kd.R_alloc | apply Kd.R_drewN | apply Kd.R_drew)); exact Kd.R_mono (Kd.R_far (p := ⟨gb129, 2, none⟩) (Kd.R_far (p := ⟨gb129, 1, none⟩) (Kd.R_far (p := ⟨gb129, 0, none⟩) (Kd.R_types HO_136000.out BK129.out (by decide)) (fun _ hk => hk.2) (.slice Ao17 t132.length co17)) (fun _ hk => hk.2) (.slice Ao65 x136001_3.length co65)) (fun _ hk => hk.2) (.slice Ao66 x136002_4.length co66)) (fun _ hk => hk.1), by (with_reducible repeat (first | apply Kd.R_alloc | apply Kd.R_drewN | apply Kd.R_drew)); exact Kd.R_mono (Kd.R_far (p := ⟨gb129, 2, none⟩) (Kd.R_far (p := ⟨gb129, 1, none⟩) (Kd.R_far (p := ⟨gb129, 0, none⟩) (Kd.R_types HO_136001.out BK129.out (by decide)) (fun _ hk => hk.2) (.slice Ao17 t132.length co17)) (fun _ hk => hk.2) (.slice Ao65 x136001_3.length co65)) (fun _ hk => hk.2) (.slice Ao66 x136002_4.length co66)) (fun _ hk => hk.1), by (with_reducible repeat (first | apply Kd.R_alloc | apply Kd.R_drewN | apply Kd.R_drew)); exact Kd.R_mono (Kd.R_far (p := ⟨gb129, 2, none⟩) (Kd.R_far (p := ⟨gb129, 1, none⟩) (Kd.R_far (p := ⟨gb129, 0, none⟩) (Kd.R_types HO_136002.out BK129.out (by decide)) (fun _ hk => hk.2) (.slice Ao17 t132.length co17)) (fun _ hk => hk.2) (.slice Ao65 x136001_3.length co65)) (fun _ hk => hk.2) (.slice Ao66 x136002_4.length co66)) (fun _ hk => trivial), by with_reducible repeat first | exact HB.out | apply zA | apply zN | apply zD | refine zS ?_ GE129.out | refine zS ?_ GE135.out⟩
     ·
      rw [if_neg c15] at H; exact absurd H (by simp)
    ·
     rw [if_neg c14] at H; exact absurd H (by simp)
end Go.Proofs.Ytpekchebllobmaa.G
