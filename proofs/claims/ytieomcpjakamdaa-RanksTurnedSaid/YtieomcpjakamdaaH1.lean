/- ranks.Sorted: its walk, and what it answers. -/
import Derived.Test.YtieomcpjakamdaaS7
namespace Go.Proofs.Ytieomcpjakamdaa.G
open Go.RowKit Go.Proofs.YtieomcpjakamdaaW.PrintWords Go.Proofs.YtieomcpjakamdaaW.PrintLast Go.Proofs.YtieomcpjakamdaaW.PrintMore Go.Proofs.Ytieomcpjakamdaa.Srt
set_option linter.unusedVariables false
set_option linter.unusedSimpArgs false

def cmpI (x y : Int) : Int := if x < y then -1 else if x > y then 1 else 0
theorem isNaN (x : Int) (W : World) : Calls Try.prog 26 #[.int .i64 x] W fun e w' => e = .returned (.bool false) ∧ w' = W := by
  go_enter Try.func26, Try.ntmps26
  go_wp2
  go_ret
  exact ⟨by simp, rfl⟩
theorem cmpCalls (x y : Int) (W : World) : Calls Try.prog 22 #[.int .i64 x, .int .i64 y] W fun e w' => e = .returned (.int .i64 (cmpI x y)) ∧ w' = W := by
  by_cases h1 : x < y
  · have h1b : decide (x < y) = true := decide_eq_true h1
    have HE := Aside0.mk (show cmpI x y = -1 by unfold cmpI; rw [if_pos h1])
    clear h1
    go_enter Try.func22, Try.ntmps22
    go_wp2_with (go_at_call 26; refine (isNaN _ _).mono ?_; rintro e w9 ⟨rfl, hw⟩; rw [hw]; clear hw w9)
    go_ret
    exact ⟨by rw [HE.out]; rfl, rfl⟩
  · have h1b : decide (x < y) = false := decide_eq_false h1
    by_cases h2 : x > y
    · have h2b : decide (x > y) = true := decide_eq_true h2
      have h2c : decide (y < x) = true := decide_eq_true h2
      have HE := Aside0.mk (show cmpI x y = 1 by unfold cmpI; rw [if_neg h1, if_pos h2])
      clear h1 h2
      go_enter Try.func22, Try.ntmps22
      go_wp2_with (go_at_call 26; refine (isNaN _ _).mono ?_; rintro e w9 ⟨rfl, hw⟩; rw [hw]; clear hw w9)
      go_ret
      exact ⟨by rw [HE.out]; rfl, rfl⟩
    · have h2b : decide (x > y) = false := decide_eq_false h2
      have h2c : decide (y < x) = false := decide_eq_false h2
      have HE := Aside0.mk (show cmpI x y = 0 by unfold cmpI; rw [if_neg h1, if_neg h2])
      clear h1 h2
      go_enter Try.func22, Try.ntmps22
      go_wp2_with (go_at_call 26; refine (isNaN _ _).mono ?_; rintro e w9 ⟨rfl, hw⟩; rw [hw]; clear hw w9)
      go_ret
      exact ⟨by rw [HE.out]; rfl, rfl⟩

set_option maxHeartbeats 4000000 in
set_option maxRecDepth 100000 in
theorem clo (A : Option Addr) (c : Nat) (l : List Int) (gn : Nat) (W : World) (hC : Kd.C (Kd.int .i64) W A l.length l) (hn : W.heap[gn]? = some (.cells #[.slice A l.length c] 22 (0, 0))) (a b : Int) (ha : 0 ≤ a ∧ a < l.length) (hb : 0 ≤ b ∧ b < l.length) :
    Calls Try.prog 21 #[.int .i64 a, .int .i64 b, .pointer (some ⟨gn, 0, none⟩)] W fun e w' => e = .returned (.int .i64 (cmpI (rd l a) (rd l b))) ∧ Below W.heap.size W w' := by
  have HC := Aside0.mk hC
  have HB := Aside0.mk (And.intro ha hb)
  obtain ⟨ad, rfl, ca⟩ := Kd.at_int hC a ha.1 ha.2
  obtain ⟨ad2, e2, cb⟩ := Kd.at_int hC b hb.1 hb.2
  injection e2 with e2
  subst e2
  have cn : W.cell? ⟨gn, 0, none⟩ = some (.slice (some ad) l.length c) := (blk_cell hn 0).trans rfl
  obtain ⟨x, hx⟩ : ∃ x, rd l a = x := ⟨_, rfl⟩
  obtain ⟨y, hy⟩ : ∃ y, rd l b = y := ⟨_, rfl⟩
  rw [hx] at ca ⊢
  rw [hy] at cb ⊢
  have p0 : decide (0 ≤ a) = true := decide_eq_true ha.1
  have p1 : decide (a < (l.length : Int)) = true := decide_eq_true ha.2
  have q0 : decide (0 ≤ b) = true := decide_eq_true hb.1
  have q1 : decide (b < (l.length : Int)) = true := decide_eq_true hb.2
  have p0' := eq_true ha.1
  have p1' := eq_true ha.2
  have q0' := eq_true hb.1
  have q1' := eq_true hb.2
  clear hC hn hx hy ha hb
  go_enter Try.func21, Try.ntmps21
  go_upto_region 1 with fail
  refine start_ (n := 10) (S := (fun w' => w'.cell? ⟨gn, 0, none⟩ = some (.slice (some ad) l.length c) ∧ w'.cell? (ad.add a.toNat) = some (.int .i64 x) ∧ w'.cell? (ad.add b.toNat) = some (.int .i64 y))) (ds := [8]) #[false, false, false, false, false, false, false, false, false, false] (by kernel_rfl) rfl rfl ?_ ?_
  · exact ⟨cn, ca, cb⟩
  intro hHeld
  refine pure_ (i := 1) (N := some 7) (v := ?_) (a' := ?_) #[false, true, false, false, false, false, false, false, false, false] rfl rfl (by kernel_rfl) (fun _ _ _ h => h) (Or.inl ⟨by rfl, ?_⟩) ?_ ?_
  rotate_left
  · intro w'
    go_simp
    with_reducible rfl
  rotate_left
  · simp only [Act.put, List.setIfInBounds_toArray, List.set_cons_zero, List.set_cons_succ, i64_w, i32_w]
    rfl
  refine pure_ (i := 5) (N := some 11) (v := ?_) (a' := ?_) #[false, true, false, false, false, true, false, false, false, false] rfl rfl (by kernel_rfl) (fun _ _ _ h => h) (Or.inl ⟨by rfl, ?_⟩) ?_ ?_
  rotate_left
  · intro w'
    go_simp
    with_reducible rfl
  rotate_left
  · simp only [Act.put, List.setIfInBounds_toArray, List.set_cons_zero, List.set_cons_succ, i64_w, i32_w]
    rfl
  refine take_ (i := 0) (N := some 6) (v := ?_) (a' := ?_) #[true, true, false, false, false, true, false, false, false, false] rfl rfl (by kernel_rfl) (fun _ _ _ h => h) (Or.inl ⟨by rfl, ?_⟩) hHeld ?_ ?_
  rotate_left
  · rintro w' ⟨s0, s1, s2⟩
    go_simp
    with_reducible rfl
  rotate_left
  · simp only [Act.put, List.setIfInBounds_toArray, List.set_cons_zero, List.set_cons_succ, i64_w, i32_w]
    rfl
  refine pure_ (i := 2) (N := some 8) (v := ?_) (a' := ?_) #[true, true, true, false, false, true, false, false, false, false] rfl rfl (by kernel_rfl) (fun _ _ _ h => h) (Or.inl ⟨by rfl, ?_⟩) ?_ ?_
  rotate_left
  · intro w'
    go_simp
    with_reducible rfl
  rotate_left
  · simp only [Act.put, List.setIfInBounds_toArray, List.set_cons_zero, List.set_cons_succ, i64_w, i32_w]
    rfl
  refine take_ (i := 3) (N := some 9) (v := ?_) (a' := ?_) #[true, true, true, true, false, true, false, false, false, false] rfl rfl (by kernel_rfl) (fun _ _ _ h => h) (Or.inl ⟨by rfl, ?_⟩) hHeld ?_ ?_
  rotate_left
  · rintro w' ⟨s0, s1, s2⟩
    go_simp
    with_reducible rfl
  rotate_left
  · simp only [Act.put, List.setIfInBounds_toArray, List.set_cons_zero, List.set_cons_succ, i64_w, i32_w]
    rfl
  refine take_ (i := 4) (N := some 10) (v := ?_) (a' := ?_) #[true, true, true, true, true, true, false, false, false, false] rfl rfl (by kernel_rfl) (fun _ _ _ h => h) (Or.inl ⟨by rfl, ?_⟩) hHeld ?_ ?_
  rotate_left
  · rintro w' ⟨s0, s1, s2⟩
    go_simp
    with_reducible rfl
  rotate_left
  · simp only [Act.put, List.setIfInBounds_toArray, List.set_cons_zero, List.set_cons_succ, i64_w, i32_w]
    rfl
  refine pure_ (i := 6) (N := some 12) (v := ?_) (a' := ?_) #[true, true, true, true, true, true, true, false, false, false] rfl rfl (by kernel_rfl) (fun _ _ _ h => h) (Or.inl ⟨by rfl, ?_⟩) ?_ ?_
  rotate_left
  · intro w'
    go_simp
    with_reducible rfl
  rotate_left
  · simp only [Act.put, List.setIfInBounds_toArray, List.set_cons_zero, List.set_cons_succ, i64_w, i32_w]
    rfl
  refine take_ (i := 7) (N := some 13) (v := ?_) (a' := ?_) #[true, true, true, true, true, true, true, true, false, false] rfl rfl (by kernel_rfl) (fun _ _ _ h => h) (Or.inl ⟨by rfl, ?_⟩) hHeld ?_ ?_
  rotate_left
  · rintro w' ⟨s0, s1, s2⟩
    go_simp
    with_reducible rfl
  rotate_left
  · simp only [Act.put, List.setIfInBounds_toArray, List.set_cons_zero, List.set_cons_succ, i64_w, i32_w]
    rfl
  refine last_ (i := 8) (N := some 14) #[true, true, true, true, true, true, true, true, true, false] rfl rfl (by kernel_rfl) (by decide) (fun K hK => ?_)
  refine goes_ Try.func22 (by kernel_rfl) rfl #[.int .i64 x, .int .i64 y] (by rfl) rfl rfl (by (try simp only [List.map_toArray, List.map_cons, List.map_nil]); first | done | rfl) ?_
  refine (cmpCalls x y _).mono ?_
  rintro e w9 ⟨rfl, hw⟩
  refine ⟨_, rfl, ?_⟩
  rw [hw]
  clear hw w9
  refine hK.out _ _ ?_
  clear hK K
  refine norm_ (a' := ?_) ?_ ?_
  rotate_left
  · show Act.put _ (some 14) _ = _
    simp only [Act.put, List.setIfInBounds_toArray, List.set_cons_zero, List.set_cons_succ, i64_w, i32_w]
    rfl
  refine pure_ (i := 9) (N := some 5) (v := ?_) (a' := ?_) #[true, true, true, true, true, true, true, true, true, true] rfl rfl (by kernel_rfl) (fun _ _ _ h => h) (Or.inl ⟨by rfl, ?_⟩) ?_ ?_
  rotate_left
  · intro w'
    go_simp
    with_reducible rfl
  rotate_left
  · simp only [Act.put, List.setIfInBounds_toArray, List.set_cons_zero, List.set_cons_succ, i64_w, i32_w]
    rfl
  refine done_ (by kernel_rfl) ?_
  go_wp2_with fail
  go_ret
  exact ⟨rfl, below_drew (Below.refl _ _)⟩
end Go.Proofs.Ytieomcpjakamdaa.G
