/- keys.compare walked once more: what it leaves of the world, to the block (for slices.SortFunc). -/
import Derived.Test.YtmndedahkodibaaH14
import Derived.Sort.Grow
namespace Go.Proofs.Ytmndedahkodibaa.G
open Go.RowKit Go.Proofs.YtmndedahkodibaaW.PrintWords Go.Proofs.YtmndedahkodibaaW.PrintLast Go.Proofs.YtmndedahkodibaaW.PrintMore
open Go.Sort (alloc_eq_grow grow_grow)
open Go.Proofs.Ytmndedahkodibaa.Pure (lt Lt Lt_tri Lt_irrefl Lt_trans less_prog less_ref)
set_option linter.unusedVariables false
set_option linter.unusedSimpArgs false

/-- Draws and new blocks, and nothing else. -/
def GD (w w' : World) : Prop := ∃ q os, w' = Go.Sort.grow (w.drewN q) os
theorem GD.refl (w : World) : GD w w := ⟨0, #[], by simp [World.drewN]⟩
theorem GD.alloc {w w' : World} (h : GD w w') (o : Obj) : GD w (w'.alloc o) := by
  obtain ⟨q, os, rfl⟩ := h
  exact ⟨q, _, by rw [alloc_eq_grow, grow_grow]⟩
theorem GD.drewN {w w' : World} (h : GD w w') (n : Nat) : GD w (w'.drewN n) := by
  obtain ⟨q, os, rfl⟩ := h
  exact ⟨q + n, os, by rw [← World.drewN_drewN]; rfl⟩
theorem GD.drew {w w' : World} (h : GD w w') : GD w w'.drew := h.drewN 1
theorem GD.below {w w' : World} (h : GD w w') : Below w.heap.size w w' := by
  obtain ⟨q, os, rfl⟩ := h
  exact ⟨rfl, rfl, rfl, by simp [Go.Sort.grow], fun k hk => Go.Sort.heap_grow_old _ _ hk⟩
def cmpV (a b : S28) : Int := (keys_compare.f 5 a.f0 a.f1 a.f2 b.f0 b.f1 b.f2).getD 0
theorem cmpV_parts (a b : S28) : ∃ t0 t1 t2, cmp_Compare_string.f a.f0 b.f0 = some t0 ∧ cmp_Compare_string.f a.f1 b.f1 = some t1 ∧ cmp_Compare_int.f a.f2 b.f2 = some t2 ∧ cmp_Or_int.f 5 [t0, t1, t2] = some (cmpV a b) := by
  refine ⟨_, _, _, Pure.cmpS _ _, Pure.cmpS _ _, Pure.cmpI _ _, ?_⟩
  unfold cmpV keys_compare.f
  rw [Pure.cmpS, Pure.cmpS, Pure.cmpI]
  simp only [Option.bind_some]
  rw [Pure.or3]
  simp only [Option.bind_some, Option.getD_some]
theorem cmpV_lt (a b : S28) : decide (cmpV a b < 0) = lt a b := by
  have h := less_prog a b
  obtain ⟨t0, t1, t2, h0, h1, h2, h3⟩ := cmpV_parts a b
  unfold keys_Less.f keys_compare.f at h
  rw [h0, h1, h2] at h
  simp only [Option.bind_some] at h
  rw [h3] at h
  simpa only [Option.bind_some, Option.some.injEq] using h
theorem Kd_three (w : World) (t0 t1 t2 : Int) : Kd.C (Kd.int .i64) (w.alloc (.cells #[.int .i64 t0, .int .i64 t1, .int .i64 t2] 3)) (some ⟨w.heap.size, 0, none⟩) 3 [t0, t1, t2] := by
  have h := heap_alloc_new w (.cells #[.int .i64 t0, .int .i64 t1, .int .i64 t2] 3)
  refine ⟨rfl, by decide, fun _ => ⟨_, rfl, ?_⟩⟩
  intro j p hj
  match j, hj with
  | 0, hj =>
    obtain rfl := Option.some.inj hj
    refine ⟨[.int .i64 t0], rfl, rfl, ?_⟩
    intro i u hi
    rw [Addr.add_lit, blk_cell h]
    match i, hi with
    | 0, hi => exact hi
  | 1, hj =>
    obtain rfl := Option.some.inj hj
    refine ⟨[.int .i64 t1], rfl, rfl, ?_⟩
    intro i u hi
    rw [Addr.add_lit, blk_cell h]
    match i, hi with
    | 0, hi => exact hi
  | 2, hj =>
    obtain rfl := Option.some.inj hj
    refine ⟨[.int .i64 t2], rfl, rfl, ?_⟩
    intro i u hi
    rw [Addr.add_lit, blk_cell h]
    match i, hi with
    | 0, hi => exact hi

theorem val_ {P : Program} {ops : Array Oper} {Q : Exit → Act → World → Prop} {oi : Oper} {N : Option Tmp} {v : Value} {a : Act} {w w1 : World} {K : Act → World → Prop} (hw : Region.wanted oi (yielded ops a.tmps) = true) (hN : oi.dst = N) (hrun : (execOp a.eval oi).run P w = .ok (.value v) w1)
    (h : K (a.put N v) w1) : if Region.wanted oi (yielded ops a.tmps) = true then Oper.wp P oi a w K Q else K (a.put N undef) w := by
  rw [if_pos hw]
  unfold Oper.wp
  rw [hrun]
  show K (a.put oi.dst v) w1
  rw [hN]
  exact h
set_option maxHeartbeats 4000000 in
set_option maxRecDepth 100000 in
theorem cmp_walk (a b : S28) (w : World) : Calls Try.prog 26 #[KV a, KV b] w fun e w' => e = .returned (.int .i64 (cmpV a b)) ∧ GD w w' := by
  obtain ⟨t0, t1, t2, h0, h1, h2, h3⟩ := cmpV_parts a b
  obtain ⟨r, hr⟩ : ∃ r, cmpV a b = r := ⟨_, rfl⟩
  rw [hr] at h3 ⊢
  have HH := Aside0.mk (And.intro h0 (And.intro h1 (And.intro h2 h3)))
  clear h0 h1 h2 h3 hr
  go_enter Try.func26, Try.ntmps26
  go_upto_region 1 with fail
  have ZA := Aside0.mk (show (w.alloc (.cells #[.string a.f0, .string a.f1, .int .i64 a.f2] 28)).heap.size = w.heap.size + 1 from Array.size_push ..)
  have XA0 := heap_alloc_new w (.cells #[.string a.f0, .string a.f1, .int .i64 a.f2] 28)
  have GA := (GD.refl w).alloc (.cells #[.string a.f0, .string a.f1, .int .i64 a.f2] 28)
  generalize w.alloc (.cells #[.string a.f0, .string a.f1, .int .i64 a.f2] 28) = W1 at ZA XA0 GA ⊢
  have XB0 := heap_alloc_new W1 (.cells #[.string b.f0, .string b.f1, .int .i64 b.f2] 28)
  rw [ZA.out] at XB0
  have GB := GA.alloc (.cells #[.string b.f0, .string b.f1, .int .i64 b.f2] 28)
  have XA1 := blk_below XA0 ((Below.refl _ W1).alloc (Nat.le_refl _) (.cells #[.string b.f0, .string b.f1, .int .i64 b.f2] 28))
  generalize W1.alloc (.cells #[.string b.f0, .string b.f1, .int .i64 b.f2] 28) = W2 at XB0 GB XA1 ⊢
  obtain ⟨g0, hg0⟩ : ∃ g0, w.heap.size = g0 := ⟨_, rfl⟩
  have XA := Aside0.mk XA1
  have XB := Aside0.mk XB0
  have GG := Aside0.mk GB
  clear XA0 XA1 XB0 GA GB ZA hg0 g0
  refine start_ (n := 18) (S := (fun w' => w'.cell? ⟨w.heap.size, 0, none⟩ = some (.string a.f0) ∧ w'.cell? ⟨w.heap.size, 1, none⟩ = some (.string a.f1) ∧ w'.cell? ⟨w.heap.size, 2, none⟩ = some (.int .i64 a.f2) ∧ w'.cell? ⟨w.heap.size + 1, 0, none⟩ = some (.string b.f0) ∧ w'.cell? ⟨w.heap.size + 1, 1, none⟩ = some (.string b.f1) ∧ w'.cell? ⟨w.heap.size + 1, 2, none⟩ = some (.int .i64 b.f2))) (ds := []) #[false, false, false, false, false, false, false, false, false, false, false, false, false, false, false, false, false, false] (by kernel_rfl) rfl rfl ?_ ?_
  · exact ⟨(blk_cell XA.out 0).trans rfl, (blk_cell XA.out 1).trans rfl, (blk_cell XA.out 2).trans rfl, (blk_cell XB.out 0).trans rfl, (blk_cell XB.out 1).trans rfl, (blk_cell XB.out 2).trans rfl⟩
  intro hHeld
  refine pure_ (i := 0) (N := some 5) (v := ?_) (a' := ?_) #[true, false, false, false, false, false, false, false, false, false, false, false, false, false, false, false, false, false] rfl rfl (by kernel_rfl) (fun _ _ _ h => h) (Or.inl ⟨by rfl, ?_⟩) ?_ ?_
  rotate_left
  · intro w'
    go_simp
    with_reducible rfl
  rotate_left
  · simp only [Act.put, List.setIfInBounds_toArray, List.set_cons_zero, List.set_cons_succ, i64_w, i32_w]
    rfl
  refine pure_ (i := 2) (N := some 7) (v := ?_) (a' := ?_) #[true, false, true, false, false, false, false, false, false, false, false, false, false, false, false, false, false, false] rfl rfl (by kernel_rfl) (fun _ _ _ h => h) (Or.inl ⟨by rfl, ?_⟩) ?_ ?_
  rotate_left
  · intro w'
    go_simp
    with_reducible rfl
  rotate_left
  · simp only [Act.put, List.setIfInBounds_toArray, List.set_cons_zero, List.set_cons_succ, i64_w, i32_w]
    rfl
  refine pure_ (i := 5) (N := some 10) (v := ?_) (a' := ?_) #[true, false, true, false, false, true, false, false, false, false, false, false, false, false, false, false, false, false] rfl rfl (by kernel_rfl) (fun _ _ _ h => h) (Or.inl ⟨by rfl, ?_⟩) ?_ ?_
  rotate_left
  · intro w'
    go_simp
    with_reducible rfl
  rotate_left
  · simp only [Act.put, List.setIfInBounds_toArray, List.set_cons_zero, List.set_cons_succ, i64_w, i32_w]
    rfl
  refine pure_ (i := 7) (N := some 12) (v := ?_) (a' := ?_) #[true, false, true, false, false, true, false, true, false, false, false, false, false, false, false, false, false, false] rfl rfl (by kernel_rfl) (fun _ _ _ h => h) (Or.inl ⟨by rfl, ?_⟩) ?_ ?_
  rotate_left
  · intro w'
    go_simp
    with_reducible rfl
  rotate_left
  · simp only [Act.put, List.setIfInBounds_toArray, List.set_cons_zero, List.set_cons_succ, i64_w, i32_w]
    rfl
  refine pure_ (i := 10) (N := some 15) (v := ?_) (a' := ?_) #[true, false, true, false, false, true, false, true, false, false, true, false, false, false, false, false, false, false] rfl rfl (by kernel_rfl) (fun _ _ _ h => h) (Or.inl ⟨by rfl, ?_⟩) ?_ ?_
  rotate_left
  · intro w'
    go_simp
    with_reducible rfl
  rotate_left
  · simp only [Act.put, List.setIfInBounds_toArray, List.set_cons_zero, List.set_cons_succ, i64_w, i32_w]
    rfl
  refine pure_ (i := 12) (N := some 17) (v := ?_) (a' := ?_) #[true, false, true, false, false, true, false, true, false, false, true, false, true, false, false, false, false, false] rfl rfl (by kernel_rfl) (fun _ _ _ h => h) (Or.inl ⟨by rfl, ?_⟩) ?_ ?_
  rotate_left
  · intro w'
    go_simp
    with_reducible rfl
  rotate_left
  · simp only [Act.put, List.setIfInBounds_toArray, List.set_cons_zero, List.set_cons_succ, i64_w, i32_w]
    rfl
  refine take_ (i := 1) (N := some 6) (v := ?_) (a' := ?_) #[true, true, true, false, false, true, false, true, false, false, true, false, true, false, false, false, false, false] rfl rfl (by kernel_rfl) (fun _ _ _ h => h) (Or.inl ⟨by rfl, ?_⟩) hHeld ?_ ?_
  rotate_left
  · rintro w' ⟨s0, s1, s2, s3, s4, s5⟩
    go_simp
    with_reducible rfl
  rotate_left
  · simp only [Act.put, List.setIfInBounds_toArray, List.set_cons_zero, List.set_cons_succ, i64_w, i32_w]
    rfl
  refine take_ (i := 3) (N := some 8) (v := ?_) (a' := ?_) #[true, true, true, true, false, true, false, true, false, false, true, false, true, false, false, false, false, false] rfl rfl (by kernel_rfl) (fun _ _ _ h => h) (Or.inl ⟨by rfl, ?_⟩) hHeld ?_ ?_
  rotate_left
  · rintro w' ⟨s0, s1, s2, s3, s4, s5⟩
    go_simp
    with_reducible rfl
  rotate_left
  · simp only [Act.put, List.setIfInBounds_toArray, List.set_cons_zero, List.set_cons_succ, i64_w, i32_w]
    rfl
  refine take_ (i := 6) (N := some 11) (v := ?_) (a' := ?_) #[true, true, true, true, false, true, true, true, false, false, true, false, true, false, false, false, false, false] rfl rfl (by kernel_rfl) (fun _ _ _ h => h) (Or.inl ⟨by rfl, ?_⟩) hHeld ?_ ?_
  rotate_left
  · rintro w' ⟨s0, s1, s2, s3, s4, s5⟩
    go_simp
    with_reducible rfl
  rotate_left
  · simp only [Act.put, List.setIfInBounds_toArray, List.set_cons_zero, List.set_cons_succ, i64_w, i32_w]
    rfl
  refine take_ (i := 8) (N := some 13) (v := ?_) (a' := ?_) #[true, true, true, true, false, true, true, true, true, false, true, false, true, false, false, false, false, false] rfl rfl (by kernel_rfl) (fun _ _ _ h => h) (Or.inl ⟨by rfl, ?_⟩) hHeld ?_ ?_
  rotate_left
  · rintro w' ⟨s0, s1, s2, s3, s4, s5⟩
    go_simp
    with_reducible rfl
  rotate_left
  · simp only [Act.put, List.setIfInBounds_toArray, List.set_cons_zero, List.set_cons_succ, i64_w, i32_w]
    rfl
  refine take_ (i := 11) (N := some 16) (v := ?_) (a' := ?_) #[true, true, true, true, false, true, true, true, true, false, true, true, true, false, false, false, false, false] rfl rfl (by kernel_rfl) (fun _ _ _ h => h) (Or.inl ⟨by rfl, ?_⟩) hHeld ?_ ?_
  rotate_left
  · rintro w' ⟨s0, s1, s2, s3, s4, s5⟩
    go_simp
    with_reducible rfl
  rotate_left
  · simp only [Act.put, List.setIfInBounds_toArray, List.set_cons_zero, List.set_cons_succ, i64_w, i32_w]
    rfl
  refine take_ (i := 13) (N := some 18) (v := ?_) (a' := ?_) #[true, true, true, true, false, true, true, true, true, false, true, true, true, true, false, false, false, false] rfl rfl (by kernel_rfl) (fun _ _ _ h => h) (Or.inl ⟨by rfl, ?_⟩) hHeld ?_ ?_
  rotate_left
  · rintro w' ⟨s0, s1, s2, s3, s4, s5⟩
    go_simp
    with_reducible rfl
  rotate_left
  · simp only [Act.put, List.setIfInBounds_toArray, List.set_cons_zero, List.set_cons_succ, i64_w, i32_w]
    rfl
  refine one_ (i := 4) (N := some 9) #[true, true, true, true, true, true, true, true, true, false, true, true, true, true, false, false, false, false] rfl rfl (by kernel_rfl) (by decide) (fun K hK => ?_)
  refine goes_ Try.func32 (by kernel_rfl) rfl #[.string a.f0, .string b.f0] (by rfl) rfl rfl (by (try simp only [List.map_toArray, List.map_cons, List.map_nil]); first | done | rfl) ?_
  with_reducible refine (cmp_Compare_string.calls a.f0 b.f0 t0 _ HH.out.1).mono ?_
  rintro e w' ⟨rfl, ⟨nd4, rfl⟩⟩
  refine ⟨_, rfl, ?_⟩
  refine hK.out _ _ ⟨(blk_cell XA.out 0).trans rfl, (blk_cell XA.out 1).trans rfl, (blk_cell XA.out 2).trans rfl, (blk_cell XB.out 0).trans rfl, (blk_cell XB.out 1).trans rfl, (blk_cell XB.out 2).trans rfl⟩ (fun hHeld => ?_)
  clear hK K
  refine norm_ (a' := ?_) ?_ ?_
  rotate_left
  · show Act.put _ (some 9) _ = _
    simp only [Act.put, List.setIfInBounds_toArray, List.set_cons_zero, List.set_cons_succ, i64_w, i32_w]
    rfl
  refine one_ (i := 9) (N := some 14) #[true, true, true, true, true, true, true, true, true, true, true, true, true, true, false, false, false, false] rfl rfl (by kernel_rfl) (by decide) (fun K hK => ?_)
  refine goes_ Try.func32 (by kernel_rfl) rfl #[.string a.f1, .string b.f1] (by rfl) rfl rfl (by (try simp only [List.map_toArray, List.map_cons, List.map_nil]); first | done | rfl) ?_
  with_reducible refine (cmp_Compare_string.calls a.f1 b.f1 t1 _ HH.out.2.1).mono ?_
  rintro e w' ⟨rfl, ⟨nd9, rfl⟩⟩
  refine ⟨_, rfl, ?_⟩
  refine hK.out _ _ ⟨(blk_cell XA.out 0).trans rfl, (blk_cell XA.out 1).trans rfl, (blk_cell XA.out 2).trans rfl, (blk_cell XB.out 0).trans rfl, (blk_cell XB.out 1).trans rfl, (blk_cell XB.out 2).trans rfl⟩ (fun hHeld => ?_)
  clear hK K
  refine norm_ (a' := ?_) ?_ ?_
  rotate_left
  · show Act.put _ (some 14) _ = _
    simp only [Act.put, List.setIfInBounds_toArray, List.set_cons_zero, List.set_cons_succ, i64_w, i32_w]
    rfl
  refine one_ (i := 14) (N := some 19) #[true, true, true, true, true, true, true, true, true, true, true, true, true, true, true, false, false, false] rfl rfl (by kernel_rfl) (by decide) (fun K hK => ?_)
  refine goes_ Try.func33 (by kernel_rfl) rfl #[.int .i64 a.f2, .int .i64 b.f2] (by rfl) rfl rfl (by (try simp only [List.map_toArray, List.map_cons, List.map_nil]); first | done | rfl) ?_
  with_reducible refine (cmp_Compare_int.calls a.f2 b.f2 t2 _ HH.out.2.2.1).mono ?_
  rintro e w' ⟨rfl, ⟨nd14, rfl⟩⟩
  refine ⟨_, rfl, ?_⟩
  have G3 := Aside0.mk ((((GG.out.drew).drewN nd4).drewN nd9).drewN nd14)
  refine hK.out _ _ ⟨(blk_cell XA.out 0).trans rfl, (blk_cell XA.out 1).trans rfl, (blk_cell XA.out 2).trans rfl, (blk_cell XB.out 0).trans rfl, (blk_cell XB.out 1).trans rfl, (blk_cell XB.out 2).trans rfl⟩ (fun hHeld => ?_)
  clear hK K
  refine norm_ (a' := ?_) ?_ ?_
  rotate_left
  · show Act.put _ (some 19) _ = _
    simp only [Act.put, List.setIfInBounds_toArray, List.set_cons_zero, List.set_cons_succ, i64_w, i32_w]
    rfl
  refine one_ (i := 15) (N := some 20) #[true, true, true, true, true, true, true, true, true, true, true, true, true, true, true, true, false, false] rfl rfl (by kernel_rfl) (by decide) (fun K hK => ?_)
  have XA := Aside0.mk (show (((W2.drew.drewN nd4).drewN nd9).drewN nd14).heap[w.heap.size]? = _ from XA.out)
  have XB := Aside0.mk (show (((W2.drew.drewN nd4).drewN nd9).drewN nd14).heap[w.heap.size + 1]? = _ from XB.out)
  generalize ((W2.drew.drewN nd4).drewN nd9).drewN nd14 = W5 at XA XB G3 ⊢
  refine val_ (v := .slice (some ⟨W5.heap.size, 0, none⟩) 3 3) (w1 := W5.alloc (.cells #[.int .i64 t0, .int .i64 t1, .int .i64 t2] 3)) (by rfl) rfl ?_ ?_
  · first | (go_simp; done) | (go_simp; rfl)
  have G6 := Aside0.mk (G3.out.alloc (.cells #[.int .i64 t0, .int .i64 t1, .int .i64 t2] 3))
  have C6 := Aside0.mk (Kd_three W5 t0 t1 t2)
  have hB := (Below.refl _ W5).alloc (Nat.le_refl _) (.cells #[.int .i64 t0, .int .i64 t1, .int .i64 t2] 3)
  have XA := Aside0.mk (blk_below XA.out hB)
  have XB := Aside0.mk (blk_below XB.out hB)
  refine hK.out _ _ ⟨(blk_cell XA.out 0).trans rfl, (blk_cell XA.out 1).trans rfl, (blk_cell XA.out 2).trans rfl, (blk_cell XB.out 0).trans rfl, (blk_cell XB.out 1).trans rfl, (blk_cell XB.out 2).trans rfl⟩ (fun hHeld => ?_)
  clear hK K
  refine norm_ (a' := ?_) ?_ ?_
  rotate_left
  · show Act.put _ (some 20) _ = _
    simp only [Act.put, List.setIfInBounds_toArray, List.set_cons_zero, List.set_cons_succ, i64_w, i32_w]
    rfl
  refine one_ (i := 16) (N := some 21) #[true, true, true, true, true, true, true, true, true, true, true, true, true, true, true, true, true, false] rfl rfl (by kernel_rfl) (by decide) (fun K hK => ?_)
  refine goes_ Try.func31 (by kernel_rfl) rfl #[.slice (some ⟨W5.heap.size, 0, none⟩) 3 3] (by rfl) rfl rfl (by (try simp only [List.map_toArray, List.map_cons, List.map_nil]); first | done | rfl) ?_
  show Calls Try.prog 31 #[.slice (some ⟨W5.heap.size, 0, none⟩) [t0, t1, t2].length 3] _ _
  with_reducible refine (cmp_Or_int.calls 5 _ 3 [t0, t1, t2] r _ C6.out (Nat.le_refl _) HH.out.2.2.2).mono ?_
  rintro e w' ⟨rfl, ⟨nd16, rfl⟩⟩
  refine ⟨_, rfl, ?_⟩
  have G7 := Aside0.mk (G6.out.drewN nd16)
  refine hK.out _ _ ⟨(blk_cell XA.out 0).trans rfl, (blk_cell XA.out 1).trans rfl, (blk_cell XA.out 2).trans rfl, (blk_cell XB.out 0).trans rfl, (blk_cell XB.out 1).trans rfl, (blk_cell XB.out 2).trans rfl⟩ (fun hHeld => ?_)
  clear hK K
  refine norm_ (a' := ?_) ?_ ?_
  rotate_left
  · show Act.put _ (some 21) _ = _
    simp only [Act.put, List.setIfInBounds_toArray, List.set_cons_zero, List.set_cons_succ, i64_w, i32_w]
    rfl
  refine pure_ (i := 17) (N := some 4) (v := ?_) (a' := ?_) #[true, true, true, true, true, true, true, true, true, true, true, true, true, true, true, true, true, true] rfl rfl (by kernel_rfl) (fun _ _ _ h => h) (Or.inl ⟨by rfl, ?_⟩) ?_ ?_
  rotate_left
  · intro w'
    go_simp
    with_reducible rfl
  rotate_left
  · simp only [Act.put, List.setIfInBounds_toArray, List.set_cons_zero, List.set_cons_succ, i64_w, i32_w]
    rfl
  refine done_ (by kernel_rfl) ?_
  go_wp2
  go_ret
  exact ⟨rfl, G7.out⟩
end Go.Proofs.Ytmndedahkodibaa.G
