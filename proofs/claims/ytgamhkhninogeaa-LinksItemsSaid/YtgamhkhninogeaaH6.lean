/- What a pool tells of its items (links.Pool.Links, Kids, Level), walked. -/
import Derived.Test.YtgamhkhninogeaaH5
namespace Go.Proofs.Ytgamhkhninogeaa.G
open Go.RowKit Go.Proofs.YtgamhkhninogeaaW.PrintWords Go.Proofs.YtgamhkhninogeaaW.PrintLast Go.Proofs.YtgamhkhninogeaaW.PrintMore
set_option linter.unusedVariables false
set_option linter.unusedSimpArgs false

/-- A link's number. -/
def num (v : Int) : Int := if v < 0 then -1 else v
set_option maxHeartbeats 4000000 in
set_option maxRecDepth 100000 in
theorem number (W : World) (base : Nat) (bs : List Nat) (F : FF) (h : GW W base bs F) (v : Int) (hv : v < bs.length) : Calls Try.prog 29 #[pv bs v] W fun e w' => e = .returned (.int .i64 (num v)) ∧ w' = W := by
  unfold num
  by_cases h0 : v < 0
  · rw [pv_neg bs h0, if_pos h0]
    clear h h0 hv
    go_enter Try.func29, Try.ntmps29
    go_wp2_with fail
    refine bodyPost_ret (results_tmp rfl _ _ _) rfl ?_
    exact ⟨rfl, rfl⟩
  · rw [pv_pos bs h0, if_neg h0]
    have c0 := h.mark v (by omega) hv
    clear h h0 hv
    go_enter Try.func29, Try.ntmps29
    go_wp2_with fail
    refine bodyPost_ret (results_tmp rfl _ _ _) rfl ?_
    exact ⟨rfl, rfl⟩
theorem Links_nil (W : World) (x : Int) : Calls Try.prog 8 #[.pointer none, .int .i64 x] W fun e w' => e = .returned (.tuple #[.agg #[.int .i64 0, .int .i64 0, .int .i64 0, .int .i64 0, .int .i64 0], .bool false]) ∧ Below W.heap.size W w' := by
  go_enter Try.func8, Try.ntmps8
  go_wp2_with (go_at_call 28; refine (has_nil _ _).mono ?_; rintro e w9 ⟨rfl, hw⟩; rw [hw]; clear hw w9)
  refine bodyPost_ret (results_ct rfl _ _ W.heap.size 27 #[.int .i64 0, .int .i64 0, .int .i64 0, .int .i64 0, .int .i64 0] (0, 0) _ rfl (heap_alloc_new W _) Try.underlying27 rfl (by kernel_rfl)) rfl ?_
  exact ⟨rfl, below_alloc (Below.refl _ W) _⟩
set_option maxHeartbeats 4000000 in
set_option maxRecDepth 100000 in
theorem Links_in (W : World) (base p : Nat) (bs : List Nat) (F : FF) (h : PW W base p bs F) (x : Int) (h1 : inP bs.length x) :
    Calls Try.prog 8 #[ptr p, .int .i64 x] W fun e w' => e = .returned (.tuple #[.agg #[.int .i64 (num (F x 1)), .int .i64 (num (F x 2)), .int .i64 (num (F x 3)), .int .i64 (num (F x 4)), .int .i64 (num (F x 5))], .bool true]) ∧ Below W.heap.size W w' := by
  have HP := Aside0.mk h
  have HX := Aside0.mk h1
  have b1 := hasB_true h1
  have r1 : 0 ≤ x := h1.1
  have r2 : x < (bs.length : Int) := h1.2
  clear h h1
  go_enter Try.func8, Try.ntmps8
  go_upto_region 3 with (go_at_call 28; refine (has _ base p bs F (HP.out.below (below_alloc (Below.refl _ W) _)) x _ rfl).mono ?_; rintro e w9 ⟨rfl, hw⟩; rw [hw]; clear hw w9)
  obtain ⟨w1, hw1⟩ : ∃ w1, W.alloc (.cells #[.int .i64 0, .int .i64 0, .int .i64 0, .int .i64 0, .int .i64 0] 27) = w1 := ⟨_, rfl⟩
  rw [hw1]
  have X1 := Aside0.mk (show w1.heap[W.heap.size]? = some (.cells #[.int .i64 0, .int .i64 0, .int .i64 0, .int .i64 0, .int .i64 0] 27 (0, 0)) from hw1 ▸ heap_alloc_new W _)
  have B1 := Aside0.mk (show Below W.heap.size W w1 from hw1 ▸ below_alloc (Below.refl _ W) _)
  clear hw1
  have HD := Aside0.mk (HP.out.below B1.out)
  obtain ⟨g, cap, hp0, hit⟩ := HD.out.items (by have := HX.out.1; have := HX.out.2; omega)
  have c1 := hit x HX.out
  clear hit
  go_upto_region 4 with fail
  have e1 := HD.out.gw.cell x HX.out.1 HX.out.2 1 (by decide)
  have e2 := HD.out.gw.cell x HX.out.1 HX.out.2 2 (by decide)
  have e3 := HD.out.gw.cell x HX.out.1 HX.out.2 3 (by decide)
  have e4 := HD.out.gw.cell x HX.out.1 HX.out.2 4 (by decide)
  have e5 := HD.out.gw.cell x HX.out.1 HX.out.2 5 (by decide)
  have HD := Aside0.mk (HD.out.below (Below.refl _ w1).drew)
  clear hp0 c1
  refine start_ (n := 28) (S := (fun w' => w'.cell? ⟨blq bs x, 1, none⟩ = some (pv bs (F x 1)) ∧ w'.cell? ⟨blq bs x, 2, none⟩ = some (pv bs (F x 2)) ∧ w'.cell? ⟨blq bs x, 3, none⟩ = some (pv bs (F x 3)) ∧ w'.cell? ⟨blq bs x, 4, none⟩ = some (pv bs (F x 4)) ∧ w'.cell? ⟨blq bs x, 5, none⟩ = some (pv bs (F x 5)))) (ds := [26]) #[false, false, false, false, false, false, false, false, false, false, false, false, false, false, false, false, false, false, false, false, false, false, false, false, false, false, false, false] (by kernel_rfl) rfl rfl ?_ ?_
  · exact ⟨e1, e2, e3, e4, e5⟩
  intro hHeld
  clear e1 e2 e3 e4 e5; have X1 := Aside0.mk (show w1.drew.heap[W.heap.size]? = some (.cells #[.int .i64 0, .int .i64 0, .int .i64 0, .int .i64 0, .int .i64 0] 27 (0, 0)) from X1.out); have BD := Aside0.mk (show Below W.heap.size W w1.drew from B1.out.drew); generalize w1.drew = wd at X1 BD HD hHeld ⊢; have hH := hHeld; obtain ⟨e1, e2, e3, e4, e5⟩ := hH
  refine pure_ (i := 0) (N := some 19) (v := ?_) (a' := ?_) #[true, false, false, false, false, false, false, false, false, false, false, false, false, false, false, false, false, false, false, false, false, false, false, false, false, false, false, false] rfl rfl (by kernel_rfl) (fun _ _ _ h => h) (Or.inl ⟨by rfl, ?_⟩) ?_ ?_
  rotate_left
  · intro w'
    go_simp
    with_reducible rfl
  rotate_left
  · simp only [Act.put, List.setIfInBounds_toArray, List.set_cons_zero, List.set_cons_succ, i64_w, i32_w]
    rfl
  refine pure_ (i := 1) (N := some 20) (v := ?_) (a' := ?_) #[true, true, false, false, false, false, false, false, false, false, false, false, false, false, false, false, false, false, false, false, false, false, false, false, false, false, false, false] rfl rfl (by kernel_rfl) (fun _ _ _ h => h) (Or.inl ⟨by rfl, ?_⟩) ?_ ?_
  rotate_left
  · intro w'
    go_simp
    with_reducible rfl
  rotate_left
  · simp only [Act.put, List.setIfInBounds_toArray, List.set_cons_zero, List.set_cons_succ, i64_w, i32_w]
    rfl
  refine pure_ (i := 2) (N := some 21) (v := ?_) (a' := ?_) #[true, true, true, false, false, false, false, false, false, false, false, false, false, false, false, false, false, false, false, false, false, false, false, false, false, false, false, false] rfl rfl (by kernel_rfl) (fun _ _ _ h => h) (Or.inl ⟨by rfl, ?_⟩) ?_ ?_
  rotate_left
  · intro w'
    go_simp
    with_reducible rfl
  rotate_left
  · simp only [Act.put, List.setIfInBounds_toArray, List.set_cons_zero, List.set_cons_succ, i64_w, i32_w]
    rfl
  refine pure_ (i := 5) (N := some 24) (v := ?_) (a' := ?_) #[true, true, true, false, false, true, false, false, false, false, false, false, false, false, false, false, false, false, false, false, false, false, false, false, false, false, false, false] rfl rfl (by kernel_rfl) (fun _ _ _ h => h) (Or.inl ⟨by rfl, ?_⟩) ?_ ?_
  rotate_left
  · intro w'
    go_simp
    with_reducible rfl
  rotate_left
  · simp only [Act.put, List.setIfInBounds_toArray, List.set_cons_zero, List.set_cons_succ, i64_w, i32_w]
    rfl
  refine pure_ (i := 6) (N := some 25) (v := ?_) (a' := ?_) #[true, true, true, false, false, true, true, false, false, false, false, false, false, false, false, false, false, false, false, false, false, false, false, false, false, false, false, false] rfl rfl (by kernel_rfl) (fun _ _ _ h => h) (Or.inl ⟨by rfl, ?_⟩) ?_ ?_
  rotate_left
  · intro w'
    go_simp
    with_reducible rfl
  rotate_left
  · simp only [Act.put, List.setIfInBounds_toArray, List.set_cons_zero, List.set_cons_succ, i64_w, i32_w]
    rfl
  refine pure_ (i := 7) (N := some 26) (v := ?_) (a' := ?_) #[true, true, true, false, false, true, true, true, false, false, false, false, false, false, false, false, false, false, false, false, false, false, false, false, false, false, false, false] rfl rfl (by kernel_rfl) (fun _ _ _ h => h) (Or.inl ⟨by rfl, ?_⟩) ?_ ?_
  rotate_left
  · intro w'
    go_simp
    with_reducible rfl
  rotate_left
  · simp only [Act.put, List.setIfInBounds_toArray, List.set_cons_zero, List.set_cons_succ, i64_w, i32_w]
    rfl
  refine pure_ (i := 10) (N := some 29) (v := ?_) (a' := ?_) #[true, true, true, false, false, true, true, true, false, false, true, false, false, false, false, false, false, false, false, false, false, false, false, false, false, false, false, false] rfl rfl (by kernel_rfl) (fun _ _ _ h => h) (Or.inl ⟨by rfl, ?_⟩) ?_ ?_
  rotate_left
  · intro w'
    go_simp
    with_reducible rfl
  rotate_left
  · simp only [Act.put, List.setIfInBounds_toArray, List.set_cons_zero, List.set_cons_succ, i64_w, i32_w]
    rfl
  refine pure_ (i := 11) (N := some 30) (v := ?_) (a' := ?_) #[true, true, true, false, false, true, true, true, false, false, true, true, false, false, false, false, false, false, false, false, false, false, false, false, false, false, false, false] rfl rfl (by kernel_rfl) (fun _ _ _ h => h) (Or.inl ⟨by rfl, ?_⟩) ?_ ?_
  rotate_left
  · intro w'
    go_simp
    with_reducible rfl
  rotate_left
  · simp only [Act.put, List.setIfInBounds_toArray, List.set_cons_zero, List.set_cons_succ, i64_w, i32_w]
    rfl
  refine pure_ (i := 12) (N := some 31) (v := ?_) (a' := ?_) #[true, true, true, false, false, true, true, true, false, false, true, true, true, false, false, false, false, false, false, false, false, false, false, false, false, false, false, false] rfl rfl (by kernel_rfl) (fun _ _ _ h => h) (Or.inl ⟨by rfl, ?_⟩) ?_ ?_
  rotate_left
  · intro w'
    go_simp
    with_reducible rfl
  rotate_left
  · simp only [Act.put, List.setIfInBounds_toArray, List.set_cons_zero, List.set_cons_succ, i64_w, i32_w]
    rfl
  refine pure_ (i := 15) (N := some 34) (v := ?_) (a' := ?_) #[true, true, true, false, false, true, true, true, false, false, true, true, true, false, false, true, false, false, false, false, false, false, false, false, false, false, false, false] rfl rfl (by kernel_rfl) (fun _ _ _ h => h) (Or.inl ⟨by rfl, ?_⟩) ?_ ?_
  rotate_left
  · intro w'
    go_simp
    with_reducible rfl
  rotate_left
  · simp only [Act.put, List.setIfInBounds_toArray, List.set_cons_zero, List.set_cons_succ, i64_w, i32_w]
    rfl
  refine pure_ (i := 16) (N := some 35) (v := ?_) (a' := ?_) #[true, true, true, false, false, true, true, true, false, false, true, true, true, false, false, true, true, false, false, false, false, false, false, false, false, false, false, false] rfl rfl (by kernel_rfl) (fun _ _ _ h => h) (Or.inl ⟨by rfl, ?_⟩) ?_ ?_
  rotate_left
  · intro w'
    go_simp
    with_reducible rfl
  rotate_left
  · simp only [Act.put, List.setIfInBounds_toArray, List.set_cons_zero, List.set_cons_succ, i64_w, i32_w]
    rfl
  refine pure_ (i := 17) (N := some 36) (v := ?_) (a' := ?_) #[true, true, true, false, false, true, true, true, false, false, true, true, true, false, false, true, true, true, false, false, false, false, false, false, false, false, false, false] rfl rfl (by kernel_rfl) (fun _ _ _ h => h) (Or.inl ⟨by rfl, ?_⟩) ?_ ?_
  rotate_left
  · intro w'
    go_simp
    with_reducible rfl
  rotate_left
  · simp only [Act.put, List.setIfInBounds_toArray, List.set_cons_zero, List.set_cons_succ, i64_w, i32_w]
    rfl
  refine pure_ (i := 20) (N := some 39) (v := ?_) (a' := ?_) #[true, true, true, false, false, true, true, true, false, false, true, true, true, false, false, true, true, true, false, false, true, false, false, false, false, false, false, false] rfl rfl (by kernel_rfl) (fun _ _ _ h => h) (Or.inl ⟨by rfl, ?_⟩) ?_ ?_
  rotate_left
  · intro w'
    go_simp
    with_reducible rfl
  rotate_left
  · simp only [Act.put, List.setIfInBounds_toArray, List.set_cons_zero, List.set_cons_succ, i64_w, i32_w]
    rfl
  refine pure_ (i := 21) (N := some 40) (v := ?_) (a' := ?_) #[true, true, true, false, false, true, true, true, false, false, true, true, true, false, false, true, true, true, false, false, true, true, false, false, false, false, false, false] rfl rfl (by kernel_rfl) (fun _ _ _ h => h) (Or.inl ⟨by rfl, ?_⟩) ?_ ?_
  rotate_left
  · intro w'
    go_simp
    with_reducible rfl
  rotate_left
  · simp only [Act.put, List.setIfInBounds_toArray, List.set_cons_zero, List.set_cons_succ, i64_w, i32_w]
    rfl
  refine pure_ (i := 22) (N := some 41) (v := ?_) (a' := ?_) #[true, true, true, false, false, true, true, true, false, false, true, true, true, false, false, true, true, true, false, false, true, true, true, false, false, false, false, false] rfl rfl (by kernel_rfl) (fun _ _ _ h => h) (Or.inl ⟨by rfl, ?_⟩) ?_ ?_
  rotate_left
  · intro w'
    go_simp
    with_reducible rfl
  rotate_left
  · simp only [Act.put, List.setIfInBounds_toArray, List.set_cons_zero, List.set_cons_succ, i64_w, i32_w]
    rfl
  refine take_ (i := 3) (N := some 22) (v := ?_) (a' := ?_) #[true, true, true, true, false, true, true, true, false, false, true, true, true, false, false, true, true, true, false, false, true, true, true, false, false, false, false, false] rfl rfl (by kernel_rfl) (fun _ _ _ h => h) (Or.inl ⟨by rfl, ?_⟩) hHeld ?_ ?_
  rotate_left
  · rintro w' ⟨s0, s1, s2, s3, s4⟩
    go_simp
    with_reducible rfl
  rotate_left
  · simp only [Act.put, List.setIfInBounds_toArray, List.set_cons_zero, List.set_cons_succ, i64_w, i32_w]
    rfl
  refine take_ (i := 8) (N := some 27) (v := ?_) (a' := ?_) #[true, true, true, true, false, true, true, true, true, false, true, true, true, false, false, true, true, true, false, false, true, true, true, false, false, false, false, false] rfl rfl (by kernel_rfl) (fun _ _ _ h => h) (Or.inl ⟨by rfl, ?_⟩) hHeld ?_ ?_
  rotate_left
  · rintro w' ⟨s0, s1, s2, s3, s4⟩
    go_simp
    with_reducible rfl
  rotate_left
  · simp only [Act.put, List.setIfInBounds_toArray, List.set_cons_zero, List.set_cons_succ, i64_w, i32_w]
    rfl
  refine take_ (i := 13) (N := some 32) (v := ?_) (a' := ?_) #[true, true, true, true, false, true, true, true, true, false, true, true, true, true, false, true, true, true, false, false, true, true, true, false, false, false, false, false] rfl rfl (by kernel_rfl) (fun _ _ _ h => h) (Or.inl ⟨by rfl, ?_⟩) hHeld ?_ ?_
  rotate_left
  · rintro w' ⟨s0, s1, s2, s3, s4⟩
    go_simp
    with_reducible rfl
  rotate_left
  · simp only [Act.put, List.setIfInBounds_toArray, List.set_cons_zero, List.set_cons_succ, i64_w, i32_w]
    rfl
  refine take_ (i := 18) (N := some 37) (v := ?_) (a' := ?_) #[true, true, true, true, false, true, true, true, true, false, true, true, true, true, false, true, true, true, true, false, true, true, true, false, false, false, false, false] rfl rfl (by kernel_rfl) (fun _ _ _ h => h) (Or.inl ⟨by rfl, ?_⟩) hHeld ?_ ?_
  rotate_left
  · rintro w' ⟨s0, s1, s2, s3, s4⟩
    go_simp
    with_reducible rfl
  rotate_left
  · simp only [Act.put, List.setIfInBounds_toArray, List.set_cons_zero, List.set_cons_succ, i64_w, i32_w]
    rfl
  refine take_ (i := 23) (N := some 42) (v := ?_) (a' := ?_) #[true, true, true, true, false, true, true, true, true, false, true, true, true, true, false, true, true, true, true, false, true, true, true, true, false, false, false, false] rfl rfl (by kernel_rfl) (fun _ _ _ h => h) (Or.inl ⟨by rfl, ?_⟩) hHeld ?_ ?_
  rotate_left
  · rintro w' ⟨s0, s1, s2, s3, s4⟩
    go_simp
    with_reducible rfl
  rotate_left
  · simp only [Act.put, List.setIfInBounds_toArray, List.set_cons_zero, List.set_cons_succ, i64_w, i32_w]
    rfl
  refine one_ (i := 4) (N := some 23) #[true, true, true, true, true, true, true, true, true, false, true, true, true, true, false, true, true, true, true, false, true, true, true, true, false, false, false, false] rfl rfl (by kernel_rfl) (by decide) (fun K hK => ?_)
  refine goes_ Try.func29 (by kernel_rfl) rfl #[pv bs (F x 1)] (by rfl) rfl rfl (by (try simp only [List.map_toArray, List.map_cons, List.map_nil]); first | done | rfl) ?_
  refine (number _ base bs F HD.out.gw (F x 1) (HD.out.gw.rng x 1 HX.out.1 HX.out.2)).mono ?_
  rintro e w9 ⟨rfl, hw⟩
  refine ⟨_, rfl, ?_⟩
  rw [hw]
  clear hw w9
  refine hK.out _ _ ⟨e1, e2, e3, e4, e5⟩ (fun hHeld => ?_)
  clear hK K
  refine norm_ (a' := ?_) ?_ ?_
  rotate_left
  · show Act.put _ (some 23) _ = _
    simp only [Act.put, List.setIfInBounds_toArray, List.set_cons_zero, List.set_cons_succ, i64_w, i32_w]
    rfl
  refine one_ (i := 9) (N := some 28) #[true, true, true, true, true, true, true, true, true, true, true, true, true, true, false, true, true, true, true, false, true, true, true, true, false, false, false, false] rfl rfl (by kernel_rfl) (by decide) (fun K hK => ?_)
  refine goes_ Try.func29 (by kernel_rfl) rfl #[pv bs (F x 2)] (by rfl) rfl rfl (by (try simp only [List.map_toArray, List.map_cons, List.map_nil]); first | done | rfl) ?_
  refine (number _ base bs F HD.out.gw (F x 2) (HD.out.gw.rng x 2 HX.out.1 HX.out.2)).mono ?_
  rintro e w9 ⟨rfl, hw⟩
  refine ⟨_, rfl, ?_⟩
  rw [hw]
  clear hw w9
  refine hK.out _ _ ⟨e1, e2, e3, e4, e5⟩ (fun hHeld => ?_)
  clear hK K
  refine norm_ (a' := ?_) ?_ ?_
  rotate_left
  · show Act.put _ (some 28) _ = _
    simp only [Act.put, List.setIfInBounds_toArray, List.set_cons_zero, List.set_cons_succ, i64_w, i32_w]
    rfl
  refine one_ (i := 14) (N := some 33) #[true, true, true, true, true, true, true, true, true, true, true, true, true, true, true, true, true, true, true, false, true, true, true, true, false, false, false, false] rfl rfl (by kernel_rfl) (by decide) (fun K hK => ?_)
  refine goes_ Try.func29 (by kernel_rfl) rfl #[pv bs (F x 3)] (by rfl) rfl rfl (by (try simp only [List.map_toArray, List.map_cons, List.map_nil]); first | done | rfl) ?_
  refine (number _ base bs F HD.out.gw (F x 3) (HD.out.gw.rng x 3 HX.out.1 HX.out.2)).mono ?_
  rintro e w9 ⟨rfl, hw⟩
  refine ⟨_, rfl, ?_⟩
  rw [hw]
  clear hw w9
  refine hK.out _ _ ⟨e1, e2, e3, e4, e5⟩ (fun hHeld => ?_)
  clear hK K
  refine norm_ (a' := ?_) ?_ ?_
  rotate_left
  · show Act.put _ (some 33) _ = _
    simp only [Act.put, List.setIfInBounds_toArray, List.set_cons_zero, List.set_cons_succ, i64_w, i32_w]
    rfl
  refine one_ (i := 19) (N := some 38) #[true, true, true, true, true, true, true, true, true, true, true, true, true, true, true, true, true, true, true, true, true, true, true, true, false, false, false, false] rfl rfl (by kernel_rfl) (by decide) (fun K hK => ?_)
  refine goes_ Try.func29 (by kernel_rfl) rfl #[pv bs (F x 4)] (by rfl) rfl rfl (by (try simp only [List.map_toArray, List.map_cons, List.map_nil]); first | done | rfl) ?_
  refine (number _ base bs F HD.out.gw (F x 4) (HD.out.gw.rng x 4 HX.out.1 HX.out.2)).mono ?_
  rintro e w9 ⟨rfl, hw⟩
  refine ⟨_, rfl, ?_⟩
  rw [hw]
  clear hw w9
  refine hK.out _ _ ⟨e1, e2, e3, e4, e5⟩ (fun hHeld => ?_)
  clear hK K
  refine norm_ (a' := ?_) ?_ ?_
  rotate_left
  · show Act.put _ (some 38) _ = _
    simp only [Act.put, List.setIfInBounds_toArray, List.set_cons_zero, List.set_cons_succ, i64_w, i32_w]
    rfl
  refine one_ (i := 24) (N := some 43) #[true, true, true, true, true, true, true, true, true, true, true, true, true, true, true, true, true, true, true, true, true, true, true, true, true, false, false, false] rfl rfl (by kernel_rfl) (by decide) (fun K hK => ?_)
  refine goes_ Try.func29 (by kernel_rfl) rfl #[pv bs (F x 5)] (by rfl) rfl rfl (by (try simp only [List.map_toArray, List.map_cons, List.map_nil]); first | done | rfl) ?_
  refine (number _ base bs F HD.out.gw (F x 5) (HD.out.gw.rng x 5 HX.out.1 HX.out.2)).mono ?_
  rintro e w9 ⟨rfl, hw⟩
  refine ⟨_, rfl, ?_⟩
  rw [hw]
  clear hw w9
  refine hK.out _ _ ⟨e1, e2, e3, e4, e5⟩ (fun hHeld => ?_)
  clear hK K
  refine norm_ (a' := ?_) ?_ ?_
  rotate_left
  · show Act.put _ (some 43) _ = _
    simp only [Act.put, List.setIfInBounds_toArray, List.set_cons_zero, List.set_cons_succ, i64_w, i32_w]
    rfl
  refine pure_ (i := 25) (N := some 44) (v := ?_) (a' := ?_) #[true, true, true, true, true, true, true, true, true, true, true, true, true, true, true, true, true, true, true, true, true, true, true, true, true, true, false, false] rfl rfl (by kernel_rfl) (fun _ _ _ h => h) (Or.inl ⟨by rfl, ?_⟩) ?_ ?_
  rotate_left
  · intro w'
    go_simp
    with_reducible rfl
  rotate_left
  · simp only [Act.put, List.setIfInBounds_toArray, List.set_cons_zero, List.set_cons_succ, i64_w, i32_w]
    rfl
  refine last_ (i := 26) (N := none) #[true, true, true, true, true, true, true, true, true, true, true, true, true, true, true, true, true, true, true, true, true, true, true, true, true, true, true, false] rfl rfl (by kernel_rfl) (by decide) (fun K hK => ?_)
  have X2 := X1.out
  have y0 : wd.cell? ⟨W.heap.size, 0, none⟩ = some (.int .i64 0) := (blk_cell X2 0).trans rfl
  have y1 : wd.cell? ⟨W.heap.size, 1, none⟩ = some (.int .i64 0) := (blk_cell X2 1).trans rfl
  have y2 : wd.cell? ⟨W.heap.size, 2, none⟩ = some (.int .i64 0) := (blk_cell X2 2).trans rfl
  have y3 : wd.cell? ⟨W.heap.size, 3, none⟩ = some (.int .i64 0) := (blk_cell X2 3).trans rfl
  have y4 : wd.cell? ⟨W.heap.size, 4, none⟩ = some (.int .i64 0) := (blk_cell X2 4).trans rfl
  have z0 := blk_frozen X2 0
  have z1 := blk_frozen X2 1
  have z2 := blk_frozen X2 2
  have z3 := blk_frozen X2 3
  have z4 := blk_frozen X2 4
  refine skip_ (w1 := ((((wd.setCell ⟨W.heap.size, 0, none⟩ (.int .i64 (num (F x 1)))).setCell ⟨W.heap.size, 1, none⟩ (.int .i64 (num (F x 2)))).setCell ⟨W.heap.size, 2, none⟩ (.int .i64 (num (F x 3)))).setCell ⟨W.heap.size, 3, none⟩ (.int .i64 (num (F x 4)))).setCell ⟨W.heap.size, 4, none⟩ (.int .i64 (num (F x 5)))) (by rfl) rfl ?_ ?_
  · first | (go_simp; done) | (go_simp; rfl)
  refine hK.out _ _ ?_
  clear hK K
  refine pure_ (i := 27) (N := some 5) (v := ?_) (a' := ?_) #[true, true, true, true, true, true, true, true, true, true, true, true, true, true, true, true, true, true, true, true, true, true, true, true, true, true, true, true] rfl rfl (by kernel_rfl) (fun _ _ _ h => h) (Or.inl ⟨by rfl, ?_⟩) ?_ ?_
  rotate_left
  · intro w'
    go_simp
    with_reducible rfl
  rotate_left
  · simp only [Act.put, List.setIfInBounds_toArray, List.set_cons_zero, List.set_cons_succ, i64_w, i32_w]
    rfl
  refine done_ (by kernel_rfl) ?_
  obtain ⟨w2, hw2⟩ : ∃ w2, ((((wd.setCell ⟨W.heap.size, 0, none⟩ (.int .i64 (num (F x 1)))).setCell ⟨W.heap.size, 1, none⟩ (.int .i64 (num (F x 2)))).setCell ⟨W.heap.size, 2, none⟩ (.int .i64 (num (F x 3)))).setCell ⟨W.heap.size, 3, none⟩ (.int .i64 (num (F x 4)))).setCell ⟨W.heap.size, 4, none⟩ (.int .i64 (num (F x 5))) = w2 := ⟨_, rfl⟩
  rw [hw2]
  have X2 := show w2.heap[W.heap.size]? = some (.cells #[.int .i64 (num (F x 1)), .int .i64 (num (F x 2)), .int .i64 (num (F x 3)), .int .i64 (num (F x 4)), .int .i64 (num (F x 5))] 27 (0, 0)) from hw2 ▸ blk_put (blk_put (blk_put (blk_put (blk_put X1.out 0 _ rfl) 1 _ rfl) 2 _ rfl) 3 _ rfl) 4 _ rfl
  have B2 := Aside0.mk (show Below W.heap.size W w2 from hw2 ▸ ((((BD.out.setCell (p := ⟨W.heap.size, 0, none⟩) (Nat.le_refl _) _).setCell (p := ⟨W.heap.size, 1, none⟩) (Nat.le_refl _) _).setCell (p := ⟨W.heap.size, 2, none⟩) (Nat.le_refl _) _).setCell (p := ⟨W.heap.size, 3, none⟩) (Nat.le_refl _) _).setCell (p := ⟨W.heap.size, 4, none⟩) (Nat.le_refl _) _)
  clear hw2 e1 e2 e3 e4 e5
  obtain ⟨f1, hf1⟩ : ∃ f, num (F x 1) = f := ⟨_, rfl⟩
  obtain ⟨f2, hf2⟩ : ∃ f, num (F x 2) = f := ⟨_, rfl⟩
  obtain ⟨f3, hf3⟩ : ∃ f, num (F x 3) = f := ⟨_, rfl⟩
  obtain ⟨f4, hf4⟩ : ∃ f, num (F x 4) = f := ⟨_, rfl⟩
  obtain ⟨f5, hf5⟩ : ∃ f, num (F x 5) = f := ⟨_, rfl⟩
  rw [hf1, hf2, hf3, hf4, hf5] at X2
  have y0 : w2.cell? ⟨W.heap.size, 0, none⟩ = some (.int .i64 f1) := (blk_cell X2 0).trans rfl
  have y1 : w2.cell? ⟨W.heap.size, 1, none⟩ = some (.int .i64 f2) := (blk_cell X2 1).trans rfl
  have y2 : w2.cell? ⟨W.heap.size, 2, none⟩ = some (.int .i64 f3) := (blk_cell X2 2).trans rfl
  have y3 : w2.cell? ⟨W.heap.size, 3, none⟩ = some (.int .i64 f4) := (blk_cell X2 3).trans rfl
  have y4 : w2.cell? ⟨W.heap.size, 4, none⟩ = some (.int .i64 f5) := (blk_cell X2 4).trans rfl
  have HF := Aside0.mk (And.intro hf1 (And.intro hf2 (And.intro hf3 (And.intro hf4 hf5))))
  have X2 := Aside0.mk X2
  clear hf1 hf2 hf3 hf4 hf5
  go_wp2_with fail
  refine bodyPost_ret (results_ct rfl _ _ W.heap.size 27 #[.int .i64 f1, .int .i64 f2, .int .i64 f3, .int .i64 f4, .int .i64 f5] (0, 0) _ rfl X2.out Try.underlying27 rfl (by kernel_rfl)) rfl ?_
  refine ⟨?_, B2.out⟩
  rw [HF.out.1, HF.out.2.1, HF.out.2.2.1, HF.out.2.2.2.1, HF.out.2.2.2.2]
  rfl
end Go.Proofs.Ytgamhkhninogeaa.G
