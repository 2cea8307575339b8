/- The index of labels walked: keys.New, and Index's Put, Get, Drop and Len; keys.Of. -/
import Derived.Test.YtmndedahkodibaaH6
namespace Go.Proofs.Ytmndedahkodibaa.G
open Go.RowKit Go.Proofs.YtmndedahkodibaaW.PrintWords Go.Proofs.YtmndedahkodibaaW.PrintLast Go.Proofs.YtmndedahkodibaaW.PrintMore
set_option linter.unusedVariables false
set_option linter.unusedSimpArgs false

theorem upd_none {D : S28 → Option Int} {k : S28} (h : D k = none) : upd D k none = D := by
  funext k'
  by_cases e : k' = k
  · subst e; rw [upd_same, h]
  · rw [upd_other _ _ e]
/-- What putting makes of a map. -/
noncomputable def putD (D : S28 → Option Int) (k : S28) (v : Int) : S28 → Option Int := if (D k).isNone then upd D k (some v) else D
theorem putU (W : World) (base p n : Nat) (D : S28 → Option Int) (k : S28) (v : Int) (hk : Fit k) (hnb : n ≤ 1073741824) (hbase : base ≤ W.heap.size) (h : IX W base p n D) :
    Calls Try.prog 23 #[.pointer (some ⟨p, 0, none⟩), .agg #[.string k.f0, .string k.f1, .int .i64 k.f2], .int .i64 v] W fun e w' => e = .returned (.bool (D k).isNone) ∧ Below base W w' ∧ IX w' base p (if (D k).isNone then n + 1 else n) (putD D k v) := by
  refine (put W base p n D k v hk hnb hbase h).mono ?_
  rintro e w' ⟨hb, ⟨h1, rfl, hi⟩ | ⟨h1, rfl, hi⟩⟩
  · cases hd : D k with
    | none => exact absurd hd h1
    | some x => 
      refine ⟨rfl, hb, ?_⟩
      unfold putD
      rw [hd]
      exact hi
  · unfold putD
    rw [h1]
    exact ⟨rfl, hb, hi⟩
theorem dropU (W : World) (base p n : Nat) (D : S28 → Option Int) (k : S28) (hk : Fit k) (hnb : n ≤ 1073741824) (hbase : base ≤ W.heap.size) (h : IX W base p n D) :
    Calls Try.prog 24 #[.pointer (some ⟨p, 0, none⟩), .agg #[.string k.f0, .string k.f1, .int .i64 k.f2]] W fun e w' => e = .returned (.bool (D k).isSome) ∧ Below base W w' ∧ IX w' base p (if (D k).isSome then n - 1 else n) (upd D k none) := by
  refine (drop W base p n D k hk hnb hbase h).mono ?_
  rintro e w' ⟨hb, ⟨h1, rfl, hi⟩ | ⟨h1, rfl, hi⟩⟩
  · rw [upd_none h1, h1]
    exact ⟨rfl, hb, hi⟩
  · cases hd : D k with
    | none => exact absurd hd h1
    | some x => exact ⟨rfl, hb, hi⟩

set_option maxHeartbeats 4000000 in
set_option maxRecDepth 100000 in
theorem Index_Put (W : World) (base p n : Nat) (D : S28 → Option Int) (k : S28) (v : Int) (hk : Fit k) (hnb : n ≤ 1073741824) (hbase : base ≤ W.heap.size) (h : IX W base p n D) :
    Calls Try.prog 9 #[.pointer (some ⟨p, 0, none⟩), .agg #[.string k.f0, .string k.f1, .int .i64 k.f2], .int .i64 v] W fun e w' => e = .returned (.bool (D k).isNone) ∧ Below base W w' ∧ IX w' base p (if (D k).isNone then n + 1 else n) (putD D k v) := by
  have HH := Aside0.mk (And.intro hk (And.intro hnb hbase))
  have HI := Aside0.mk h
  clear hk hnb hbase h
  obtain ⟨b, hbb⟩ : ∃ b, (D k).isNone = b := ⟨_, rfl⟩
  obtain ⟨n', hnn⟩ : ∃ n', (if (D k).isNone then n + 1 else n) = n' := ⟨_, rfl⟩
  rw [hbb] at hnn
  have HBB := Aside0.mk (And.intro hbb hnn)
  rw [hbb, hnn]
  clear hbb hnn
  go_enter Try.func9, Try.ntmps9
  go_upto_region 1 with ((with_reducible refine gate_dst (N := 4) rfl ?_); refine box_event ?hg (N := 4) ?hd (cs := #[.string k.f0, .string k.f1, .int .i64 k.f2]) (t := 28) ?hr ?_; (case hd => rfl); (case hg => rfl); (case hr => first | (go_simp; done) | (go_simp; rfl)); intro gb hg w1 hbox hb; have G1 := Aside0.mk hg; have B1 := Aside0.mk hb; have c0 : w1.cell? ⟨gb, 0, none⟩ = some (.string k.f0) := (blk_cell hbox 0).trans rfl; have c1 : w1.cell? ⟨gb, 1, none⟩ = some (.string k.f1) := (blk_cell hbox 1).trans rfl; have c2 : w1.cell? ⟨gb, 2, none⟩ = some (.int .i64 k.f2) := (blk_cell hbox 2).trans rfl; clear hbox hb hg)
  refine start_ (n := 11) (S := (fun w' => w'.cell? ⟨gb, 0, none⟩ = some (.string k.f0) ∧ w'.cell? ⟨gb, 1, none⟩ = some (.string k.f1) ∧ w'.cell? ⟨gb, 2, none⟩ = some (.int .i64 k.f2))) (ds := [8]) #[false, false, false, false, false, false, false, false, false, false, false] (by kernel_rfl) rfl rfl ?_ ?_
  · exact ⟨c0, c1, c2⟩
  intro hHeld
  refine pure_ (i := 0) (N := some 7) (v := ?_) (a' := ?_) #[true, false, false, false, false, false, false, false, false, false, false] rfl rfl (by kernel_rfl) (fun _ _ _ h => h) (Or.inl ⟨by rfl, ?_⟩) ?_ ?_
  rotate_left
  · intro w'
    go_simp
    with_reducible rfl
  rotate_left
  · simp only [Act.put, List.setIfInBounds_toArray, List.set_cons_zero, List.set_cons_succ, i64_w, i32_w]
    rfl
  refine pure_ (i := 1) (N := some 8) (v := ?_) (a' := ?_) #[true, true, false, false, false, false, false, false, false, false, false] rfl rfl (by kernel_rfl) (fun _ _ _ h => h) (Or.inl ⟨by rfl, ?_⟩) ?_ ?_
  rotate_left
  · intro w'
    go_simp
    with_reducible rfl
  rotate_left
  · simp only [Act.put, List.setIfInBounds_toArray, List.set_cons_zero, List.set_cons_succ, i64_w, i32_w]
    rfl
  refine pure_ (i := 2) (N := some 9) (v := ?_) (a' := ?_) #[true, true, true, false, false, false, false, false, false, false, false] rfl rfl (by kernel_rfl) (fun _ _ _ h => h) (Or.inl ⟨by rfl, ?_⟩) ?_ ?_
  rotate_left
  · intro w'
    go_simp
    with_reducible rfl
  rotate_left
  · simp only [Act.put, List.setIfInBounds_toArray, List.set_cons_zero, List.set_cons_succ, i64_w, i32_w]
    rfl
  refine pure_ (i := 3) (N := some 10) (v := ?_) (a' := ?_) #[true, true, true, true, false, false, false, false, false, false, false] rfl rfl (by kernel_rfl) (fun _ _ _ h => h) (Or.inl ⟨by rfl, ?_⟩) ?_ ?_
  rotate_left
  · intro w'
    go_simp
    with_reducible rfl
  rotate_left
  · simp only [Act.put, List.setIfInBounds_toArray, List.set_cons_zero, List.set_cons_succ, i64_w, i32_w]
    rfl
  refine pure_ (i := 4) (N := some 11) (v := ?_) (a' := ?_) #[true, true, true, true, true, false, false, false, false, false, false] rfl rfl (by kernel_rfl) (fun _ _ _ h => h) (Or.inl ⟨by rfl, ?_⟩) ?_ ?_
  rotate_left
  · intro w'
    go_simp
    with_reducible rfl
  rotate_left
  · simp only [Act.put, List.setIfInBounds_toArray, List.set_cons_zero, List.set_cons_succ, i64_w, i32_w]
    rfl
  refine pure_ (i := 5) (N := some 12) (v := ?_) (a' := ?_) #[true, true, true, true, true, true, false, false, false, false, false] rfl rfl (by kernel_rfl) (fun _ _ _ h => h) (Or.inl ⟨by rfl, ?_⟩) ?_ ?_
  rotate_left
  · intro w'
    go_simp
    with_reducible rfl
  rotate_left
  · simp only [Act.put, List.setIfInBounds_toArray, List.set_cons_zero, List.set_cons_succ, i64_w, i32_w]
    rfl
  refine pure_ (i := 7) (N := some 14) (v := ?_) (a' := ?_) #[true, true, true, true, true, true, false, true, false, false, false] rfl rfl (by kernel_rfl) (fun _ _ _ h => h) (Or.inl ⟨by rfl, ?_⟩) ?_ ?_
  rotate_left
  · intro w'
    go_simp
    with_reducible rfl
  rotate_left
  · simp only [Act.put, List.setIfInBounds_toArray, List.set_cons_zero, List.set_cons_succ, i64_w, i32_w]
    rfl
  refine take_ (i := 6) (N := some 13) (v := ?_) (a' := ?_) #[true, true, true, true, true, true, true, true, false, false, false] rfl rfl (by kernel_rfl) (fun _ _ _ h => h) (Or.inl ⟨by rfl, ?_⟩) hHeld ?_ ?_
  rotate_left
  · rintro w' ⟨s0, s1, s2⟩
    go_simp
    with_reducible rfl
  rotate_left
  · simp only [Act.put, List.setIfInBounds_toArray, List.set_cons_zero, List.set_cons_succ, i64_w, i32_w]
    rfl
  refine last_ (i := 8) (N := some 15) #[true, true, true, true, true, true, true, true, true, false, false] rfl rfl (by kernel_rfl) (by decide) (fun K hK => ?_)
  refine goes_ Try.func23 (by kernel_rfl) rfl #[.pointer (some ⟨p, 0, none⟩), .agg #[.string k.f0, .string k.f1, .int .i64 k.f2], .int .i64 v] (by rfl) rfl rfl (by (try simp only [List.map_toArray, List.map_cons, List.map_nil]); first | done | rfl) ?_
  have B2 := (B1.out.trans (Below.refl _ w1).drew |> fun h => h)
  refine (putU w1.drew base p n D k v HH.out.1 HH.out.2.1 (Nat.le_trans HH.out.2.2 B1.out.size) ((HI.out.below B1.out).below (Below.refl _ w1).drew)).mono ?_
  rintro e W2 ⟨rfl, hb, hi⟩
  rw [HBB.out.1, HBB.out.2] at hi
  refine ⟨_, by rw [HBB.out.1], ?_⟩
  have B3 := Aside0.mk ((B1.out.mono HH.out.2.2).trans (((Below.refl _ w1).drew.mono (Nat.le_trans HH.out.2.2 B1.out.size)).trans hb))
  have I3 := Aside0.mk hi
  clear hb hi
  refine hK.out _ _ ?_
  clear hK K
  refine norm_ (a' := ?_) ?_ ?_
  rotate_left
  · show Act.put _ (some 15) _ = _
    simp only [Act.put, List.setIfInBounds_toArray, List.set_cons_zero, List.set_cons_succ, i64_w, i32_w]
    rfl
  refine pure_ (i := 9) (N := some 16) (v := ?_) (a' := ?_) #[true, true, true, true, true, true, true, true, true, true, false] rfl rfl (by kernel_rfl) (fun _ _ _ h => h) (Or.inl ⟨by rfl, ?_⟩) ?_ ?_
  rotate_left
  · intro w'
    go_simp
    with_reducible rfl
  rotate_left
  · simp only [Act.put, List.setIfInBounds_toArray, List.set_cons_zero, List.set_cons_succ, i64_w, i32_w]
    rfl
  refine pure_ (i := 10) (N := some 6) (v := ?_) (a' := ?_) #[true, true, true, true, true, true, true, true, true, true, true] rfl rfl (by kernel_rfl) (fun _ _ _ h => h) (Or.inl ⟨by rfl, ?_⟩) ?_ ?_
  rotate_left
  · intro w'
    go_simp
    with_reducible rfl
  rotate_left
  · simp only [Act.put, List.setIfInBounds_toArray, List.set_cons_zero, List.set_cons_succ, i64_w, i32_w]
    rfl
  refine done_ (by kernel_rfl) ?_
  go_wp2_with fail
  refine bodyPost_ret (results_tmp rfl _ _ _) rfl ?_
  exact ⟨rfl, B3.out, I3.out⟩

set_option maxHeartbeats 4000000 in
set_option maxRecDepth 100000 in
theorem Index_Drop (W : World) (base p n : Nat) (D : S28 → Option Int) (k : S28) (hk : Fit k) (hnb : n ≤ 1073741824) (hbase : base ≤ W.heap.size) (h : IX W base p n D) :
    Calls Try.prog 11 #[.pointer (some ⟨p, 0, none⟩), .agg #[.string k.f0, .string k.f1, .int .i64 k.f2]] W fun e w' => e = .returned (.bool (D k).isSome) ∧ Below base W w' ∧ IX w' base p (if (D k).isSome then n - 1 else n) (upd D k none) := by
  have HH := Aside0.mk (And.intro hk (And.intro hnb hbase))
  have HI := Aside0.mk h
  clear hk hnb hbase h
  obtain ⟨b, hbb⟩ : ∃ b, (D k).isSome = b := ⟨_, rfl⟩
  obtain ⟨n', hnn⟩ : ∃ n', (if (D k).isSome then n - 1 else n) = n' := ⟨_, rfl⟩
  rw [hbb] at hnn
  have HBB := Aside0.mk (And.intro hbb hnn)
  rw [hbb, hnn]
  clear hbb hnn
  go_enter Try.func11, Try.ntmps11
  go_upto_region 1 with ((with_reducible refine gate_dst (N := 3) rfl ?_); refine box_event ?hg (N := 3) ?hd (cs := #[.string k.f0, .string k.f1, .int .i64 k.f2]) (t := 28) ?hr ?_; (case hd => rfl); (case hg => rfl); (case hr => first | (go_simp; done) | (go_simp; rfl)); intro gb hg w1 hbox hb; have G1 := Aside0.mk hg; have B1 := Aside0.mk hb; have c0 : w1.cell? ⟨gb, 0, none⟩ = some (.string k.f0) := (blk_cell hbox 0).trans rfl; have c1 : w1.cell? ⟨gb, 1, none⟩ = some (.string k.f1) := (blk_cell hbox 1).trans rfl; have c2 : w1.cell? ⟨gb, 2, none⟩ = some (.int .i64 k.f2) := (blk_cell hbox 2).trans rfl; clear hbox hb hg)
  refine start_ (n := 10) (S := (fun w' => w'.cell? ⟨gb, 0, none⟩ = some (.string k.f0) ∧ w'.cell? ⟨gb, 1, none⟩ = some (.string k.f1) ∧ w'.cell? ⟨gb, 2, none⟩ = some (.int .i64 k.f2))) (ds := [7]) #[false, false, false, false, false, false, false, false, false, false] (by kernel_rfl) rfl rfl ?_ ?_
  · exact ⟨c0, c1, c2⟩
  intro hHeld
  refine pure_ (i := 0) (N := some 5) (v := ?_) (a' := ?_) #[true, false, false, false, false, false, false, false, false, false] rfl rfl (by kernel_rfl) (fun _ _ _ h => h) (Or.inl ⟨by rfl, ?_⟩) ?_ ?_
  rotate_left
  · intro w'
    go_simp
    with_reducible rfl
  rotate_left
  · simp only [Act.put, List.setIfInBounds_toArray, List.set_cons_zero, List.set_cons_succ, i64_w, i32_w]
    rfl
  refine pure_ (i := 1) (N := some 6) (v := ?_) (a' := ?_) #[true, true, false, false, false, false, false, false, false, false] rfl rfl (by kernel_rfl) (fun _ _ _ h => h) (Or.inl ⟨by rfl, ?_⟩) ?_ ?_
  rotate_left
  · intro w'
    go_simp
    with_reducible rfl
  rotate_left
  · simp only [Act.put, List.setIfInBounds_toArray, List.set_cons_zero, List.set_cons_succ, i64_w, i32_w]
    rfl
  refine pure_ (i := 2) (N := some 7) (v := ?_) (a' := ?_) #[true, true, true, false, false, false, false, false, false, false] rfl rfl (by kernel_rfl) (fun _ _ _ h => h) (Or.inl ⟨by rfl, ?_⟩) ?_ ?_
  rotate_left
  · intro w'
    go_simp
    with_reducible rfl
  rotate_left
  · simp only [Act.put, List.setIfInBounds_toArray, List.set_cons_zero, List.set_cons_succ, i64_w, i32_w]
    rfl
  refine pure_ (i := 3) (N := some 8) (v := ?_) (a' := ?_) #[true, true, true, true, false, false, false, false, false, false] rfl rfl (by kernel_rfl) (fun _ _ _ h => h) (Or.inl ⟨by rfl, ?_⟩) ?_ ?_
  rotate_left
  · intro w'
    go_simp
    with_reducible rfl
  rotate_left
  · simp only [Act.put, List.setIfInBounds_toArray, List.set_cons_zero, List.set_cons_succ, i64_w, i32_w]
    rfl
  refine pure_ (i := 4) (N := some 9) (v := ?_) (a' := ?_) #[true, true, true, true, true, false, false, false, false, false] rfl rfl (by kernel_rfl) (fun _ _ _ h => h) (Or.inl ⟨by rfl, ?_⟩) ?_ ?_
  rotate_left
  · intro w'
    go_simp
    with_reducible rfl
  rotate_left
  · simp only [Act.put, List.setIfInBounds_toArray, List.set_cons_zero, List.set_cons_succ, i64_w, i32_w]
    rfl
  refine pure_ (i := 5) (N := some 10) (v := ?_) (a' := ?_) #[true, true, true, true, true, true, false, false, false, false] rfl rfl (by kernel_rfl) (fun _ _ _ h => h) (Or.inl ⟨by rfl, ?_⟩) ?_ ?_
  rotate_left
  · intro w'
    go_simp
    with_reducible rfl
  rotate_left
  · simp only [Act.put, List.setIfInBounds_toArray, List.set_cons_zero, List.set_cons_succ, i64_w, i32_w]
    rfl
  refine take_ (i := 6) (N := some 11) (v := ?_) (a' := ?_) #[true, true, true, true, true, true, true, false, false, false] rfl rfl (by kernel_rfl) (fun _ _ _ h => h) (Or.inl ⟨by rfl, ?_⟩) hHeld ?_ ?_
  rotate_left
  · rintro w' ⟨s0, s1, s2⟩
    go_simp
    with_reducible rfl
  rotate_left
  · simp only [Act.put, List.setIfInBounds_toArray, List.set_cons_zero, List.set_cons_succ, i64_w, i32_w]
    rfl
  refine last_ (i := 7) (N := some 12) #[true, true, true, true, true, true, true, true, false, false] rfl rfl (by kernel_rfl) (by decide) (fun K hK => ?_)
  refine goes_ Try.func24 (by kernel_rfl) rfl #[.pointer (some ⟨p, 0, none⟩), .agg #[.string k.f0, .string k.f1, .int .i64 k.f2]] (by rfl) rfl rfl (by (try simp only [List.map_toArray, List.map_cons, List.map_nil]); first | done | rfl) ?_
  refine (dropU w1.drew base p n D k HH.out.1 HH.out.2.1 (Nat.le_trans HH.out.2.2 B1.out.size) ((HI.out.below B1.out).below (Below.refl _ w1).drew)).mono ?_
  rintro e W2 ⟨rfl, hb, hi⟩
  rw [HBB.out.1, HBB.out.2] at hi
  refine ⟨_, by rw [HBB.out.1], ?_⟩
  have B3 := Aside0.mk ((B1.out.mono HH.out.2.2).trans (((Below.refl _ w1).drew.mono (Nat.le_trans HH.out.2.2 B1.out.size)).trans hb))
  have I3 := Aside0.mk hi
  clear hb hi
  refine hK.out _ _ ?_
  clear hK K
  refine norm_ (a' := ?_) ?_ ?_
  rotate_left
  · show Act.put _ (some 12) _ = _
    simp only [Act.put, List.setIfInBounds_toArray, List.set_cons_zero, List.set_cons_succ, i64_w, i32_w]
    rfl
  refine pure_ (i := 8) (N := some 13) (v := ?_) (a' := ?_) #[true, true, true, true, true, true, true, true, true, false] rfl rfl (by kernel_rfl) (fun _ _ _ h => h) (Or.inl ⟨by rfl, ?_⟩) ?_ ?_
  rotate_left
  · intro w'
    go_simp
    with_reducible rfl
  rotate_left
  · simp only [Act.put, List.setIfInBounds_toArray, List.set_cons_zero, List.set_cons_succ, i64_w, i32_w]
    rfl
  refine pure_ (i := 9) (N := some 4) (v := ?_) (a' := ?_) #[true, true, true, true, true, true, true, true, true, true] rfl rfl (by kernel_rfl) (fun _ _ _ h => h) (Or.inl ⟨by rfl, ?_⟩) ?_ ?_
  rotate_left
  · intro w'
    go_simp
    with_reducible rfl
  rotate_left
  · simp only [Act.put, List.setIfInBounds_toArray, List.set_cons_zero, List.set_cons_succ, i64_w, i32_w]
    rfl
  refine done_ (by kernel_rfl) ?_
  go_wp2_with fail
  refine bodyPost_ret (results_tmp rfl _ _ _) rfl ?_
  exact ⟨rfl, B3.out, I3.out⟩

set_option maxHeartbeats 4000000 in
set_option maxRecDepth 100000 in
theorem Index_Get (W : World) (base p n : Nat) (D : S28 → Option Int) (k : S28) (hk : Fit k) (h : IX W base p n D) :
    Calls Try.prog 12 #[.pointer (some ⟨p, 0, none⟩), .agg #[.string k.f0, .string k.f1, .int .i64 k.f2]] W fun e w' => e = .returned (.tuple #[.int .i64 ((D k).getD 0), .bool (D k).isSome]) ∧ Below W.heap.size W w' := by
  have HH := Aside0.mk hk
  have HI := Aside0.mk h
  clear hk h
  go_enter Try.func12, Try.ntmps12
  go_upto_region 3 with ((with_reducible refine gate_dst (N := 3) rfl ?_); refine box_event ?hg (N := 3) ?hd (cs := #[.string k.f0, .string k.f1, .int .i64 k.f2]) (t := 28) ?hr ?_; (case hd => rfl); (case hg => rfl); (case hr => first | (go_simp; done) | (go_simp; rfl)); intro gb hg w1 hbox hb; have G1 := Aside0.mk hg; have B1 := Aside0.mk hb; have c0 : w1.cell? ⟨gb, 0, none⟩ = some (.string k.f0) := (blk_cell hbox 0).trans rfl; have c1 : w1.cell? ⟨gb, 1, none⟩ = some (.string k.f1) := (blk_cell hbox 1).trans rfl; have c2 : w1.cell? ⟨gb, 2, none⟩ = some (.int .i64 k.f2) := (blk_cell hbox 2).trans rfl; clear hbox hb hg)
  refine start_ (n := 9) (S := (fun w' => w'.cell? ⟨gb, 0, none⟩ = some (.string k.f0) ∧ w'.cell? ⟨gb, 1, none⟩ = some (.string k.f1) ∧ w'.cell? ⟨gb, 2, none⟩ = some (.int .i64 k.f2))) (ds := [4]) #[false, false, false, false, false, false, false, false, false] (by kernel_rfl) rfl rfl ?_ ?_
  · exact ⟨c0, c1, c2⟩
  intro hHeld
  refine pure_ (i := 0) (N := some 8) (v := ?_) (a' := ?_) #[true, false, false, false, false, false, false, false, false] rfl rfl (by kernel_rfl) (fun _ _ _ h => h) (Or.inl ⟨by rfl, ?_⟩) ?_ ?_
  rotate_left
  · intro w'
    go_simp
    with_reducible rfl
  rotate_left
  · simp only [Act.put, List.setIfInBounds_toArray, List.set_cons_zero, List.set_cons_succ, i64_w, i32_w]
    rfl
  refine pure_ (i := 1) (N := some 9) (v := ?_) (a' := ?_) #[true, true, false, false, false, false, false, false, false] rfl rfl (by kernel_rfl) (fun _ _ _ h => h) (Or.inl ⟨by rfl, ?_⟩) ?_ ?_
  rotate_left
  · intro w'
    go_simp
    with_reducible rfl
  rotate_left
  · simp only [Act.put, List.setIfInBounds_toArray, List.set_cons_zero, List.set_cons_succ, i64_w, i32_w]
    rfl
  refine pure_ (i := 2) (N := some 10) (v := ?_) (a' := ?_) #[true, true, true, false, false, false, false, false, false] rfl rfl (by kernel_rfl) (fun _ _ _ h => h) (Or.inl ⟨by rfl, ?_⟩) ?_ ?_
  rotate_left
  · intro w'
    go_simp
    with_reducible rfl
  rotate_left
  · simp only [Act.put, List.setIfInBounds_toArray, List.set_cons_zero, List.set_cons_succ, i64_w, i32_w]
    rfl
  refine take_ (i := 3) (N := some 11) (v := ?_) (a' := ?_) #[true, true, true, true, false, false, false, false, false] rfl rfl (by kernel_rfl) (fun _ _ _ h => h) (Or.inl ⟨by rfl, ?_⟩) hHeld ?_ ?_
  rotate_left
  · rintro w' ⟨s0, s1, s2⟩
    go_simp
    with_reducible rfl
  rotate_left
  · simp only [Act.put, List.setIfInBounds_toArray, List.set_cons_zero, List.set_cons_succ, i64_w, i32_w]
    rfl
  refine last_ (i := 4) (N := some 12) #[true, true, true, true, true, false, false, false, false] rfl rfl (by kernel_rfl) (by decide) (fun K hK => ?_)
  refine goes_ Try.func25 (by kernel_rfl) rfl #[.pointer (some ⟨p, 0, none⟩), .agg #[.string k.f0, .string k.f1, .int .i64 k.f2]] (by rfl) rfl rfl (by (try simp only [List.map_toArray, List.map_cons, List.map_nil]); first | done | rfl) ?_
  refine (get w1.drew base p n D k HH.out ((HI.out.below B1.out).below (Below.refl _ w1).drew)).mono ?_
  rintro e W2 ⟨hb, rfl⟩
  refine ⟨_, rfl, ?_⟩
  have B3 := Aside0.mk (B1.out.trans (((Below.refl _ w1).drew).trans (hb.mono B1.out.size)))
  clear hb
  refine hK.out _ _ ?_
  clear hK K
  refine norm_ (a' := ?_) ?_ ?_
  rotate_left
  · show Act.put _ (some 12) _ = _
    simp only [Act.put, List.setIfInBounds_toArray, List.set_cons_zero, List.set_cons_succ, i64_w, i32_w]
    rfl
  refine pure_ (i := 5) (N := some 13) (v := ?_) (a' := ?_) #[true, true, true, true, true, true, false, false, false] rfl rfl (by kernel_rfl) (fun _ _ _ h => h) (Or.inl ⟨by rfl, ?_⟩) ?_ ?_
  rotate_left
  · intro w'
    go_simp
    with_reducible rfl
  rotate_left
  · simp only [Act.put, List.setIfInBounds_toArray, List.set_cons_zero, List.set_cons_succ, i64_w, i32_w]
    rfl
  refine pure_ (i := 6) (N := some 14) (v := ?_) (a' := ?_) #[true, true, true, true, true, true, true, false, false] rfl rfl (by kernel_rfl) (fun _ _ _ h => h) (Or.inl ⟨by rfl, ?_⟩) ?_ ?_
  rotate_left
  · intro w'
    go_simp
    with_reducible rfl
  rotate_left
  · simp only [Act.put, List.setIfInBounds_toArray, List.set_cons_zero, List.set_cons_succ, i64_w, i32_w]
    rfl
  refine pure_ (i := 7) (N := some 4) (v := ?_) (a' := ?_) #[true, true, true, true, true, true, true, true, false] rfl rfl (by kernel_rfl) (fun _ _ _ h => h) (Or.inl ⟨by rfl, ?_⟩) ?_ ?_
  rotate_left
  · intro w'
    go_simp
    with_reducible rfl
  rotate_left
  · simp only [Act.put, List.setIfInBounds_toArray, List.set_cons_zero, List.set_cons_succ, i64_w, i32_w]
    rfl
  refine pure_ (i := 8) (N := some 5) (v := ?_) (a' := ?_) #[true, true, true, true, true, true, true, true, true] rfl rfl (by kernel_rfl) (fun _ _ _ h => h) (Or.inl ⟨by rfl, ?_⟩) ?_ ?_
  rotate_left
  · intro w'
    go_simp
    with_reducible rfl
  rotate_left
  · simp only [Act.put, List.setIfInBounds_toArray, List.set_cons_zero, List.set_cons_succ, i64_w, i32_w]
    rfl
  refine done_ (by kernel_rfl) ?_
  go_wp2_with fail
  go_ret2
  exact ⟨rfl, B3.out⟩

set_option maxHeartbeats 4000000 in
set_option maxRecDepth 100000 in
theorem Index_Len (W : World) (base p n : Nat) (D : S28 → Option Int) (h : IX W base p n D) :
    Calls Try.prog 13 #[.pointer (some ⟨p, 0, none⟩)] W fun e w' => e = .returned (.int .i64 (n : Int)) ∧ w' = W := by
  obtain ⟨g, S, used, ht⟩ := h
  have hp1 : W.cell? ⟨p, 1, none⟩ = some (.int .i64 (n : Int)) := (blk_cell ht.tw.bp 1).trans rfl
  clear ht
  go_enter Try.func13, Try.ntmps13
  go_wp2_with fail
  refine bodyPost_ret (results_tmp rfl _ _ _) rfl ?_
  exact ⟨rfl, rfl⟩

set_option maxHeartbeats 4000000 in
set_option maxRecDepth 100000 in
theorem New (W : World) (room : Int) : Calls Try.prog 8 #[.int .i64 room] W fun e w' => ∃ p, e = .returned (.pointer (some ⟨p, 0, none⟩)) ∧ Below W.heap.size W w' ∧ IX w' W.heap.size p 0 (fun _ => none) := by
  obtain ⟨a, ha⟩ : ∃ a, (if room < 0 then 0 else room) = a := ⟨_, rfl⟩
  obtain ⟨R, hR⟩ : ∃ R, (if 4096 < a then 4096 else a) = R := ⟨_, rfl⟩
  have HR := Aside0.mk (show 0 ≤ R ∧ R ≤ 4096 from by
    constructor
    · rw [← hR, ← ha]; split <;> split <;> omega
    · rw [← hR]; split <;> omega)
  have hw4 : wrap64 (4 * R) = 4 * R := by have := HR.out; unfold wrap64; omega
  go_enter Try.func8, Try.ntmps8
  go_wp2_with ((with_reducible refine gate_dst (N := 6) rfl ?_); refine box_event ?hg (N := 6) ?hd (cs := #[.slice none 0 0, .int .i64 0, .int .i64 0]) (t := 56) ?hr ?_; (case hd => rfl); (case hg => rfl); (case hr => first | (go_simp; done) | (go_simp; rfl)); intro p hg w1 hbox hb; have G1 := Aside0.mk hg; have B1 := Aside0.mk hb; have X1 := Aside0.mk hbox; clear hbox hb hg)
  go_loopg [4] 37 (fun kq v4 W' => ∃ m : Nat, v4 = .int .i64 (m : Int) ∧ Aside0 (W' = w1) ∧ Aside0 (∃ e, m = 2 ^ e ∧ e + kq = 40))
  case atStart => exact ⟨8, rfl, ⟨rfl⟩, ⟨3, rfl, rfl⟩⟩
  case round =>
  obtain ⟨m, rfl, HW, HM⟩ := hrel
  have hw := HW.out
  subst hw
  clear HW
  have hm40 : Aside0 (m ≤ 1099511627776) := ⟨by obtain ⟨e, he, hek⟩ := HM.out; rw [he]; exact Nat.le_trans (Nat.pow_le_pow_right (by decide) (show e ≤ 40 by omega)) (by decide)⟩
  have hw3 : wrap64 (3 * (m : Int)) = 3 * (m : Int) := by have := hm40.out; unfold wrap64; omega
  by_cases hlt : 3 * (m : Int) < 4 * R
  · have hltb : decide (3 * (m : Int) < 4 * R) = true := decide_eq_true hlt
    have hk : Aside0 (∃ k1, gk = k1 + 1) := ⟨by
      obtain ⟨e, he, hek⟩ := HM.out
      cases gk with
      | succ k => exact ⟨k, rfl⟩
      | zero =>
        have : e = 40 := by omega
        rw [this] at he
        have := HR.out
        omega⟩
    clear hlt
    go_wp2_with fail
    obtain ⟨k1, hk1⟩ := hk.out
    go_roundg k1
    case measure => omega
    case rel =>
      have hw : wrap64 ((m : Int) * 2) = ((m * 2 : Nat) : Int) := by have := hm40.out; unfold wrap64; omega
      obtain ⟨e, he, hek⟩ := HM.out
      exact ⟨m * 2, by rw [hw], ⟨rfl⟩, ⟨e + 1, by rw [he, Nat.pow_succ], by omega⟩⟩
  have hltb : decide (3 * (m : Int) < 4 * R) = false := decide_eq_false hlt
  clear hlt
  go_wp2_with fail
  rw [make60 wr m hm40.out]
  simp only [Result.andThen]
  rw [Oper.upon_value]
  obtain ⟨g2, hg2⟩ : ∃ g2, wr.heap.size = g2 := ⟨_, rfl⟩
  rw [hg2]
  obtain ⟨W2, hW2⟩ : ∃ W2, wr.alloc (.cells (fs (List.replicate m z60)).toArray 60) = W2 := ⟨_, rfl⟩
  rw [hW2]
  have B2 := Aside0.mk (show Below wr.heap.size wr W2 from hW2 ▸ below_alloc (Below.refl _ wr) _)
  have G2 := Aside0.mk (show W2.heap[g2]? = some (.cells (fs (List.replicate m z60)).toArray 60 (0, 0)) from by rw [← hW2, ← hg2]; exact heap_alloc_new wr _)
  have L2 := Aside0.mk (show g2 = wr.heap.size ∧ p < wr.heap.size from ⟨hg2.symm, blk_lt X1.out⟩)
  have P2 := Aside0.mk (blk_below X1.out B2.out)
  clear hg2 hW2 hltb ha hR hw4 hw3
  have fz := blk_frozen P2.out 0
  have hp0 : W2.cell? ⟨p, 0, none⟩ = some (.slice none 0 0) := (blk_cell P2.out 0).trans rfl
  go_wp2_with fail
  refine bodyPost_ret (results_tmp rfl _ _ _) rfl ?_
  have hpg : p ≠ g2 := by have := L2.out; omega
  have hsz := B1.out.size
  have hB := (B1.out.trans (B2.out.mono hsz)).setCell (p := ⟨p, 0, none⟩) (by have := G1.out; show W.heap.size ≤ p; omega) (.slice (some ⟨g2, 0, none⟩) m m)
  refine ⟨p, rfl, hB, g2, List.replicate m z60, 0, ⟨?_, ?_, ?_, ?_⟩, OK.fresh m ?_, by omega⟩
  · rw [List.length_replicate]
    exact blk_put P2.out 0 _ rfl
  · exact blk_far G2.out (p := ⟨p, 0, none⟩) (Ne.symm hpg) _
  · have := G1.out; omega
  · have := L2.out; omega
  · obtain ⟨e, he, hek⟩ := HM.out
    exact ⟨e, he, by omega⟩
end Go.Proofs.Ytmndedahkodibaa.G
