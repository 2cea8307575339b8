/- slices.Clone and ranks.Turned: their walks. -/
import Derived.Test.YtieomcpjakamdaaH2
namespace Go.Proofs.Ytieomcpjakamdaa.G
open Go.RowKit Go.Proofs.YtieomcpjakamdaaW.PrintWords Go.Proofs.YtieomcpjakamdaaW.PrintLast Go.Proofs.YtieomcpjakamdaaW.PrintMore Go.Proofs.Ytieomcpjakamdaa.Inv
set_option linter.unusedVariables false
set_option linter.unusedSimpArgs false

set_option maxHeartbeats 4000000 in
set_option maxRecDepth 100000 in
theorem clone (A0 : Option Addr) (c0 : Nat) (l0 : List Int) (w : World) (hr0 : Kd.C (Kd.int .i64) w A0 l0.length l0) (hl : l0.length ≤ 1048576) :
    Calls Try.prog 24 #[.slice A0 l0.length c0] w fun e w' => ∃ v0_ : Value, e = .returned (v0_) ∧ Kd.R (Kd.int .i64) 3 w' w.heap.size (fun _ => True) v0_ l0 ∧ Below w.heap.size w w' := by
  have HR := Aside0.mk hr0
  clear hr0
  cases A0 with
  | none =>
    have hn : l0 = [] := by
      cases l0 with
      | nil => rfl
      | cons x xs => obtain ⟨ad, e, _⟩ := Kd.at_int HR.out 0 (by omega) (by simp)
                     cases e
    subst hn
    have he : ∀ W, (binOp .eql 22 (.slice none 0 c0) (.slice none 0 0)).run Try.prog W = .ok (.bool true) W := fun _ => rfl
    go_enter Try.func24, Try.ntmps24
    go_wp2_with fail
    go_ret
    exact ⟨_, rfl, Kd.R_nil _ _ _ _ _, Below.refl _ _⟩
  | some ad =>
    have he : ∀ W, (binOp .eql 22 (.slice (some ad) l0.length c0) (.slice none 0 0)).run Try.prog W = .ok (.bool false) W := fun _ => rfl
    go_enter Try.func24, Try.ntmps24
    obtain ⟨W, hW⟩ : ∃ W, w.alloc (.cells #[] 3) = W := ⟨_, rfl⟩
    have HB := Aside0.mk (show Below w.heap.size w W from hW ▸ below_alloc (Below.refl _ _) _)
    have HRW := Aside0.mk (show Kd.C (Kd.int .i64) W (some ad) l0.length l0 from hW ▸ Kd.C_alloc HR.out _)
    have HO := Aside0.mk (show Kd.R (Kd.int .i64) 3 W w.heap.size (fun _ => True) (.slice (some ⟨w.heap.size, 0, none⟩) 0 0) [] from
      ⟨fun _ _ => trivial, [], ⟨by simp, .inr ⟨w.heap.size, 0, #[], rfl, Nat.le_refl _, by rw [← hW]; exact blk_new w _, Nat.le_refl _, by unfold maxLen; omega, by simp, by simp⟩⟩, by simp [Reps]⟩)
    have HL := Aside0.mk hl
    go_wp2_with (at_builtin; (try rw [hW]); refine Kd.R_append_row (fun x => Value.int .i64 x) 0 (w0 := w) w.heap.size rfl _ _ 22 3 (.int .i64 0) 8 rfl Try.underlying22 info3 rfl (by decide) (.slice (some ⟨w.heap.size, 0, none⟩) 0 0) [] l0 (some ad) l0.length c0 (fun _ => True) rfl rfl (fun _ _ => trivial) HO.out HRW.out HB.out HB.out.size (by have := HL.out; simp; omega) ?_; intro v1 w1 hr1 hb1 hg1 ho1; have R1 := Aside0.mk hr1; have B1 := Aside0.mk hb1; clear hr1 hb1 hg1 ho1)
    obtain ⟨A9, c9, ev⟩ := Kd.R_slice R1.out
    subst ev
    go_wp2_with fail
    go_ret
    exact ⟨_, rfl, R1.out, B1.out⟩

theorem rq_of_R {W : World} {base : Nat} {ok : Nat → Prop} {g n c : Nat} {l : List Int} (h : Kd.R (Kd.int .i64) 3 W base ok (.slice (some ⟨g, 0, none⟩) n c) l) : l.length = n ∧ n ≤ c ∧ base ≤ g ∧ ∃ S, Rq W g l S := by
  have hown := Kd.own_of_R (enc := fun x => Value.int .i64 x) h
  rcases hown.2 with ⟨e, _⟩ | ⟨g', cap, cur, e, hb, hg, hn, hc, hs, ht⟩
  · cases e
  · injection e with e1 e2 e3
    injection e1 with e1
    injection e1 with e1
    subst e1 e2 e3
    refine ⟨rfl, hn, hb, cur.toList.drop (l.length * 1), ?_⟩
    unfold Rq
    have e : l.map vi ++ cur.toList.drop (l.length * 1) = cur.toList := by
      conv => rhs; rw [← List.take_append_drop (l.length * 1) cur.toList]
      rw [ht]
      rfl
    rw [e, Array.toArray_toList]
    exact hg

theorem merge_small (A A' : Option Addr) (n c c' : Nat) (hn : n < 2) (W : World) : Calls Try.prog 23 #[.slice A n c, .slice A' n c'] W fun e w' => e = .returned (.int .i64 0) ∧ w' = W := by
  have hsb : decide ((n : Int) < 2) = true := decide_eq_true (by omega)
  clear hn
  go_enter Try.func23, Try.ntmps23
  go_wp2_with fail
  go_ret
  exact ⟨rfl, rfl⟩
/-- merge, of two rows of their own. -/
theorem merge_own (w0 : World) (v1 v2 : Value) (n : Nat) (hn : n ≤ 1048576) (l z : List Int) (hl : l.length = n) (hz : z.length = n) (W : World) (hB : Below w0.heap.size w0 W) (h1 : Kd.R (Kd.int .i64) 3 W w0.heap.size (fun _ => True) v1 l) (h2 : Kd.R (Kd.int .i64) 3 W w0.heap.size (fun _ => True) v2 z)
    (hne : ∀ g, v1.ownBlock = some g → v2.ownBlock ≠ some g) :
    Calls Try.prog 23 #[v1, v2] W fun e w' => e = .returned (.int .i64 (invs l : Nat)) ∧ Below w0.heap.size w0 w' := by
  obtain ⟨A1, c1, e1⟩ := Kd.R_slice h1
  obtain ⟨A2, c2, e2⟩ := Kd.R_slice h2
  rw [hl] at e1
  rw [hz] at e2
  subst e1 e2
  by_cases hs : n < 2
  · refine (merge_small A1 A2 n c1 c2 hs W).mono ?_
    rintro e w9 ⟨rfl, rfl⟩
    have hx : invs l = 0 := by
      match l, hl with
      | [], _ => rfl
      | [x], _ => rfl
      | x :: y :: l, h1 => simp at h1; omega
    exact ⟨by rw [hx]; rfl, hB⟩
  · obtain ⟨g, cc, e1, hg, _⟩ := Kd.R_form h1 (by omega)
    obtain ⟨g', cc', e2, hg', _⟩ := Kd.R_form h2 (by omega)
    injection e1 with e1
    injection e2 with e2
    subst e1 e2
    obtain ⟨_, hc1, _, S, r1⟩ := rq_of_R h1
    obtain ⟨_, hc2, _, S', r2⟩ := rq_of_R h2
    refine (merge_all w0 n hn g g' 0 0 n c1 c2 [] l [] [] z [] S S' W (Nat.le_refl _) hl hz rfl rfl hc1 hc2 (fun e => hne g rfl (by rw [e]; rfl)) hg hg' hB (by simpa using r1) (by simpa using r2)).mono ?_
    rintro e w9 ⟨he, hb, _⟩
    exact ⟨he, hb⟩

theorem own_ge {W : World} {base : Nat} {ok : Nat → Prop} {v : Value} {l : List Int} (h : Kd.R (Kd.int .i64) 3 W base ok v l) : ∀ g, v.ownBlock = some g → base ≤ g := by
  intro g hg
  have hown := Kd.own_of_R (enc := fun x => Value.int .i64 x) h
  rcases hown.2 with ⟨e, _⟩ | ⟨g', cap, cur, e, hb, _⟩
  · rw [e] at hg; cases hg
  · rw [e] at hg
    injection hg with hg
    rw [← hg]
    exact hb
def ranks_Turned.f (l : List Int) : Option Int := if l.length ≤ 1048576 then some (invs l : Nat) else none
set_option maxHeartbeats 4000000 in
set_option maxRecDepth 100000 in
theorem ranks_Turned.calls (A0 : Option Addr) (c0 : Nat) (l0 : List Int) (r : Int) (w : World) (hr0 : Kd.C (Kd.int .i64) w A0 l0.length l0) (hc0 : l0.length ≤ c0) (h : ranks_Turned.f l0 = some r) :
    Calls Try.prog 15 #[.slice A0 l0.length c0] w fun e w' => e = .returned (.int .i64 r) ∧ Below w.heap.size w w' := by
  unfold ranks_Turned.f at h
  split at h
  case isFalse => cases h
  rename_i hl
  obtain rfl := Option.some.inj h
  clear h
  have HC := Aside0.mk hr0
  have HL := Aside0.mk hl
  clear hr0 hc0 hl
  obtain ⟨n, hn⟩ : ∃ n, l0.length = n := ⟨_, rfl⟩
  have HNL := Aside0.mk hn
  rw [hn] at HL
  have HC2 := Aside0.mk (show Kd.C (Kd.int .i64) w A0 n l0 by rw [← hn]; exact HC.out)
  have HCL := Aside0.mk (show ∀ W, Below w.heap.size w W → Calls Try.prog 24 #[.slice A0 n c0] W fun e w' => ∃ v0_ : Value, e = .returned (v0_) ∧ Kd.R (Kd.int .i64) 3 w' W.heap.size (fun _ => True) v0_ l0 ∧ Below W.heap.size W w' from fun W hB => by
    have := clone A0 c0 l0 W (Kd.C_below HC.out hB) (by rw [hn]; exact HL.out)
    rw [hn] at this
    exact this)
  rw [hn]
  clear hn HC
  have BB := Aside0.mk (show Below w.heap.size w w.drew from below_drew (Below.refl _ _))
  go_enter Try.func15, Try.ntmps15
  go_upto_region 1 with fail
  refine start_ (n := 7) (S := (fun w' => True)) (ds := [5]) #[false, false, false, false, false, false, false] (by kernel_rfl) rfl rfl ?_ ?_
  · trivial
  intro hHeld
  refine pure_ (i := 0) (N := some 3) (v := ?_) (a' := ?_) #[true, false, false, false, false, false, false] rfl rfl (by kernel_rfl) (fun _ _ _ h => h) (Or.inl ⟨by rfl, ?_⟩) ?_ ?_
  rotate_left
  · intro w'
    go_simp
    with_reducible rfl
  rotate_left
  · simp only [Act.put, List.setIfInBounds_toArray, List.set_cons_zero, List.set_cons_succ, i64_w, i32_w]
    rfl
  refine pure_ (i := 2) (N := some 5) (v := ?_) (a' := ?_) #[true, false, true, false, false, false, false] rfl rfl (by kernel_rfl) (fun _ _ _ h => h) (Or.inl ⟨by rfl, ?_⟩) ?_ ?_
  rotate_left
  · intro w'
    go_simp
    with_reducible rfl
  rotate_left
  · simp only [Act.put, List.setIfInBounds_toArray, List.set_cons_zero, List.set_cons_succ, i64_w, i32_w]
    rfl
  refine pure_ (i := 3) (N := some 6) (v := ?_) (a' := ?_) #[true, false, true, true, false, false, false] rfl rfl (by kernel_rfl) (fun _ _ _ h => h) (Or.inl ⟨by rfl, ?_⟩) ?_ ?_
  rotate_left
  · intro w'
    go_simp
    with_reducible rfl
  rotate_left
  · simp only [Act.put, List.setIfInBounds_toArray, List.set_cons_zero, List.set_cons_succ, i64_w, i32_w]
    rfl
  refine two_ (i := 1) (j := 4) (Ni := some 4) (Nj := some 7) #[true, true, true, true, false, false, false] #[true, false, true, true, true, false, false] rfl rfl rfl rfl (by kernel_rfl) (by decide) (by decide) (fun K hK => ?_) (fun K hK => ?_)
  · refine goes_ Try.func24 (by kernel_rfl) rfl #[.slice A0 n c0] (by rfl) rfl rfl (by (try simp only [List.map_toArray, List.map_cons, List.map_nil]); first | done | rfl) ?_
    refine (HCL.out _ BB.out).mono ?_
    rintro e w2 ⟨v1, rfl, r1, b1⟩
    refine ⟨_, rfl, ?_⟩
    have R1 := Aside0.mk (Kd.R_lower r1 BB.out.size)
    have B1 := Aside0.mk (BB.out.trans (b1.mono BB.out.size))
    clear r1 b1
    refine hK.out _ _ trivial (fun hHeld => ?_)
    clear hK K
    refine norm_ (a' := ?_) ?_ ?_
    rotate_left
    · show Act.put _ (some 4) _ = _
      simp only [Act.put, List.setIfInBounds_toArray, List.set_cons_zero, List.set_cons_succ, i64_w, i32_w]
      rfl
    refine one_ (i := 4) (N := some 7) #[true, true, true, true, true, false, false] rfl rfl (by kernel_rfl) (by decide) (fun K hK => ?_)
    refine Kd.R_make_step (Kd.int .i64) (w0 := w2) w2.heap.size 3 (by rfl) (N := 7) rfl 22 _ _ rfl (n : Int) rfl rfl Try.underlying22 (.int .i64 0) 8 info3 rfl (by decide) (by omega) 0 (ok := fun _ => True) (okp := fun _ => True) rfl (fun _ hk => hk) trivial (by omega) (by have := HL.out; omega) (Below.refl _ _) (Nat.le_refl _) ?_
    intro v2 w3 hr hb hg hnew
    have B3 := Aside0.mk (B1.out.trans (hb.mono B1.out.size))
    have Q1 := Aside0.mk (Kd.R_below R1.out hb)
    have Q2 := Aside0.mk (Kd.R_lower hr B1.out.size)
    have HNE := Aside0.mk (show ∀ g, v1.ownBlock = some g → v2.ownBlock ≠ some g from fun g h1 h2 => by
      obtain ⟨b, h3, h4⟩ := hnew
      rw [h3] at h2
      injection h2 with h2
      obtain ⟨cells, h5⟩ := Kd.R_typed R1.out g h1
      have := blk_lt h5
      omega)
    clear hr hb hg hnew R1 B1
    refine hK.out _ _ trivial (fun hHeld => ?_)
    clear hK K
    refine norm_ (a' := ?_) ?_ ?_
    rotate_left
    · show Act.put _ (some 7) _ = _
      simp only [Act.put, List.setIfInBounds_toArray, List.set_cons_zero, List.set_cons_succ, i64_w, i32_w]
      rfl
    refine last_ (i := 5) (N := some 8) #[true, true, true, true, true, true, false] rfl rfl (by kernel_rfl) (by decide) (fun K hK => ?_)
    refine goes_ Try.func23 (by kernel_rfl) rfl #[v1, v2] (by rfl) rfl rfl (by (try simp only [List.map_toArray, List.map_cons, List.map_nil]); first | done | rfl) ?_
    refine (merge_own w v1 v2 n HL.out l0 _ HNL.out (by simp) w3 B3.out Q1.out Q2.out HNE.out).mono ?_
    rintro e w4 ⟨rfl, hb⟩
    have B4 := Aside0.mk hb
    clear hb
    refine ⟨_, rfl, ?_⟩
    refine hK.out _ _ ?_
    clear hK K
    refine norm_ (a' := ?_) ?_ ?_
    rotate_left
    · show Act.put _ (some 8) _ = _
      simp only [Act.put, List.setIfInBounds_toArray, List.set_cons_zero, List.set_cons_succ, i64_w, i32_w]
      rfl
    refine pure_ (i := 6) (N := some 2) (v := ?_) (a' := ?_) #[true, true, true, true, true, true, true] rfl rfl (by kernel_rfl) (fun _ _ _ h => h) (Or.inl ⟨by rfl, ?_⟩) ?_ ?_
    rotate_left
    · intro w'
      go_simp
      with_reducible rfl
    rotate_left
    · simp only [Act.put, List.setIfInBounds_toArray, List.set_cons_zero, List.set_cons_succ, i64_w, i32_w]
      rfl
    refine done_ (by kernel_rfl) ?_
    go_wp2_with fail
    go_ret
    exact ⟨rfl, B4.out⟩
  · refine Kd.R_make_step (Kd.int .i64) (w0 := w.drew) w.drew.heap.size 3 (by rfl) (N := 7) rfl 22 _ _ rfl (n : Int) rfl rfl Try.underlying22 (.int .i64 0) 8 info3 rfl (by decide) (by omega) 0 (ok := fun _ => True) (okp := fun _ => True) rfl (fun _ hk => hk) trivial (by omega) (by have := HL.out; omega) (Below.refl _ _) (Nat.le_refl _) ?_
    intro v2 w2 hr hb hg hnew
    have B1 := Aside0.mk (BB.out.trans (hb.mono BB.out.size))
    have R2 := Aside0.mk (Kd.R_lower hr BB.out.size)
    clear hr hb hg hnew
    refine hK.out _ _ trivial (fun hHeld => ?_)
    clear hK K
    refine norm_ (a' := ?_) ?_ ?_
    rotate_left
    · show Act.put _ (some 7) _ = _
      simp only [Act.put, List.setIfInBounds_toArray, List.set_cons_zero, List.set_cons_succ, i64_w, i32_w]
      rfl
    refine one_ (i := 1) (N := some 4) #[true, true, true, true, true, false, false] rfl rfl (by kernel_rfl) (by decide) (fun K hK => ?_)
    refine goes_ Try.func24 (by kernel_rfl) rfl #[.slice A0 n c0] (by rfl) rfl rfl (by (try simp only [List.map_toArray, List.map_cons, List.map_nil]); first | done | rfl) ?_
    refine (HCL.out _ B1.out).mono ?_
    rintro e w3 ⟨v1, rfl, r1, b1⟩
    refine ⟨_, rfl, ?_⟩
    have B3 := Aside0.mk (B1.out.trans (b1.mono B1.out.size))
    have Q1 := Aside0.mk (Kd.R_lower r1 B1.out.size)
    have Q2 := Aside0.mk (Kd.R_below R2.out b1)
    have HNE := Aside0.mk (show ∀ g, v1.ownBlock = some g → v2.ownBlock ≠ some g from fun g h1 h2 => by
      have h3 := own_ge r1 g h1
      obtain ⟨cells, h5⟩ := Kd.R_typed R2.out g h2
      have := blk_lt h5
      omega)
    clear r1 b1 R2 B1
    refine hK.out _ _ trivial (fun hHeld => ?_)
    clear hK K
    refine norm_ (a' := ?_) ?_ ?_
    rotate_left
    · show Act.put _ (some 4) _ = _
      simp only [Act.put, List.setIfInBounds_toArray, List.set_cons_zero, List.set_cons_succ, i64_w, i32_w]
      rfl
    refine last_ (i := 5) (N := some 8) #[true, true, true, true, true, true, false] rfl rfl (by kernel_rfl) (by decide) (fun K hK => ?_)
    refine goes_ Try.func23 (by kernel_rfl) rfl #[v1, v2] (by rfl) rfl rfl (by (try simp only [List.map_toArray, List.map_cons, List.map_nil]); first | done | rfl) ?_
    refine (merge_own w v1 v2 n HL.out l0 _ HNL.out (by simp) w3 B3.out Q1.out Q2.out HNE.out).mono ?_
    rintro e w4 ⟨rfl, hb⟩
    have B4 := Aside0.mk hb
    clear hb
    refine ⟨_, rfl, ?_⟩
    refine hK.out _ _ ?_
    clear hK K
    refine norm_ (a' := ?_) ?_ ?_
    rotate_left
    · show Act.put _ (some 8) _ = _
      simp only [Act.put, List.setIfInBounds_toArray, List.set_cons_zero, List.set_cons_succ, i64_w, i32_w]
      rfl
    refine pure_ (i := 6) (N := some 2) (v := ?_) (a' := ?_) #[true, true, true, true, true, true, true] rfl rfl (by kernel_rfl) (fun _ _ _ h => h) (Or.inl ⟨by rfl, ?_⟩) ?_ ?_
    rotate_left
    · intro w'
      go_simp
      with_reducible rfl
    rotate_left
    · simp only [Act.put, List.setIfInBounds_toArray, List.set_cons_zero, List.set_cons_succ, i64_w, i32_w]
      rfl
    refine done_ (by kernel_rfl) ?_
    go_wp2_with fail
    go_ret
    exact ⟨rfl, B4.out⟩
end Go.Proofs.Ytieomcpjakamdaa.G
