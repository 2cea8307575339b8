/- ranks.merge: its walk. -/
import Derived.Test.YtieomcpjakamdaaPinv
import Derived.Test.YtieomcpjakamdaaGx0
import Derived.Laws.CopyRow
import Derived.Laws.CopyOwn
import Derived.Laws.EntriesVeiled
namespace Go.Proofs.Ytieomcpjakamdaa.G
open Go.RowKit Go.Proofs.YtieomcpjakamdaaW.PrintWords Go.Proofs.YtieomcpjakamdaaW.PrintLast Go.Proofs.YtieomcpjakamdaaW.PrintMore Go.Proofs.Ytieomcpjakamdaa.Inv
set_option linter.unusedVariables false
set_option linter.unusedSimpArgs false

def vi (x : Int) : Value := .int .i64 x
/-- A block of numbers, and what room there is behind. -/
def Rq (W : World) (g : Nat) (L : List Int) (S : List Value) : Prop := W.heap[g]? = some (.cells (L.map vi ++ S).toArray 3 (0, 0))
theorem Rq.cell {W : World} {g : Nat} {L : List Int} {S : List Value} (h : Rq W g L S) (i : Nat) (x : Int) (hx : L[i]? = some x) : W.cell? ⟨g, i, none⟩ = some (.int .i64 x) ∧ W.frozen? ⟨g, i, none⟩ = false := by
  refine ⟨(blk_cell h i).trans ?_, blk_frozen h i⟩
  have hl := (List.getElem?_eq_some_iff.1 hx).1
  rw [List.getElem?_toArray, List.getElem?_append_left (by simpa using hl), List.getElem?_map, hx]
  rfl
theorem Rq.set {W : World} {g : Nat} {L : List Int} {S : List Value} (h : Rq W g L S) (i : Nat) (v : Int) (hi : i < L.length) : Rq (W.setCell ⟨g, i, none⟩ (.int .i64 v)) g (L.set i v) S := by
  unfold Rq
  rw [blk_set h i (.int .i64 v), List.setIfInBounds_toArray, List.set_append_left _ _ (by simpa using hi), List.map_set]
  rfl
theorem Rq.far {W : World} {g g' : Nat} {L : List Int} {S : List Value} (h : Rq W g L S) (i : Nat) (v : Value) (hg : g ≠ g') : Rq (W.setCell ⟨g', i, none⟩ v) g L S := blk_far h (p := ⟨g', i, none⟩) hg v
theorem Rq.below {W W' : World} {g : Nat} {L : List Int} {S : List Value} (h : Rq W g L S) (hb : Below W.heap.size W W') : Rq W' g L S := blk_below h hb
theorem Rq.drew {W : World} {g : Nat} {L : List Int} {S : List Value} (h : Rq W g L S) : Rq W.drew g L S := h

theorem split_at2 {α : Type} (l : List α) (k : Nat) (h : k ≤ l.length) : ∃ u v, l = u ++ v ∧ u.length = k :=
  ⟨l.take k, l.drop k, (List.take_append_drop k l).symm, by rw [List.length_take]; omega⟩
theorem get_out {α : Type} {P X Q : List α} {p q : Nat} {x : α} (hp : P.length = p) (hx : X[q]? = some x) : (P ++ X ++ Q)[p + q]? = some x := by
  have hk := (List.getElem?_eq_some_iff.1 hx).1
  subst hp
  rw [List.append_assoc, List.getElem?_append_right (by omega), Nat.add_sub_cancel_left, List.getElem?_append_left hk, hx]
theorem addr_add (g p q : Nat) : (⟨g, p, none⟩ : Addr).add q = ⟨g, p + q, none⟩ := by unfold Addr.add; split <;> simp_all
theorem set_out {α : Type} {P O Z Q : List α} {p k : Nat} {z v : α} (hp : P.length = p) (hk : O.length = k) : (P ++ (O ++ z :: Z) ++ Q).set (p + k) v = P ++ ((O ++ [v]) ++ Z) ++ Q := by
  subst hp
  subst hk
  have e : P ++ (O ++ z :: Z) ++ Q = (P ++ O) ++ z :: (Z ++ Q) := by simp
  rw [e, ← List.length_append, List.set_append_right _ _ (Nat.le_refl _), Nat.sub_self, List.set_cons_zero]
  simp
theorem get_dst {α : Type} {P O Z Q : List α} {p k : Nat} {z : α} (hp : P.length = p) (hk : O.length = k) : (P ++ (O ++ z :: Z) ++ Q)[p + k]? = some z := by
  refine get_out hp ?_
  rw [List.getElem?_append_right (by omega), hk, Nat.sub_self]
  rfl
theorem get_a {α : Type} {P A B Q : List α} {p i : Nat} {x : α} (hp : P.length = p) (hx : A[i]? = some x) : (P ++ (A ++ B) ++ Q)[p + i]? = some x := by
  refine get_out hp ?_
  rw [List.getElem?_append_left (List.getElem?_eq_some_iff.1 hx).1, hx]
theorem get_b {α : Type} {P A B Q : List α} {p j b : Nat} {x : α} (hp : P.length = p) (hb : b = A.length + j) (hx : B[j]? = some x) : (P ++ (A ++ B) ++ Q)[p + b]? = some x := by
  refine get_out hp ?_
  rw [List.getElem?_append_right (by omega), show b - A.length = j by omega, hx]
def MergeAt (w0 : World) (N : Nat) : Prop :=
  ∀ (g g' p p' n c c' : Nat) (P X Q P' Z Q' : List Int) (S S' : List Value) (W : World), n ≤ N → X.length = n → Z.length = n → P.length = p → P'.length = p' → n ≤ c → n ≤ c' → g ≠ g' → w0.heap.size ≤ g → w0.heap.size ≤ g' → Below w0.heap.size w0 W →
    Rq W g (P ++ X ++ Q) S → Rq W g' (P' ++ Z ++ Q') S' →
    Calls Try.prog 23 #[.slice (some ⟨g, p, none⟩) n c, .slice (some ⟨g', p', none⟩) n c'] W fun e w' => e = .returned (.int .i64 (invs X : Nat)) ∧ Below w0.heap.size w0 w' ∧ ∃ M Z2, M.Perm X ∧ Up M ∧ Z2.length = n ∧ Rq w' g (P ++ M ++ Q) S ∧ Rq w' g' (P' ++ Z2 ++ Q') S'

set_option maxHeartbeats 8000000 in
set_option maxRecDepth 100000 in
theorem merge_step (w0 : World) (N : Nat) (hN : N ≤ 1048576) (ih : ∀ M, M < N → MergeAt w0 M) : MergeAt w0 N := by
  intro g g' p p' n c c' P X Q P' Z Q' S S' W hn hX hZ hP hP' hc hc' hgg hg hg' hB h1 h2
  have HB := Aside0.mk hB
  have R1 := Aside0.mk h1
  have R2 := Aside0.mk h2
  have HG := Aside0.mk (And.intro hgg (And.intro hg hg'))
  have HLX := Aside0.mk (And.intro hX hZ)
  have HLP := Aside0.mk (And.intro hP hP')
  have HC := Aside0.mk (And.intro hc hc')
  have HN := Aside0.mk (And.intro hn hN)
  have IH := Aside0.mk ih
  clear hB h1 h2 hgg hg hg' hX hZ hP hP' hn hN ih
  by_cases hs : n < 2
  · have hsb : decide ((n : Int) < 2) = true := decide_eq_true (by omega)
    have HS := Aside0.mk hs
    clear hs hc hc'
    go_enter Try.func23, Try.ntmps23
    go_wp2_with fail
    go_ret
    have hx : X = [] ∨ ∃ x, X = [x] := by
      have h1 := HLX.out.1
      have h2 := HS.out
      match X, h1 with
      | [], _ => exact .inl rfl
      | [x], _ => exact .inr ⟨x, rfl⟩
      | x :: y :: l, h1 => simp at h1; omega
    have hi : invs X = 0 := by rcases hx with rfl | ⟨x, rfl⟩ <;> rfl
    have hu : Up X := by
      rcases hx with rfl | ⟨x, rfl⟩
      · exact List.Pairwise.nil
      · exact List.pairwise_singleton _ _
    exact ⟨by rw [hi]; rfl, HB.out, X, Z, List.Perm.refl _, hu, HLX.out.2, R1.out, R2.out⟩
  have hsb : decide ((n : Int) < 2) = false := decide_eq_false (by omega)
  obtain ⟨h, hh⟩ : ∃ h, n / 2 = h := ⟨_, rfl⟩
  have HH := Aside0.mk (show 2 ≤ n ∧ h = n / 2 by omega)
  have wh : wrap64 ((n : Int) / 2) = (h : Int) := by unfold wrap64; have := HN.out; omega
  have q1 := eq_true (show h ≤ n by omega)
  have q2 := eq_true (show h ≤ c by omega)
  have q3 := eq_true (show h ≤ c' by omega)
  have q4 := eq_true (show n ≤ c by omega)
  have q5 := eq_true (show n ≤ c' by omega)
  have q6 := eq_false (show ¬ c = h by omega)
  have q7 := eq_false (show ¬ c' = h by omega)
  obtain ⟨X1, X2, hXX, hX1⟩ := split_at2 X h (by have := HLX.out; omega)
  obtain ⟨Z1, Z2, hZZ, hZ1⟩ := split_at2 Z h (by have := HLX.out; omega)
  have HXX := Aside0.mk (And.intro hXX (And.intro hX1 (And.intro hZZ hZ1)))
  have HL2 := Aside0.mk (show X2.length = n - h ∧ Z2.length = n - h by
    have h1 := congrArg List.length hXX
    have h2 := congrArg List.length hZZ
    rw [List.length_append] at h1 h2
    have := HLX.out
    omega)
  clear hs hh hc hc' hXX hX1 hZZ hZ1
  go_enter Try.func23, Try.ntmps23
  go_upto_region 4 with fail
  rw [wh]
  have Q1 := Aside0.mk (show Rq W.drew g (P ++ X1 ++ (X2 ++ Q)) S by have := R1.out.drew; rw [HXX.out.1] at this; simpa [Rq] using this)
  have Q2 := Aside0.mk (show Rq W.drew g' (P' ++ Z1 ++ (Z2 ++ Q')) S' by have := R2.out.drew; rw [HXX.out.2.2.1] at this; simpa [Rq] using this)
  have B1 := Aside0.mk (show Below w0.heap.size w0 W.drew from below_drew HB.out)
  clear R1 R2 HB
  obtain ⟨w1, hw1⟩ : ∃ w1, W.drew = w1 := ⟨_, rfl⟩
  refine start_ (n := 16) (S := (fun w' => True)) (ds := []) #[false, false, false, false, false, false, false, false, false, false, false, false, false, false, false, false] (by kernel_rfl) rfl rfl ?_ ?_
  · trivial
  intro hHeld
  rw [hw1] at Q1 Q2 B1 ⊢; clear hw1
  refine pure_ (i := 0) (N := some 16) (v := ?_) (a' := ?_) #[true, false, false, false, false, false, false, false, false, false, false, false, false, false, false, false] rfl rfl (by kernel_rfl) (fun _ _ _ h => h) (Or.inl ⟨by rfl, ?_⟩) ?_ ?_
  rotate_left
  · intro w'
    go_simp
    with_reducible rfl
  rotate_left
  · simp only [Act.put, List.setIfInBounds_toArray, List.set_cons_zero, List.set_cons_succ, i64_w, i32_w]
    rfl
  refine pure_ (i := 1) (N := some 17) (v := ?_) (a' := ?_) #[true, true, false, false, false, false, false, false, false, false, false, false, false, false, false, false] rfl rfl (by kernel_rfl) (fun _ _ _ h => h) (Or.inl ⟨by rfl, ?_⟩) ?_ ?_
  rotate_left
  · intro w'
    go_simp
    with_reducible rfl
  rotate_left
  · simp only [Act.put, List.setIfInBounds_toArray, List.set_cons_zero, List.set_cons_succ, i64_w, i32_w]
    rfl
  refine pure_ (i := 2) (N := some 18) (v := ?_) (a' := ?_) #[true, true, true, false, false, false, false, false, false, false, false, false, false, false, false, false] rfl rfl (by kernel_rfl) (fun _ _ _ h => h) (Or.inl ⟨by rfl, ?_⟩) ?_ ?_
  rotate_left
  · intro w'
    go_simp
    with_reducible rfl
  rotate_left
  · simp only [Act.put, List.setIfInBounds_toArray, List.set_cons_zero, List.set_cons_succ, i64_w, i32_w]
    rfl
  refine pure_ (i := 3) (N := some 19) (v := ?_) (a' := ?_) #[true, true, true, true, false, false, false, false, false, false, false, false, false, false, false, false] rfl rfl (by kernel_rfl) (fun _ _ _ h => h) (Or.inl ⟨by rfl, ?_⟩) ?_ ?_
  rotate_left
  · intro w'
    go_simp
    with_reducible rfl
  rotate_left
  · simp only [Act.put, List.setIfInBounds_toArray, List.set_cons_zero, List.set_cons_succ, i64_w, i32_w]
    rfl
  refine pure_ (i := 4) (N := some 20) (v := ?_) (a' := ?_) #[true, true, true, true, true, false, false, false, false, false, false, false, false, false, false, false] rfl rfl (by kernel_rfl) (fun _ _ _ h => h) (Or.inl ⟨by rfl, ?_⟩) ?_ ?_
  rotate_left
  · intro w'
    go_simp
    with_reducible rfl
  rotate_left
  · simp only [Act.put, List.setIfInBounds_toArray, List.set_cons_zero, List.set_cons_succ, i64_w, i32_w]
    rfl
  refine pure_ (i := 5) (N := some 21) (v := ?_) (a' := ?_) #[true, true, true, true, true, true, false, false, false, false, false, false, false, false, false, false] rfl rfl (by kernel_rfl) (fun _ _ _ h => h) (Or.inl ⟨by rfl, ?_⟩) ?_ ?_
  rotate_left
  · intro w'
    go_simp
    with_reducible rfl
  rotate_left
  · simp only [Act.put, List.setIfInBounds_toArray, List.set_cons_zero, List.set_cons_succ, i64_w, i32_w]
    rfl
  refine pure_ (i := 7) (N := some 23) (v := ?_) (a' := ?_) #[true, true, true, true, true, true, false, true, false, false, false, false, false, false, false, false] rfl rfl (by kernel_rfl) (fun _ _ _ h => h) (Or.inl ⟨by rfl, ?_⟩) ?_ ?_
  rotate_left
  · intro w'
    go_simp
    with_reducible rfl
  rotate_left
  · simp only [Act.put, List.setIfInBounds_toArray, List.set_cons_zero, List.set_cons_succ, i64_w, i32_w]
    rfl
  refine pure_ (i := 8) (N := some 24) (v := ?_) (a' := ?_) #[true, true, true, true, true, true, false, true, true, false, false, false, false, false, false, false] rfl rfl (by kernel_rfl) (fun _ _ _ h => h) (Or.inl ⟨by rfl, ?_⟩) ?_ ?_
  rotate_left
  · intro w'
    go_simp
    with_reducible rfl
  rotate_left
  · simp only [Act.put, List.setIfInBounds_toArray, List.set_cons_zero, List.set_cons_succ, i64_w, i32_w]
    rfl
  refine pure_ (i := 9) (N := some 25) (v := ?_) (a' := ?_) #[true, true, true, true, true, true, false, true, true, true, false, false, false, false, false, false] rfl rfl (by kernel_rfl) (fun _ _ _ h => h) (Or.inl ⟨by rfl, ?_⟩) ?_ ?_
  rotate_left
  · intro w'
    go_simp
    with_reducible rfl
  rotate_left
  · simp only [Act.put, List.setIfInBounds_toArray, List.set_cons_zero, List.set_cons_succ, i64_w, i32_w]
    rfl
  refine pure_ (i := 10) (N := some 26) (v := ?_) (a' := ?_) #[true, true, true, true, true, true, false, true, true, true, true, false, false, false, false, false] rfl rfl (by kernel_rfl) (fun _ _ _ h => h) (Or.inl ⟨by rfl, ?_⟩) ?_ ?_
  rotate_left
  · intro w'
    go_simp
    with_reducible rfl
  rotate_left
  · simp only [Act.put, List.setIfInBounds_toArray, List.set_cons_zero, List.set_cons_succ, i64_w, i32_w]
    rfl
  refine pure_ (i := 11) (N := some 27) (v := ?_) (a' := ?_) #[true, true, true, true, true, true, false, true, true, true, true, true, false, false, false, false] rfl rfl (by kernel_rfl) (fun _ _ _ h => h) (Or.inl ⟨by rfl, ?_⟩) ?_ ?_
  rotate_left
  · intro w'
    go_simp
    with_reducible rfl
  rotate_left
  · simp only [Act.put, List.setIfInBounds_toArray, List.set_cons_zero, List.set_cons_succ, i64_w, i32_w]
    rfl
  refine pure_ (i := 12) (N := some 28) (v := ?_) (a' := ?_) #[true, true, true, true, true, true, false, true, true, true, true, true, true, false, false, false] rfl rfl (by kernel_rfl) (fun _ _ _ h => h) (Or.inl ⟨by rfl, ?_⟩) ?_ ?_
  rotate_left
  · intro w'
    go_simp
    with_reducible rfl
  rotate_left
  · simp only [Act.put, List.setIfInBounds_toArray, List.set_cons_zero, List.set_cons_succ, i64_w, i32_w]
    rfl
  refine one_ (i := 6) (N := some 22) #[true, true, true, true, true, true, true, true, true, true, true, true, true, false, false, false] rfl rfl (by kernel_rfl) (by decide) (fun K hK => ?_)
  refine goes_ Try.func23 (by kernel_rfl) rfl #[.slice (some ⟨g, p, none⟩) h c, .slice (some ⟨g', p', none⟩) h c'] (by rfl) rfl rfl (by (try simp only [List.map_toArray, List.map_cons, List.map_nil]); first | done | rfl) ?_
  refine (IH.out h (by have := HN.out; have := HH.out; omega) g g' p p' h c c' P X1 (X2 ++ Q) P' Z1 (Z2 ++ Q') S S' w1 (Nat.le_refl _) HXX.out.2.1 HXX.out.2.2.2 HLP.out.1 HLP.out.2 (by have := HC.out; have := HH.out; omega) (by have := HC.out; have := HH.out; omega) HG.out.1 HG.out.2.1 HG.out.2.2 B1.out Q1.out Q2.out).mono ?_
  rintro e w2 ⟨rfl, b2, A, Y1, pA, uA, lY, r1, r2⟩
  refine ⟨_, rfl, ?_⟩
  have B2 := Aside0.mk b2
  have HA := Aside0.mk (And.intro pA (And.intro uA lY))
  have K1 := Aside0.mk (show Rq w2 g ((P ++ A) ++ X2 ++ Q) S by simpa [Rq] using r1)
  have K2 := Aside0.mk (show Rq w2 g' ((P' ++ Y1) ++ Z2 ++ Q') S' by simpa [Rq] using r2)
  clear b2 pA uA lY r1 r2 Q1 Q2 B1
  refine hK.out _ _ trivial (fun hHeld => ?_)
  clear hK K
  refine norm_ (a' := ?_) ?_ ?_
  rotate_left
  · show Act.put _ (some 22) _ = _
    simp only [Act.put, List.setIfInBounds_toArray, List.set_cons_zero, List.set_cons_succ, i64_w, i32_w]
    rfl
  refine one_ (i := 13) (N := some 29) #[true, true, true, true, true, true, true, true, true, true, true, true, true, true, false, false] rfl rfl (by kernel_rfl) (by decide) (fun K hK => ?_)
  refine goes_ Try.func23 (by kernel_rfl) rfl #[.slice (some ⟨g, p + h, none⟩) (n - h) (c - h), .slice (some ⟨g', p' + h, none⟩) (n - h) (c' - h)] (by rfl) rfl rfl (by (try simp only [List.map_toArray, List.map_cons, List.map_nil]); first | done | rfl) ?_
  refine (IH.out (n - h) (by have := HN.out; have := HH.out; omega) g g' (p + h) (p' + h) (n - h) (c - h) (c' - h) (P ++ A) X2 Q (P' ++ Y1) Z2 Q' S S' w2 (Nat.le_refl _) HL2.out.1 HL2.out.2 (by rw [List.length_append, HA.out.1.length_eq]; have := HLP.out; have := HXX.out; omega) (by rw [List.length_append]; have := HA.out; have := HLP.out; have := HXX.out; omega) (by have := HC.out; omega) (by have := HC.out; omega) HG.out.1 HG.out.2.1 HG.out.2.2 B2.out K1.out K2.out).mono ?_
  rintro e w3 ⟨rfl, b3, B, Y2, pB, uB, lY, r1, r2⟩
  refine ⟨_, rfl, ?_⟩
  have B3 := Aside0.mk b3
  have HBB := Aside0.mk (And.intro pB (And.intro uB lY))
  have K3 := Aside0.mk (show Rq w3 g (P ++ (A ++ B) ++ Q) S by simpa [Rq] using r1)
  have K4 := Aside0.mk (show Rq w3 g' (P' ++ ([] ++ (Y1 ++ Y2)) ++ Q') S' by simpa [Rq] using r2)
  clear b3 pB uB lY r1 r2 K1 K2 B2
  refine hK.out _ _ trivial (fun hHeld => ?_)
  clear hK K
  refine norm_ (a' := ?_) ?_ ?_
  rotate_left
  · show Act.put _ (some 29) _ = _
    simp only [Act.put, List.setIfInBounds_toArray, List.set_cons_zero, List.set_cons_succ, i64_w, i32_w]
    rfl
  refine pure_ (i := 14) (N := some 30) (v := ?_) (a' := ?_) #[true, true, true, true, true, true, true, true, true, true, true, true, true, true, true, false] rfl rfl (by kernel_rfl) (fun _ _ _ h => h) (Or.inl ⟨by rfl, ?_⟩) ?_ ?_
  rotate_left
  · intro w'
    go_simp
    with_reducible rfl
  rotate_left
  · simp only [Act.put, List.setIfInBounds_toArray, List.set_cons_zero, List.set_cons_succ, i64_w, i32_w]
    rfl
  refine pure_ (i := 15) (N := some 6) (v := ?_) (a' := ?_) #[true, true, true, true, true, true, true, true, true, true, true, true, true, true, true, true] rfl rfl (by kernel_rfl) (fun _ _ _ h => h) (Or.inl ⟨by rfl, ?_⟩) ?_ ?_
  rotate_left
  · intro w'
    go_simp
    with_reducible rfl
  rotate_left
  · simp only [Act.put, List.setIfInBounds_toArray, List.set_cons_zero, List.set_cons_succ, i64_w, i32_w]
    rfl
  refine done_ (by kernel_rfl) ?_
  have HCN := Aside0.mk (show invs X = invs X1 + invs X2 + cross A B by rw [HXX.out.1, invs_app, cross_perm HA.out.1 HBB.out.1])
  have HCB := Aside0.mk (show invs X ≤ 1099511627776 by
    have h1 := invs_le X
    have h2 := HLX.out.1
    have h3 := HN.out
    have h4 := Nat.mul_le_mul (show X.length ≤ 1048576 by omega) (show X.length ≤ 1048576 by omega)
    omega)
  have wc : wrap64 ((invs X1 : Int) + (invs X2 : Int)) = ((invs X1 + invs X2 : Nat) : Int) := by unfold wrap64; have := HCN.out; have := HCB.out; omega
  have LA := Aside0.mk (show A.length = h ∧ B.length = n - h by rw [HA.out.1.length_eq, HBB.out.1.length_eq]; exact ⟨HXX.out.2.1, HL2.out.1⟩)
  have LY := Aside0.mk (show (Y1 ++ Y2).length = n by rw [List.length_append]; have := HA.out.2.2; have := HBB.out.2.2; have := HH.out; omega)
  obtain ⟨Y, hY⟩ : ∃ Y, Y1 ++ Y2 = Y := ⟨_, rfl⟩
  rw [hY] at K4 LY
  clear hY IH
  obtain ⟨c0, hc0⟩ : ∃ c0, invs X1 + invs X2 = c0 := ⟨_, rfl⟩
  rw [hc0] at wc
  have HC0 := Aside0.mk hc0
  clear hc0
  go_wp2_with fail
  go_loopg [6, 7, 8, 34] n (fun kq v6 v7 v8 v34 W' => ∃ (m i b k cnt j : Nat) (out Zr : List Int), v6 = .int .i64 (m : Int) ∧ v7 = .int .i64 (i : Int) ∧ v8 = .int .i64 (b : Int) ∧ v34 = .int .i64 (k : Int) ∧ Aside0 (m = c0 + cnt ∧ b = h + j ∧ k = i + j ∧ k + kq = n ∧ Zr.length = n - k) ∧ Aside0 (Mg A B out i j cnt) ∧ Aside0 (Below w0.heap.size w0 W' ∧ Rq W' g (P ++ (A ++ B) ++ Q) S ∧ Rq W' g' (P' ++ (out ++ Zr) ++ Q') S'))
  case atStart => exact ⟨c0, 0, h, 0, 0, 0, [], Y, by rw [wc], rfl, rfl, rfl, ⟨rfl, rfl, rfl, by omega, by have := LY.out; omega⟩, ⟨Mg.start A B⟩, ⟨B3.out, K3.out, K4.out⟩⟩
  case round =>
  clear B3 K3 K4 wc LY
  obtain ⟨m, i, b, k, cnt, j, out, Zr, rfl, rfl, rfl, rfl, HI, HM, HW⟩ := hrel
  have HOL := Aside0.mk HM.out.len
  have HIJ := Aside0.mk (show i ≤ h ∧ j ≤ n - h by have := HM.out.hi; have := HM.out.hj; have := LA.out; omega)
  have hi1 : IntKind.i64.wrap ((i : Int) + 1) = (i : Int) + 1 := IntWalk.i64_in _ (by have := HIJ.out; have := HN.out; have := HH.out; omega)
  have hk1 : IntKind.i64.wrap ((k : Int) + 1) = (k : Int) + 1 := IntWalk.i64_in _ (by have := HI.out; have := HIJ.out; have := HN.out; have := HH.out; omega)
  have hb1 : IntKind.i64.wrap ((b : Int) + 1) = (b : Int) + 1 := IntWalk.i64_in _ (by have := HI.out; have := HIJ.out; have := HN.out; have := HH.out; omega)
  cases gk with
  | zero =>
    have hkn : decide ((k : Int) < (n : Int)) = false := decide_eq_false (by have := HI.out; omega)
    have hkn2 := eq_false (show ¬ k < n by have := HI.out; omega)
    have HD := Aside0.mk (HM.out.done (by have := HOL.out; have := HI.out; have := LA.out; have := HH.out; omega))
    have HZ := Aside0.mk (show Zr = [] from List.length_eq_zero_iff.1 (by have := HI.out; omega))
    have HON := Aside0.mk (show out.length = n by have := HOL.out; have := HI.out; omega)
    have HR1 := Aside0.mk HW.out.2.1
    have HR2 := Aside0.mk (show Rq wr g' (P' ++ out ++ Q') S' by have := HW.out.2.2; rw [HZ.out] at this; simpa using this)
    have HWB := Aside0.mk HW.out.1
    clear HW
    have hrun := run_copy_row (P := Try.prog) wr 22 22 3 3 g p n c ⟨g', p', none⟩ n c' _ 3 (out.map vi) Try.underlying22 (by kernel_rfl) HR1.out (by rw [List.length_map, HON.out]; exact (Nat.min_self n).symm) (fun q v hq => by
      rw [List.getElem?_map] at hq
      obtain ⟨y, hy, rfl⟩ := Option.map_eq_some_iff.1 hq
      rw [addr_add]
      exact (HR2.out.cell (p' + q) y (get_out (by rw [HLP.out.2]) hy)).1) (by
      rw [List.length_map, HON.out, List.size_toArray, List.length_append, List.length_map, List.length_append, List.length_append, List.length_append, LA.out.1, LA.out.2, HLP.out.1]
      have := HH.out
      omega) (fun v hv => by obtain ⟨y, _, rfl⟩ := List.mem_map.1 hv; rfl)
    obtain ⟨W5, hW5⟩ : ∃ W5, wr.setRow g ((((P ++ (A ++ B) ++ Q).map vi ++ S).toArray.toList.take p ++ out.map vi ++ ((P ++ (A ++ B) ++ Q).map vi ++ S).toArray.toList.drop (p + (out.map vi).length)).toArray) = W5 := ⟨_, rfl⟩
    rw [hW5] at hrun
    have HRUN := Aside0.mk hrun
    clear hrun
    have R5 := Aside0.mk (show Rq W5 g (P ++ out ++ Q) S from by
      rw [← hW5]
      unfold Rq
      rw [setRow_heap wr g _ _ 3 _ HR1.out]
      congr 2
      rw [List.toList_toArray, List.length_map, HON.out]
      have e1 : ((P ++ (A ++ B) ++ Q).map vi ++ S).take p = P.map vi := by
        simp only [List.map_append, List.append_assoc]
        exact List.take_left' (by rw [List.length_map, HLP.out.1])
      have e2 : ((P ++ (A ++ B) ++ Q).map vi ++ S).drop (p + n) = Q.map vi ++ S := by
        have e3 : (P ++ (A ++ B) ++ Q).map vi ++ S = (P.map vi ++ (A.map vi ++ B.map vi)) ++ (Q.map vi ++ S) := by simp
        rw [e3]
        exact List.drop_left' (by rw [List.length_append, List.length_append, List.length_map, List.length_map, List.length_map, HLP.out.1, LA.out.1, LA.out.2]; have := HH.out; omega)
      rw [e1, e2]
      simp)
    have R6 := Aside0.mk (show Rq W5 g' (P' ++ out ++ Q') S' from by
      rw [← hW5]
      unfold Rq
      rw [setRow_other wr g g' _ (by have := HG.out.1; omega)]
      exact HR2.out)
    have B5 := Aside0.mk (show Below w0.heap.size w0 W5 from by rw [← hW5]; exact below_setRow HWB.out HG.out.2.1 _)
    clear hW5 HR1 HR2 HWB
    go_wp2_with fail
    rw [HRUN.out]
    simp only [Result.andThen]
    rw [Oper.upon_value]
    go_wp2_with fail
    go_ret
    refine ⟨?_, B5.out, out, out, ?_, HD.out.2.1, HON.out, R5.out, R6.out⟩
    · have h1 := HI.out.1
      have h2 := HD.out.2.2
      have h3 := HCN.out
      have h4 := HC0.out
      rw [show invs X = m by omega]
      rfl
    · refine HD.out.1.trans ?_
      rw [HXX.out.1]
      exact HA.out.1.append HBB.out.1
  | succ k1 =>
    have hkn : decide ((k : Int) < (n : Int)) = true := decide_eq_true (by have := HI.out; omega)
    have hkn2 := eq_true (show k < n by have := HI.out; omega)
    obtain ⟨z, Zr', hzz⟩ : ∃ z Zr', Zr = z :: Zr' := by
      cases Zr with
      | nil => have := HI.out.2.2.2.2; have := HI.out; simp at this; omega
      | cons z Zr' => exact ⟨z, Zr', rfl⟩
    subst hzz
    have HRM := Aside0.mk HW.out.2.1
    have HRD := Aside0.mk HW.out.2.2
    have HWB := Aside0.mk HW.out.1
    clear HW
    have HKO := Aside0.mk (show out.length = k by have := HOL.out; have := HI.out; omega)
    have UA := Aside0.mk HA.out.2.1
    have UB := Aside0.mk HBB.out.2.1
    obtain ⟨cz, fz⟩ := HRD.out.cell (p' + k) z (get_dst HLP.out.2 HKO.out)
    have hmb := Aside0.mk (show m ≤ 1099511627776 by
      have h1 := HM.out.cnt
      have h2 := cross_app_le A (B.take j) (B.drop j)
      rw [List.take_append_drop] at h2
      have := HCN.out
      have := HC0.out
      have := HI.out
      have := HCB.out
      omega)
    have wd : wrap64 ((h : Int) - (i : Int)) = ((h - i : Nat) : Int) := by unfold wrap64; have := HIJ.out; have := HN.out; have := HH.out; omega
    have we : wrap64 ((m : Int) + ((h - i : Nat) : Int)) = ((m + (h - i) : Nat) : Int) := by unfold wrap64; have := hmb.out; have := HN.out; have := HH.out; omega
    by_cases hbn : b = n
    · have b1 : ((b : Int) == (n : Int)) = true := by simp [hbn]
      have b2 : (b == n) = true := by simp [hbn]
      have HBN := Aside0.mk hbn
      obtain ⟨x, hx⟩ : ∃ x, A[i]? = some x := ⟨_, List.getElem?_eq_getElem (by have := LA.out; have := HI.out; have := HIJ.out; omega)⟩
      have HX := Aside0.mk hx
      have ca := (HRM.out.cell (p + i) x (get_a HLP.out.1 hx)).1
      have i1 := eq_true (show i < n by have := HI.out; have := HIJ.out; have := HH.out; omega)
      have b3 : B[j]? = none := List.getElem?_eq_none_iff.2 (by have := HI.out; have := LA.out; omega)
      have HB3 := Aside0.mk b3
      clear hbn hx b3
      go_upto_region 9 with fail
      refine start_ (n := 20) (S := (fun w' => True)) (ds := []) #[false, false, false, false, false, false, false, false, false, false, false, false, false, false, false, false, false, false, false, false] (by kernel_rfl) rfl rfl ?_ ?_
      · trivial
      intro hHeld
      refine pure_ (i := 0) (N := some 37) (v := ?_) (a' := ?_) #[true, false, false, false, false, false, false, false, false, false, false, false, false, false, false, false, false, false, false, false] rfl rfl (by kernel_rfl) (fun _ _ _ h => h) (Or.inl ⟨by rfl, ?_⟩) ?_ ?_
      rotate_left
      · intro w'
        go_simp
        with_reducible rfl
      rotate_left
      · simp only [Act.put, List.setIfInBounds_toArray, List.set_cons_zero, List.set_cons_succ, i64_w, i32_w]
        rfl
      refine pure_ (i := 1) (N := some 38) (v := ?_) (a' := ?_) #[true, true, false, false, false, false, false, false, false, false, false, false, false, false, false, false, false, false, false, false] rfl rfl (by kernel_rfl) (fun _ _ _ h => h) (Or.inl ⟨by rfl, ?_⟩) ?_ ?_
      rotate_left
      · intro w'
        go_simp
        with_reducible rfl
      rotate_left
      · simp only [Act.put, List.setIfInBounds_toArray, List.set_cons_zero, List.set_cons_succ, i64_w, i32_w]
        rfl
      refine pure_ (i := 2) (N := some 39) (v := ?_) (a' := ?_) #[true, true, true, false, false, false, false, false, false, false, false, false, false, false, false, false, false, false, false, false] rfl rfl (by kernel_rfl) (fun _ _ _ h => h) (Or.inl ⟨by rfl, ?_⟩) ?_ ?_
      rotate_left
      · intro w'
        go_simp
        with_reducible rfl
      rotate_left
      · simp only [Act.put, List.setIfInBounds_toArray, List.set_cons_zero, List.set_cons_succ, i64_w, i32_w]
        rfl
      refine pure_ (i := 3) (N := some 40) (v := ?_) (a' := ?_) #[true, true, true, true, false, false, false, false, false, false, false, false, false, false, false, false, false, false, false, false] rfl rfl (by kernel_rfl) (fun _ _ _ h => h) (Or.inl ⟨by rfl, ?_⟩) ?_ ?_
      rotate_left
      · intro w'
        go_simp
        with_reducible rfl
      rotate_left
      · simp only [Act.put, List.setIfInBounds_toArray, List.set_cons_zero, List.set_cons_succ, i64_w, i32_w]
        rfl
      refine pure_ (i := 4) (N := some 41) (v := ?_) (a' := ?_) #[true, true, true, true, true, false, false, false, false, false, false, false, false, false, false, false, false, false, false, false] rfl rfl (by kernel_rfl) (fun _ _ _ h => h) (Or.inl ⟨by rfl, ?_⟩) ?_ ?_
      rotate_left
      · intro w'
        go_simp
        with_reducible rfl
      rotate_left
      · simp only [Act.put, List.setIfInBounds_toArray, List.set_cons_zero, List.set_cons_succ, i64_w, i32_w]
        rfl
      refine pure_ (i := 5) (N := some 42) (v := undef) (a' := ?_) #[true, true, true, true, true, true, false, false, false, false, false, false, false, false, false, false, false, false, false, false] rfl rfl (by kernel_rfl) (fun _ _ _ h => h) (Or.inr ⟨by rfl, rfl⟩) ?_ ?_
      rotate_left
      · simp only [Act.put, List.setIfInBounds_toArray, List.set_cons_zero, List.set_cons_succ, i64_w, i32_w]
        rfl
      refine pure_ (i := 6) (N := some 43) (v := undef) (a' := ?_) #[true, true, true, true, true, true, true, false, false, false, false, false, false, false, false, false, false, false, false, false] rfl rfl (by kernel_rfl) (fun _ _ _ h => h) (Or.inr ⟨by rfl, rfl⟩) ?_ ?_
      rotate_left
      · simp only [Act.put, List.setIfInBounds_toArray, List.set_cons_zero, List.set_cons_succ, i64_w, i32_w]
        rfl
      refine pure_ (i := 7) (N := some 44) (v := undef) (a' := ?_) #[true, true, true, true, true, true, true, true, false, false, false, false, false, false, false, false, false, false, false, false] rfl rfl (by kernel_rfl) (fun _ _ _ h => h) (Or.inr ⟨by rfl, rfl⟩) ?_ ?_
      rotate_left
      · simp only [Act.put, List.setIfInBounds_toArray, List.set_cons_zero, List.set_cons_succ, i64_w, i32_w]
        rfl
      refine pure_ (i := 8) (N := some 45) (v := undef) (a' := ?_) #[true, true, true, true, true, true, true, true, true, false, false, false, false, false, false, false, false, false, false, false] rfl rfl (by kernel_rfl) (fun _ _ _ h => h) (Or.inr ⟨by rfl, rfl⟩) ?_ ?_
      rotate_left
      · simp only [Act.put, List.setIfInBounds_toArray, List.set_cons_zero, List.set_cons_succ, i64_w, i32_w]
        rfl
      refine pure_ (i := 9) (N := some 46) (v := undef) (a' := ?_) #[true, true, true, true, true, true, true, true, true, true, false, false, false, false, false, false, false, false, false, false] rfl rfl (by kernel_rfl) (fun _ _ _ h => h) (Or.inr ⟨by rfl, rfl⟩) ?_ ?_
      rotate_left
      · simp only [Act.put, List.setIfInBounds_toArray, List.set_cons_zero, List.set_cons_succ, i64_w, i32_w]
        rfl
      refine pure_ (i := 10) (N := some 47) (v := undef) (a' := ?_) #[true, true, true, true, true, true, true, true, true, true, true, false, false, false, false, false, false, false, false, false] rfl rfl (by kernel_rfl) (fun _ _ _ h => h) (Or.inr ⟨by rfl, rfl⟩) ?_ ?_
      rotate_left
      · simp only [Act.put, List.setIfInBounds_toArray, List.set_cons_zero, List.set_cons_succ, i64_w, i32_w]
        rfl
      refine pure_ (i := 11) (N := some 48) (v := undef) (a' := ?_) #[true, true, true, true, true, true, true, true, true, true, true, true, false, false, false, false, false, false, false, false] rfl rfl (by kernel_rfl) (fun _ _ _ h => h) (Or.inr ⟨by rfl, rfl⟩) ?_ ?_
      rotate_left
      · simp only [Act.put, List.setIfInBounds_toArray, List.set_cons_zero, List.set_cons_succ, i64_w, i32_w]
        rfl
      refine pure_ (i := 13) (N := some 50) (v := undef) (a' := ?_) #[true, true, true, true, true, true, true, true, true, true, true, true, false, true, false, false, false, false, false, false] rfl rfl (by kernel_rfl) (fun _ _ _ h => h) (Or.inr ⟨by rfl, rfl⟩) ?_ ?_
      rotate_left
      · simp only [Act.put, List.setIfInBounds_toArray, List.set_cons_zero, List.set_cons_succ, i64_w, i32_w]
        rfl
      refine pure_ (i := 14) (N := some 51) (v := undef) (a' := ?_) #[true, true, true, true, true, true, true, true, true, true, true, true, false, true, true, false, false, false, false, false] rfl rfl (by kernel_rfl) (fun _ _ _ h => h) (Or.inr ⟨by rfl, rfl⟩) ?_ ?_
      rotate_left
      · simp only [Act.put, List.setIfInBounds_toArray, List.set_cons_zero, List.set_cons_succ, i64_w, i32_w]
        rfl
      refine pure_ (i := 15) (N := some 52) (v := undef) (a' := ?_) #[true, true, true, true, true, true, true, true, true, true, true, true, false, true, true, true, false, false, false, false] rfl rfl (by kernel_rfl) (fun _ _ _ h => h) (Or.inr ⟨by rfl, rfl⟩) ?_ ?_
      rotate_left
      · simp only [Act.put, List.setIfInBounds_toArray, List.set_cons_zero, List.set_cons_succ, i64_w, i32_w]
        rfl
      refine pure_ (i := 12) (N := some 49) (v := undef) (a' := ?_) #[true, true, true, true, true, true, true, true, true, true, true, true, true, true, true, true, false, false, false, false] rfl rfl (by kernel_rfl) (fun _ _ _ h => h) (Or.inr ⟨by rfl, rfl⟩) ?_ ?_
      rotate_left
      · simp only [Act.put, List.setIfInBounds_toArray, List.set_cons_zero, List.set_cons_succ, i64_w, i32_w]
        rfl
      refine pure_ (i := 16) (N := some 53) (v := undef) (a' := ?_) #[true, true, true, true, true, true, true, true, true, true, true, true, true, true, true, true, true, false, false, false] rfl rfl (by kernel_rfl) (fun _ _ _ h => h) (Or.inr ⟨by rfl, rfl⟩) ?_ ?_
      rotate_left
      · simp only [Act.put, List.setIfInBounds_toArray, List.set_cons_zero, List.set_cons_succ, i64_w, i32_w]
        rfl
      refine pure_ (i := 17) (N := some 54) (v := undef) (a' := ?_) #[true, true, true, true, true, true, true, true, true, true, true, true, true, true, true, true, true, true, false, false] rfl rfl (by kernel_rfl) (fun _ _ _ h => h) (Or.inr ⟨by rfl, rfl⟩) ?_ ?_
      rotate_left
      · simp only [Act.put, List.setIfInBounds_toArray, List.set_cons_zero, List.set_cons_succ, i64_w, i32_w]
        rfl
      refine pure_ (i := 18) (N := some 55) (v := undef) (a' := ?_) #[true, true, true, true, true, true, true, true, true, true, true, true, true, true, true, true, true, true, true, false] rfl rfl (by kernel_rfl) (fun _ _ _ h => h) (Or.inr ⟨by rfl, rfl⟩) ?_ ?_
      rotate_left
      · simp only [Act.put, List.setIfInBounds_toArray, List.set_cons_zero, List.set_cons_succ, i64_w, i32_w]
        rfl
      refine pure_ (i := 19) (N := some 56) (v := ?_) (a' := ?_) #[true, true, true, true, true, true, true, true, true, true, true, true, true, true, true, true, true, true, true, true] rfl rfl (by kernel_rfl) (fun _ _ _ h => h) (Or.inl ⟨by rfl, ?_⟩) ?_ ?_
      rotate_left
      · intro w'
        go_simp
        with_reducible rfl
      rotate_left
      · simp only [Act.put, List.setIfInBounds_toArray, List.set_cons_zero, List.set_cons_succ, i64_w, i32_w]
        rfl
      refine done_ (by kernel_rfl) ?_
      go_wp2_with fail
      have D3 := Aside0.mk (show Below w0.heap.size w0 (wr.drew.setCell ⟨g', p' + k, none⟩ (.int .i64 x)) ∧ Rq (wr.drew.setCell ⟨g', p' + k, none⟩ (.int .i64 x)) g (P ++ (A ++ B) ++ Q) S ∧ Rq (wr.drew.setCell ⟨g', p' + k, none⟩ (.int .i64 x)) g' (P' ++ ((out ++ [x]) ++ Zr') ++ Q') S' by
        refine ⟨below_set (below_drew HWB.out) HG.out.2.2, HRM.out.drew.far _ _ HG.out.1, ?_⟩
        have h1 := HRD.out.drew.set (p' + k) x (by rw [List.length_append, List.length_append, List.length_append, HLP.out.2, HKO.out, List.length_cons]; omega)
        rw [set_out HLP.out.2 HKO.out] at h1
        exact h1)
      go_roundg k1
      case measure => omega
      case rel => exact ⟨m, i + 1, b, k + 1, cnt, j, out ++ [x], Zr', rfl, rfl, rfl, rfl, ⟨HI.out.1, HI.out.2.1, by have := HI.out; omega, by have := HI.out; omega, by have := HI.out.2.2.2.2; rw [List.length_cons] at this; omega⟩, ⟨HM.out.left UA.out UB.out HX.out (fun b hb => by rw [HB3.out] at hb; cases hb)⟩, D3⟩

    have b1 : ((b : Int) == (n : Int)) = false := by simp; omega
    have b2 : (b == n) = false := by simp [hbn]
    obtain ⟨y, hy⟩ : ∃ y, B[j]? = some y := ⟨_, List.getElem?_eq_getElem (by have := LA.out; have := HI.out; have := HIJ.out; have := HH.out; omega)⟩
    have HY := Aside0.mk hy
    have cb := (HRM.out.cell (p + b) y (get_b HLP.out.1 (by rw [LA.out.1]; exact HI.out.2.1) hy)).1
    have b4 := eq_true (show b < n by have := HI.out; have := HIJ.out; have := HH.out; omega)
    clear hbn hy
    by_cases hih : i < h
    · have i2 := eq_true hih
      have i3 : decide ((i : Int) < (h : Int)) = true := decide_eq_true (by omega)
      obtain ⟨x, hx⟩ : ∃ x, A[i]? = some x := ⟨_, List.getElem?_eq_getElem (by have := LA.out; omega)⟩
      have HX := Aside0.mk hx
      have ca := (HRM.out.cell (p + i) x (get_a HLP.out.1 hx)).1
      have i1 := eq_true (show i < n by have := HH.out; omega)
      clear hih hx
      by_cases hxy : x ≤ y
      · have xy : decide (x ≤ y) = true := decide_eq_true hxy
        have HXY := Aside0.mk hxy
        clear hxy
        go_upto_region 9 with fail
        refine start_ (n := 20) (S := (fun w' => w'.cell? ⟨g, p + i, none⟩ = some (.int .i64 x) ∧ w'.cell? ⟨g, p + b, none⟩ = some (.int .i64 y))) (ds := []) #[false, false, false, false, false, false, false, false, false, false, false, false, false, false, false, false, false, false, false, false] (by kernel_rfl) rfl rfl ?_ ?_
        · exact ⟨ca, cb⟩
        intro hHeld
        refine pure_ (i := 0) (N := some 37) (v := ?_) (a' := ?_) #[true, false, false, false, false, false, false, false, false, false, false, false, false, false, false, false, false, false, false, false] rfl rfl (by kernel_rfl) (fun _ _ _ h => h) (Or.inl ⟨by rfl, ?_⟩) ?_ ?_
        rotate_left
        · intro w'
          go_simp
          with_reducible rfl
        rotate_left
        · simp only [Act.put, List.setIfInBounds_toArray, List.set_cons_zero, List.set_cons_succ, i64_w, i32_w]
          rfl
        refine pure_ (i := 1) (N := some 38) (v := ?_) (a' := ?_) #[true, true, false, false, false, false, false, false, false, false, false, false, false, false, false, false, false, false, false, false] rfl rfl (by kernel_rfl) (fun _ _ _ h => h) (Or.inl ⟨by rfl, ?_⟩) ?_ ?_
        rotate_left
        · intro w'
          go_simp
          with_reducible rfl
        rotate_left
        · simp only [Act.put, List.setIfInBounds_toArray, List.set_cons_zero, List.set_cons_succ, i64_w, i32_w]
          rfl
        refine pure_ (i := 2) (N := some 39) (v := ?_) (a' := ?_) #[true, true, true, false, false, false, false, false, false, false, false, false, false, false, false, false, false, false, false, false] rfl rfl (by kernel_rfl) (fun _ _ _ h => h) (Or.inl ⟨by rfl, ?_⟩) ?_ ?_
        rotate_left
        · intro w'
          go_simp
          with_reducible rfl
        rotate_left
        · simp only [Act.put, List.setIfInBounds_toArray, List.set_cons_zero, List.set_cons_succ, i64_w, i32_w]
          rfl
        refine pure_ (i := 3) (N := some 40) (v := ?_) (a' := ?_) #[true, true, true, true, false, false, false, false, false, false, false, false, false, false, false, false, false, false, false, false] rfl rfl (by kernel_rfl) (fun _ _ _ h => h) (Or.inl ⟨by rfl, ?_⟩) ?_ ?_
        rotate_left
        · intro w'
          go_simp
          with_reducible rfl
        rotate_left
        · simp only [Act.put, List.setIfInBounds_toArray, List.set_cons_zero, List.set_cons_succ, i64_w, i32_w]
          rfl
        refine pure_ (i := 4) (N := some 41) (v := ?_) (a' := ?_) #[true, true, true, true, true, false, false, false, false, false, false, false, false, false, false, false, false, false, false, false] rfl rfl (by kernel_rfl) (fun _ _ _ h => h) (Or.inl ⟨by rfl, ?_⟩) ?_ ?_
        rotate_left
        · intro w'
          go_simp
          with_reducible rfl
        rotate_left
        · simp only [Act.put, List.setIfInBounds_toArray, List.set_cons_zero, List.set_cons_succ, i64_w, i32_w]
          rfl
        refine pure_ (i := 5) (N := some 42) (v := ?_) (a' := ?_) #[true, true, true, true, true, true, false, false, false, false, false, false, false, false, false, false, false, false, false, false] rfl rfl (by kernel_rfl) (fun _ _ _ h => h) (Or.inl ⟨by rfl, ?_⟩) ?_ ?_
        rotate_left
        · intro w'
          go_simp
          with_reducible rfl
        rotate_left
        · simp only [Act.put, List.setIfInBounds_toArray, List.set_cons_zero, List.set_cons_succ, i64_w, i32_w]
          rfl
        refine pure_ (i := 6) (N := some 43) (v := ?_) (a' := ?_) #[true, true, true, true, true, true, true, false, false, false, false, false, false, false, false, false, false, false, false, false] rfl rfl (by kernel_rfl) (fun _ _ _ h => h) (Or.inl ⟨by rfl, ?_⟩) ?_ ?_
        rotate_left
        · intro w'
          go_simp
          with_reducible rfl
        rotate_left
        · simp only [Act.put, List.setIfInBounds_toArray, List.set_cons_zero, List.set_cons_succ, i64_w, i32_w]
          rfl
        refine pure_ (i := 7) (N := some 44) (v := ?_) (a' := ?_) #[true, true, true, true, true, true, true, true, false, false, false, false, false, false, false, false, false, false, false, false] rfl rfl (by kernel_rfl) (fun _ _ _ h => h) (Or.inl ⟨by rfl, ?_⟩) ?_ ?_
        rotate_left
        · intro w'
          go_simp
          with_reducible rfl
        rotate_left
        · simp only [Act.put, List.setIfInBounds_toArray, List.set_cons_zero, List.set_cons_succ, i64_w, i32_w]
          rfl
        refine pure_ (i := 8) (N := some 45) (v := ?_) (a' := ?_) #[true, true, true, true, true, true, true, true, true, false, false, false, false, false, false, false, false, false, false, false] rfl rfl (by kernel_rfl) (fun _ _ _ h => h) (Or.inl ⟨by rfl, ?_⟩) ?_ ?_
        rotate_left
        · intro w'
          go_simp
          with_reducible rfl
        rotate_left
        · simp only [Act.put, List.setIfInBounds_toArray, List.set_cons_zero, List.set_cons_succ, i64_w, i32_w]
          rfl
        refine pure_ (i := 9) (N := some 46) (v := ?_) (a' := ?_) #[true, true, true, true, true, true, true, true, true, true, false, false, false, false, false, false, false, false, false, false] rfl rfl (by kernel_rfl) (fun _ _ _ h => h) (Or.inl ⟨by rfl, ?_⟩) ?_ ?_
        rotate_left
        · intro w'
          go_simp
          with_reducible rfl
        rotate_left
        · simp only [Act.put, List.setIfInBounds_toArray, List.set_cons_zero, List.set_cons_succ, i64_w, i32_w]
          rfl
        refine pure_ (i := 10) (N := some 47) (v := ?_) (a' := ?_) #[true, true, true, true, true, true, true, true, true, true, true, false, false, false, false, false, false, false, false, false] rfl rfl (by kernel_rfl) (fun _ _ _ h => h) (Or.inl ⟨by rfl, ?_⟩) ?_ ?_
        rotate_left
        · intro w'
          go_simp
          with_reducible rfl
        rotate_left
        · simp only [Act.put, List.setIfInBounds_toArray, List.set_cons_zero, List.set_cons_succ, i64_w, i32_w]
          rfl
        refine pure_ (i := 11) (N := some 48) (v := ?_) (a' := ?_) #[true, true, true, true, true, true, true, true, true, true, true, true, false, false, false, false, false, false, false, false] rfl rfl (by kernel_rfl) (fun _ _ _ h => h) (Or.inl ⟨by rfl, ?_⟩) ?_ ?_
        rotate_left
        · intro w'
          go_simp
          with_reducible rfl
        rotate_left
        · simp only [Act.put, List.setIfInBounds_toArray, List.set_cons_zero, List.set_cons_succ, i64_w, i32_w]
          rfl
        refine pure_ (i := 13) (N := some 50) (v := ?_) (a' := ?_) #[true, true, true, true, true, true, true, true, true, true, true, true, false, true, false, false, false, false, false, false] rfl rfl (by kernel_rfl) (fun _ _ _ h => h) (Or.inl ⟨by rfl, ?_⟩) ?_ ?_
        rotate_left
        · intro w'
          go_simp
          with_reducible rfl
        rotate_left
        · simp only [Act.put, List.setIfInBounds_toArray, List.set_cons_zero, List.set_cons_succ, i64_w, i32_w]
          rfl
        refine pure_ (i := 14) (N := some 51) (v := ?_) (a' := ?_) #[true, true, true, true, true, true, true, true, true, true, true, true, false, true, true, false, false, false, false, false] rfl rfl (by kernel_rfl) (fun _ _ _ h => h) (Or.inl ⟨by rfl, ?_⟩) ?_ ?_
        rotate_left
        · intro w'
          go_simp
          with_reducible rfl
        rotate_left
        · simp only [Act.put, List.setIfInBounds_toArray, List.set_cons_zero, List.set_cons_succ, i64_w, i32_w]
          rfl
        refine pure_ (i := 15) (N := some 52) (v := ?_) (a' := ?_) #[true, true, true, true, true, true, true, true, true, true, true, true, false, true, true, true, false, false, false, false] rfl rfl (by kernel_rfl) (fun _ _ _ h => h) (Or.inl ⟨by rfl, ?_⟩) ?_ ?_
        rotate_left
        · intro w'
          go_simp
          with_reducible rfl
        rotate_left
        · simp only [Act.put, List.setIfInBounds_toArray, List.set_cons_zero, List.set_cons_succ, i64_w, i32_w]
          rfl
        refine take_ (i := 12) (N := some 49) (v := ?_) (a' := ?_) #[true, true, true, true, true, true, true, true, true, true, true, true, true, true, true, true, false, false, false, false] rfl rfl (by kernel_rfl) (fun _ _ _ h => h) (Or.inl ⟨by rfl, ?_⟩) hHeld ?_ ?_
        rotate_left
        · rintro w' ⟨s0, s1⟩
          go_simp
          with_reducible rfl
        rotate_left
        · simp only [Act.put, List.setIfInBounds_toArray, List.set_cons_zero, List.set_cons_succ, i64_w, i32_w]
          rfl
        refine take_ (i := 16) (N := some 53) (v := ?_) (a' := ?_) #[true, true, true, true, true, true, true, true, true, true, true, true, true, true, true, true, true, false, false, false] rfl rfl (by kernel_rfl) (fun _ _ _ h => h) (Or.inl ⟨by rfl, ?_⟩) hHeld ?_ ?_
        rotate_left
        · rintro w' ⟨s0, s1⟩
          go_simp
          with_reducible rfl
        rotate_left
        · simp only [Act.put, List.setIfInBounds_toArray, List.set_cons_zero, List.set_cons_succ, i64_w, i32_w]
          rfl
        refine pure_ (i := 17) (N := some 54) (v := ?_) (a' := ?_) #[true, true, true, true, true, true, true, true, true, true, true, true, true, true, true, true, true, true, false, false] rfl rfl (by kernel_rfl) (fun _ _ _ h => h) (Or.inl ⟨by rfl, ?_⟩) ?_ ?_
        rotate_left
        · intro w'
          go_simp
          with_reducible rfl
        rotate_left
        · simp only [Act.put, List.setIfInBounds_toArray, List.set_cons_zero, List.set_cons_succ, i64_w, i32_w]
          rfl
        refine pure_ (i := 18) (N := some 55) (v := ?_) (a' := ?_) #[true, true, true, true, true, true, true, true, true, true, true, true, true, true, true, true, true, true, true, false] rfl rfl (by kernel_rfl) (fun _ _ _ h => h) (Or.inl ⟨by rfl, ?_⟩) ?_ ?_
        rotate_left
        · intro w'
          go_simp
          with_reducible rfl
        rotate_left
        · simp only [Act.put, List.setIfInBounds_toArray, List.set_cons_zero, List.set_cons_succ, i64_w, i32_w]
          rfl
        refine pure_ (i := 19) (N := some 56) (v := ?_) (a' := ?_) #[true, true, true, true, true, true, true, true, true, true, true, true, true, true, true, true, true, true, true, true] rfl rfl (by kernel_rfl) (fun _ _ _ h => h) (Or.inl ⟨by rfl, ?_⟩) ?_ ?_
        rotate_left
        · intro w'
          go_simp
          with_reducible rfl
        rotate_left
        · simp only [Act.put, List.setIfInBounds_toArray, List.set_cons_zero, List.set_cons_succ, i64_w, i32_w]
          rfl
        refine done_ (by kernel_rfl) ?_
        go_wp2_with fail
        have D3 := Aside0.mk (show Below w0.heap.size w0 (wr.drew.setCell ⟨g', p' + k, none⟩ (.int .i64 x)) ∧ Rq (wr.drew.setCell ⟨g', p' + k, none⟩ (.int .i64 x)) g (P ++ (A ++ B) ++ Q) S ∧ Rq (wr.drew.setCell ⟨g', p' + k, none⟩ (.int .i64 x)) g' (P' ++ ((out ++ [x]) ++ Zr') ++ Q') S' by
          refine ⟨below_set (below_drew HWB.out) HG.out.2.2, HRM.out.drew.far _ _ HG.out.1, ?_⟩
          have h1 := HRD.out.drew.set (p' + k) x (by rw [List.length_append, List.length_append, List.length_append, HLP.out.2, HKO.out, List.length_cons]; omega)
          rw [set_out HLP.out.2 HKO.out] at h1
          exact h1)
        go_roundg k1
        case measure => omega
        case rel => exact ⟨m, i + 1, b, k + 1, cnt, j, out ++ [x], Zr', rfl, rfl, rfl, rfl, ⟨HI.out.1, HI.out.2.1, by have := HI.out; omega, by have := HI.out; omega, by have := HI.out.2.2.2.2; rw [List.length_cons] at this; omega⟩, ⟨HM.out.left UA.out UB.out HX.out (fun b hb => by rw [HY.out] at hb; injection hb with hb; rw [← hb]; exact HXY.out)⟩, D3⟩

      · have xy : decide (x ≤ y) = false := decide_eq_false hxy
        have HXY := Aside0.mk hxy
        clear hxy
        go_upto_region 9 with fail
        refine start_ (n := 20) (S := (fun w' => w'.cell? ⟨g, p + i, none⟩ = some (.int .i64 x) ∧ w'.cell? ⟨g, p + b, none⟩ = some (.int .i64 y))) (ds := []) #[false, false, false, false, false, false, false, false, false, false, false, false, false, false, false, false, false, false, false, false] (by kernel_rfl) rfl rfl ?_ ?_
        · exact ⟨ca, cb⟩
        intro hHeld
        refine pure_ (i := 0) (N := some 37) (v := ?_) (a' := ?_) #[true, false, false, false, false, false, false, false, false, false, false, false, false, false, false, false, false, false, false, false] rfl rfl (by kernel_rfl) (fun _ _ _ h => h) (Or.inl ⟨by rfl, ?_⟩) ?_ ?_
        rotate_left
        · intro w'
          go_simp
          with_reducible rfl
        rotate_left
        · simp only [Act.put, List.setIfInBounds_toArray, List.set_cons_zero, List.set_cons_succ, i64_w, i32_w]
          rfl
        refine pure_ (i := 1) (N := some 38) (v := ?_) (a' := ?_) #[true, true, false, false, false, false, false, false, false, false, false, false, false, false, false, false, false, false, false, false] rfl rfl (by kernel_rfl) (fun _ _ _ h => h) (Or.inl ⟨by rfl, ?_⟩) ?_ ?_
        rotate_left
        · intro w'
          go_simp
          with_reducible rfl
        rotate_left
        · simp only [Act.put, List.setIfInBounds_toArray, List.set_cons_zero, List.set_cons_succ, i64_w, i32_w]
          rfl
        refine pure_ (i := 2) (N := some 39) (v := ?_) (a' := ?_) #[true, true, true, false, false, false, false, false, false, false, false, false, false, false, false, false, false, false, false, false] rfl rfl (by kernel_rfl) (fun _ _ _ h => h) (Or.inl ⟨by rfl, ?_⟩) ?_ ?_
        rotate_left
        · intro w'
          go_simp
          with_reducible rfl
        rotate_left
        · simp only [Act.put, List.setIfInBounds_toArray, List.set_cons_zero, List.set_cons_succ, i64_w, i32_w]
          rfl
        refine pure_ (i := 3) (N := some 40) (v := ?_) (a' := ?_) #[true, true, true, true, false, false, false, false, false, false, false, false, false, false, false, false, false, false, false, false] rfl rfl (by kernel_rfl) (fun _ _ _ h => h) (Or.inl ⟨by rfl, ?_⟩) ?_ ?_
        rotate_left
        · intro w'
          go_simp
          with_reducible rfl
        rotate_left
        · simp only [Act.put, List.setIfInBounds_toArray, List.set_cons_zero, List.set_cons_succ, i64_w, i32_w]
          rfl
        refine pure_ (i := 4) (N := some 41) (v := ?_) (a' := ?_) #[true, true, true, true, true, false, false, false, false, false, false, false, false, false, false, false, false, false, false, false] rfl rfl (by kernel_rfl) (fun _ _ _ h => h) (Or.inl ⟨by rfl, ?_⟩) ?_ ?_
        rotate_left
        · intro w'
          go_simp
          with_reducible rfl
        rotate_left
        · simp only [Act.put, List.setIfInBounds_toArray, List.set_cons_zero, List.set_cons_succ, i64_w, i32_w]
          rfl
        refine pure_ (i := 5) (N := some 42) (v := ?_) (a' := ?_) #[true, true, true, true, true, true, false, false, false, false, false, false, false, false, false, false, false, false, false, false] rfl rfl (by kernel_rfl) (fun _ _ _ h => h) (Or.inl ⟨by rfl, ?_⟩) ?_ ?_
        rotate_left
        · intro w'
          go_simp
          with_reducible rfl
        rotate_left
        · simp only [Act.put, List.setIfInBounds_toArray, List.set_cons_zero, List.set_cons_succ, i64_w, i32_w]
          rfl
        refine pure_ (i := 6) (N := some 43) (v := ?_) (a' := ?_) #[true, true, true, true, true, true, true, false, false, false, false, false, false, false, false, false, false, false, false, false] rfl rfl (by kernel_rfl) (fun _ _ _ h => h) (Or.inl ⟨by rfl, ?_⟩) ?_ ?_
        rotate_left
        · intro w'
          go_simp
          with_reducible rfl
        rotate_left
        · simp only [Act.put, List.setIfInBounds_toArray, List.set_cons_zero, List.set_cons_succ, i64_w, i32_w]
          rfl
        refine pure_ (i := 7) (N := some 44) (v := ?_) (a' := ?_) #[true, true, true, true, true, true, true, true, false, false, false, false, false, false, false, false, false, false, false, false] rfl rfl (by kernel_rfl) (fun _ _ _ h => h) (Or.inl ⟨by rfl, ?_⟩) ?_ ?_
        rotate_left
        · intro w'
          go_simp
          with_reducible rfl
        rotate_left
        · simp only [Act.put, List.setIfInBounds_toArray, List.set_cons_zero, List.set_cons_succ, i64_w, i32_w]
          rfl
        refine pure_ (i := 8) (N := some 45) (v := ?_) (a' := ?_) #[true, true, true, true, true, true, true, true, true, false, false, false, false, false, false, false, false, false, false, false] rfl rfl (by kernel_rfl) (fun _ _ _ h => h) (Or.inl ⟨by rfl, ?_⟩) ?_ ?_
        rotate_left
        · intro w'
          go_simp
          with_reducible rfl
        rotate_left
        · simp only [Act.put, List.setIfInBounds_toArray, List.set_cons_zero, List.set_cons_succ, i64_w, i32_w]
          rfl
        refine pure_ (i := 9) (N := some 46) (v := ?_) (a' := ?_) #[true, true, true, true, true, true, true, true, true, true, false, false, false, false, false, false, false, false, false, false] rfl rfl (by kernel_rfl) (fun _ _ _ h => h) (Or.inl ⟨by rfl, ?_⟩) ?_ ?_
        rotate_left
        · intro w'
          go_simp
          with_reducible rfl
        rotate_left
        · simp only [Act.put, List.setIfInBounds_toArray, List.set_cons_zero, List.set_cons_succ, i64_w, i32_w]
          rfl
        refine pure_ (i := 10) (N := some 47) (v := ?_) (a' := ?_) #[true, true, true, true, true, true, true, true, true, true, true, false, false, false, false, false, false, false, false, false] rfl rfl (by kernel_rfl) (fun _ _ _ h => h) (Or.inl ⟨by rfl, ?_⟩) ?_ ?_
        rotate_left
        · intro w'
          go_simp
          with_reducible rfl
        rotate_left
        · simp only [Act.put, List.setIfInBounds_toArray, List.set_cons_zero, List.set_cons_succ, i64_w, i32_w]
          rfl
        refine pure_ (i := 11) (N := some 48) (v := ?_) (a' := ?_) #[true, true, true, true, true, true, true, true, true, true, true, true, false, false, false, false, false, false, false, false] rfl rfl (by kernel_rfl) (fun _ _ _ h => h) (Or.inl ⟨by rfl, ?_⟩) ?_ ?_
        rotate_left
        · intro w'
          go_simp
          with_reducible rfl
        rotate_left
        · simp only [Act.put, List.setIfInBounds_toArray, List.set_cons_zero, List.set_cons_succ, i64_w, i32_w]
          rfl
        refine pure_ (i := 13) (N := some 50) (v := ?_) (a' := ?_) #[true, true, true, true, true, true, true, true, true, true, true, true, false, true, false, false, false, false, false, false] rfl rfl (by kernel_rfl) (fun _ _ _ h => h) (Or.inl ⟨by rfl, ?_⟩) ?_ ?_
        rotate_left
        · intro w'
          go_simp
          with_reducible rfl
        rotate_left
        · simp only [Act.put, List.setIfInBounds_toArray, List.set_cons_zero, List.set_cons_succ, i64_w, i32_w]
          rfl
        refine pure_ (i := 14) (N := some 51) (v := ?_) (a' := ?_) #[true, true, true, true, true, true, true, true, true, true, true, true, false, true, true, false, false, false, false, false] rfl rfl (by kernel_rfl) (fun _ _ _ h => h) (Or.inl ⟨by rfl, ?_⟩) ?_ ?_
        rotate_left
        · intro w'
          go_simp
          with_reducible rfl
        rotate_left
        · simp only [Act.put, List.setIfInBounds_toArray, List.set_cons_zero, List.set_cons_succ, i64_w, i32_w]
          rfl
        refine pure_ (i := 15) (N := some 52) (v := ?_) (a' := ?_) #[true, true, true, true, true, true, true, true, true, true, true, true, false, true, true, true, false, false, false, false] rfl rfl (by kernel_rfl) (fun _ _ _ h => h) (Or.inl ⟨by rfl, ?_⟩) ?_ ?_
        rotate_left
        · intro w'
          go_simp
          with_reducible rfl
        rotate_left
        · simp only [Act.put, List.setIfInBounds_toArray, List.set_cons_zero, List.set_cons_succ, i64_w, i32_w]
          rfl
        refine take_ (i := 12) (N := some 49) (v := ?_) (a' := ?_) #[true, true, true, true, true, true, true, true, true, true, true, true, true, true, true, true, false, false, false, false] rfl rfl (by kernel_rfl) (fun _ _ _ h => h) (Or.inl ⟨by rfl, ?_⟩) hHeld ?_ ?_
        rotate_left
        · rintro w' ⟨s0, s1⟩
          go_simp
          with_reducible rfl
        rotate_left
        · simp only [Act.put, List.setIfInBounds_toArray, List.set_cons_zero, List.set_cons_succ, i64_w, i32_w]
          rfl
        refine take_ (i := 16) (N := some 53) (v := ?_) (a' := ?_) #[true, true, true, true, true, true, true, true, true, true, true, true, true, true, true, true, true, false, false, false] rfl rfl (by kernel_rfl) (fun _ _ _ h => h) (Or.inl ⟨by rfl, ?_⟩) hHeld ?_ ?_
        rotate_left
        · rintro w' ⟨s0, s1⟩
          go_simp
          with_reducible rfl
        rotate_left
        · simp only [Act.put, List.setIfInBounds_toArray, List.set_cons_zero, List.set_cons_succ, i64_w, i32_w]
          rfl
        refine pure_ (i := 17) (N := some 54) (v := ?_) (a' := ?_) #[true, true, true, true, true, true, true, true, true, true, true, true, true, true, true, true, true, true, false, false] rfl rfl (by kernel_rfl) (fun _ _ _ h => h) (Or.inl ⟨by rfl, ?_⟩) ?_ ?_
        rotate_left
        · intro w'
          go_simp
          with_reducible rfl
        rotate_left
        · simp only [Act.put, List.setIfInBounds_toArray, List.set_cons_zero, List.set_cons_succ, i64_w, i32_w]
          rfl
        refine pure_ (i := 18) (N := some 55) (v := ?_) (a' := ?_) #[true, true, true, true, true, true, true, true, true, true, true, true, true, true, true, true, true, true, true, false] rfl rfl (by kernel_rfl) (fun _ _ _ h => h) (Or.inl ⟨by rfl, ?_⟩) ?_ ?_
        rotate_left
        · intro w'
          go_simp
          with_reducible rfl
        rotate_left
        · simp only [Act.put, List.setIfInBounds_toArray, List.set_cons_zero, List.set_cons_succ, i64_w, i32_w]
          rfl
        refine pure_ (i := 19) (N := some 56) (v := ?_) (a' := ?_) #[true, true, true, true, true, true, true, true, true, true, true, true, true, true, true, true, true, true, true, true] rfl rfl (by kernel_rfl) (fun _ _ _ h => h) (Or.inl ⟨by rfl, ?_⟩) ?_ ?_
        rotate_left
        · intro w'
          go_simp
          with_reducible rfl
        rotate_left
        · simp only [Act.put, List.setIfInBounds_toArray, List.set_cons_zero, List.set_cons_succ, i64_w, i32_w]
          rfl
        refine done_ (by kernel_rfl) ?_
        have HX2 := Aside0.mk (show ∀ a, A[i]? = some a → y < a from fun a ha => by rw [HX.out] at ha; injection ha with ha; have := HXY.out; omega)
        go_wp2_with fail
        have D3 := Aside0.mk (show Below w0.heap.size w0 (wr.drew.setCell ⟨g', p' + k, none⟩ (.int .i64 y)) ∧ Rq (wr.drew.setCell ⟨g', p' + k, none⟩ (.int .i64 y)) g (P ++ (A ++ B) ++ Q) S ∧ Rq (wr.drew.setCell ⟨g', p' + k, none⟩ (.int .i64 y)) g' (P' ++ ((out ++ [y]) ++ Zr') ++ Q') S' by
          refine ⟨below_set (below_drew HWB.out) HG.out.2.2, HRM.out.drew.far _ _ HG.out.1, ?_⟩
          have h1 := HRD.out.drew.set (p' + k) y (by rw [List.length_append, List.length_append, List.length_append, HLP.out.2, HKO.out, List.length_cons]; omega)
          rw [set_out HLP.out.2 HKO.out] at h1
          exact h1)
        go_roundg k1
        case measure => omega
        case rel => exact ⟨m + (h - i), i, b + 1, k + 1, cnt + (h - i), j + 1, out ++ [y], Zr', by first | rw [we] | rw [← Int.natCast_add], rfl, rfl, rfl, ⟨by have := HI.out; omega, by have := HI.out; omega, by have := HI.out; omega, by have := HI.out; omega, by have := HI.out.2.2.2.2; rw [List.length_cons] at this; omega⟩, ⟨by have h9 := HM.out.right UA.out UB.out HY.out HX2.out; rw [LA.out.1] at h9; exact h9⟩, D3⟩

    · have i2 := eq_false hih
      have i3 : decide ((i : Int) < (h : Int)) = false := decide_eq_false (by omega)
      have HX2 := Aside0.mk (show ∀ a, A[i]? = some a → y < a from fun a ha => by rw [List.getElem?_eq_none_iff.2 (by have := LA.out; omega)] at ha; cases ha)
      clear hih
      go_upto_region 9 with fail
      refine start_ (n := 20) (S := (fun w' => True)) (ds := []) #[false, false, false, false, false, false, false, false, false, false, false, false, false, false, false, false, false, false, false, false] (by kernel_rfl) rfl rfl ?_ ?_
      · trivial
      intro hHeld
      refine pure_ (i := 0) (N := some 37) (v := ?_) (a' := ?_) #[true, false, false, false, false, false, false, false, false, false, false, false, false, false, false, false, false, false, false, false] rfl rfl (by kernel_rfl) (fun _ _ _ h => h) (Or.inl ⟨by rfl, ?_⟩) ?_ ?_
      rotate_left
      · intro w'
        go_simp
        with_reducible rfl
      rotate_left
      · simp only [Act.put, List.setIfInBounds_toArray, List.set_cons_zero, List.set_cons_succ, i64_w, i32_w]
        rfl
      refine pure_ (i := 1) (N := some 38) (v := ?_) (a' := ?_) #[true, true, false, false, false, false, false, false, false, false, false, false, false, false, false, false, false, false, false, false] rfl rfl (by kernel_rfl) (fun _ _ _ h => h) (Or.inl ⟨by rfl, ?_⟩) ?_ ?_
      rotate_left
      · intro w'
        go_simp
        with_reducible rfl
      rotate_left
      · simp only [Act.put, List.setIfInBounds_toArray, List.set_cons_zero, List.set_cons_succ, i64_w, i32_w]
        rfl
      refine pure_ (i := 2) (N := some 39) (v := ?_) (a' := ?_) #[true, true, true, false, false, false, false, false, false, false, false, false, false, false, false, false, false, false, false, false] rfl rfl (by kernel_rfl) (fun _ _ _ h => h) (Or.inl ⟨by rfl, ?_⟩) ?_ ?_
      rotate_left
      · intro w'
        go_simp
        with_reducible rfl
      rotate_left
      · simp only [Act.put, List.setIfInBounds_toArray, List.set_cons_zero, List.set_cons_succ, i64_w, i32_w]
        rfl
      refine pure_ (i := 3) (N := some 40) (v := ?_) (a' := ?_) #[true, true, true, true, false, false, false, false, false, false, false, false, false, false, false, false, false, false, false, false] rfl rfl (by kernel_rfl) (fun _ _ _ h => h) (Or.inl ⟨by rfl, ?_⟩) ?_ ?_
      rotate_left
      · intro w'
        go_simp
        with_reducible rfl
      rotate_left
      · simp only [Act.put, List.setIfInBounds_toArray, List.set_cons_zero, List.set_cons_succ, i64_w, i32_w]
        rfl
      refine pure_ (i := 4) (N := some 41) (v := ?_) (a' := ?_) #[true, true, true, true, true, false, false, false, false, false, false, false, false, false, false, false, false, false, false, false] rfl rfl (by kernel_rfl) (fun _ _ _ h => h) (Or.inl ⟨by rfl, ?_⟩) ?_ ?_
      rotate_left
      · intro w'
        go_simp
        with_reducible rfl
      rotate_left
      · simp only [Act.put, List.setIfInBounds_toArray, List.set_cons_zero, List.set_cons_succ, i64_w, i32_w]
        rfl
      refine pure_ (i := 5) (N := some 42) (v := ?_) (a' := ?_) #[true, true, true, true, true, true, false, false, false, false, false, false, false, false, false, false, false, false, false, false] rfl rfl (by kernel_rfl) (fun _ _ _ h => h) (Or.inl ⟨by rfl, ?_⟩) ?_ ?_
      rotate_left
      · intro w'
        go_simp
        with_reducible rfl
      rotate_left
      · simp only [Act.put, List.setIfInBounds_toArray, List.set_cons_zero, List.set_cons_succ, i64_w, i32_w]
        rfl
      refine pure_ (i := 6) (N := some 43) (v := ?_) (a' := ?_) #[true, true, true, true, true, true, true, false, false, false, false, false, false, false, false, false, false, false, false, false] rfl rfl (by kernel_rfl) (fun _ _ _ h => h) (Or.inl ⟨by rfl, ?_⟩) ?_ ?_
      rotate_left
      · intro w'
        go_simp
        with_reducible rfl
      rotate_left
      · simp only [Act.put, List.setIfInBounds_toArray, List.set_cons_zero, List.set_cons_succ, i64_w, i32_w]
        rfl
      refine pure_ (i := 7) (N := some 44) (v := ?_) (a' := ?_) #[true, true, true, true, true, true, true, true, false, false, false, false, false, false, false, false, false, false, false, false] rfl rfl (by kernel_rfl) (fun _ _ _ h => h) (Or.inl ⟨by rfl, ?_⟩) ?_ ?_
      rotate_left
      · intro w'
        go_simp
        with_reducible rfl
      rotate_left
      · simp only [Act.put, List.setIfInBounds_toArray, List.set_cons_zero, List.set_cons_succ, i64_w, i32_w]
        rfl
      refine pure_ (i := 8) (N := some 45) (v := ?_) (a' := ?_) #[true, true, true, true, true, true, true, true, true, false, false, false, false, false, false, false, false, false, false, false] rfl rfl (by kernel_rfl) (fun _ _ _ h => h) (Or.inl ⟨by rfl, ?_⟩) ?_ ?_
      rotate_left
      · intro w'
        go_simp
        with_reducible rfl
      rotate_left
      · simp only [Act.put, List.setIfInBounds_toArray, List.set_cons_zero, List.set_cons_succ, i64_w, i32_w]
        rfl
      refine pure_ (i := 9) (N := some 46) (v := undef) (a' := ?_) #[true, true, true, true, true, true, true, true, true, true, false, false, false, false, false, false, false, false, false, false] rfl rfl (by kernel_rfl) (fun _ _ _ h => h) (Or.inr ⟨by rfl, rfl⟩) ?_ ?_
      rotate_left
      · simp only [Act.put, List.setIfInBounds_toArray, List.set_cons_zero, List.set_cons_succ, i64_w, i32_w]
        rfl
      refine pure_ (i := 10) (N := some 47) (v := undef) (a' := ?_) #[true, true, true, true, true, true, true, true, true, true, true, false, false, false, false, false, false, false, false, false] rfl rfl (by kernel_rfl) (fun _ _ _ h => h) (Or.inr ⟨by rfl, rfl⟩) ?_ ?_
      rotate_left
      · simp only [Act.put, List.setIfInBounds_toArray, List.set_cons_zero, List.set_cons_succ, i64_w, i32_w]
        rfl
      refine pure_ (i := 11) (N := some 48) (v := undef) (a' := ?_) #[true, true, true, true, true, true, true, true, true, true, true, true, false, false, false, false, false, false, false, false] rfl rfl (by kernel_rfl) (fun _ _ _ h => h) (Or.inr ⟨by rfl, rfl⟩) ?_ ?_
      rotate_left
      · simp only [Act.put, List.setIfInBounds_toArray, List.set_cons_zero, List.set_cons_succ, i64_w, i32_w]
        rfl
      refine pure_ (i := 13) (N := some 50) (v := undef) (a' := ?_) #[true, true, true, true, true, true, true, true, true, true, true, true, false, true, false, false, false, false, false, false] rfl rfl (by kernel_rfl) (fun _ _ _ h => h) (Or.inr ⟨by rfl, rfl⟩) ?_ ?_
      rotate_left
      · simp only [Act.put, List.setIfInBounds_toArray, List.set_cons_zero, List.set_cons_succ, i64_w, i32_w]
        rfl
      refine pure_ (i := 14) (N := some 51) (v := undef) (a' := ?_) #[true, true, true, true, true, true, true, true, true, true, true, true, false, true, true, false, false, false, false, false] rfl rfl (by kernel_rfl) (fun _ _ _ h => h) (Or.inr ⟨by rfl, rfl⟩) ?_ ?_
      rotate_left
      · simp only [Act.put, List.setIfInBounds_toArray, List.set_cons_zero, List.set_cons_succ, i64_w, i32_w]
        rfl
      refine pure_ (i := 15) (N := some 52) (v := undef) (a' := ?_) #[true, true, true, true, true, true, true, true, true, true, true, true, false, true, true, true, false, false, false, false] rfl rfl (by kernel_rfl) (fun _ _ _ h => h) (Or.inr ⟨by rfl, rfl⟩) ?_ ?_
      rotate_left
      · simp only [Act.put, List.setIfInBounds_toArray, List.set_cons_zero, List.set_cons_succ, i64_w, i32_w]
        rfl
      refine pure_ (i := 12) (N := some 49) (v := undef) (a' := ?_) #[true, true, true, true, true, true, true, true, true, true, true, true, true, true, true, true, false, false, false, false] rfl rfl (by kernel_rfl) (fun _ _ _ h => h) (Or.inr ⟨by rfl, rfl⟩) ?_ ?_
      rotate_left
      · simp only [Act.put, List.setIfInBounds_toArray, List.set_cons_zero, List.set_cons_succ, i64_w, i32_w]
        rfl
      refine pure_ (i := 16) (N := some 53) (v := undef) (a' := ?_) #[true, true, true, true, true, true, true, true, true, true, true, true, true, true, true, true, true, false, false, false] rfl rfl (by kernel_rfl) (fun _ _ _ h => h) (Or.inr ⟨by rfl, rfl⟩) ?_ ?_
      rotate_left
      · simp only [Act.put, List.setIfInBounds_toArray, List.set_cons_zero, List.set_cons_succ, i64_w, i32_w]
        rfl
      refine pure_ (i := 17) (N := some 54) (v := undef) (a' := ?_) #[true, true, true, true, true, true, true, true, true, true, true, true, true, true, true, true, true, true, false, false] rfl rfl (by kernel_rfl) (fun _ _ _ h => h) (Or.inr ⟨by rfl, rfl⟩) ?_ ?_
      rotate_left
      · simp only [Act.put, List.setIfInBounds_toArray, List.set_cons_zero, List.set_cons_succ, i64_w, i32_w]
        rfl
      refine pure_ (i := 18) (N := some 55) (v := ?_) (a' := ?_) #[true, true, true, true, true, true, true, true, true, true, true, true, true, true, true, true, true, true, true, false] rfl rfl (by kernel_rfl) (fun _ _ _ h => h) (Or.inl ⟨by rfl, ?_⟩) ?_ ?_
      rotate_left
      · intro w'
        go_simp
        with_reducible rfl
      rotate_left
      · simp only [Act.put, List.setIfInBounds_toArray, List.set_cons_zero, List.set_cons_succ, i64_w, i32_w]
        rfl
      refine pure_ (i := 19) (N := some 56) (v := ?_) (a' := ?_) #[true, true, true, true, true, true, true, true, true, true, true, true, true, true, true, true, true, true, true, true] rfl rfl (by kernel_rfl) (fun _ _ _ h => h) (Or.inl ⟨by rfl, ?_⟩) ?_ ?_
      rotate_left
      · intro w'
        go_simp
        with_reducible rfl
      rotate_left
      · simp only [Act.put, List.setIfInBounds_toArray, List.set_cons_zero, List.set_cons_succ, i64_w, i32_w]
        rfl
      refine done_ (by kernel_rfl) ?_
      go_wp2_with fail
      have D3 := Aside0.mk (show Below w0.heap.size w0 (wr.drew.setCell ⟨g', p' + k, none⟩ (.int .i64 y)) ∧ Rq (wr.drew.setCell ⟨g', p' + k, none⟩ (.int .i64 y)) g (P ++ (A ++ B) ++ Q) S ∧ Rq (wr.drew.setCell ⟨g', p' + k, none⟩ (.int .i64 y)) g' (P' ++ ((out ++ [y]) ++ Zr') ++ Q') S' by
        refine ⟨below_set (below_drew HWB.out) HG.out.2.2, HRM.out.drew.far _ _ HG.out.1, ?_⟩
        have h1 := HRD.out.drew.set (p' + k) y (by rw [List.length_append, List.length_append, List.length_append, HLP.out.2, HKO.out, List.length_cons]; omega)
        rw [set_out HLP.out.2 HKO.out] at h1
        exact h1)
      go_roundg k1
      case measure => omega
      case rel => exact ⟨m + (h - i), i, b + 1, k + 1, cnt + (h - i), j + 1, out ++ [y], Zr', by first | rw [we] | rw [← Int.natCast_add], rfl, rfl, rfl, ⟨by have := HI.out; omega, by have := HI.out; omega, by have := HI.out; omega, by have := HI.out; omega, by have := HI.out.2.2.2.2; rw [List.length_cons] at this; omega⟩, ⟨by have h9 := HM.out.right UA.out UB.out HY.out HX2.out; rw [LA.out.1] at h9; exact h9⟩, D3⟩

theorem merge_all (w0 : World) (N : Nat) (hN : N ≤ 1048576) : MergeAt w0 N := by
  induction N using Nat.strongRecOn with
  | _ N ih => exact merge_step w0 N hN (fun M hM => ih M hM (by omega))
end Go.Proofs.Ytieomcpjakamdaa.G
