/- How many pairs of a list stand the other way round: plain Lean. -/
namespace Go.Proofs.Ytieomcpjakamdaa.Inv
set_option linter.unusedVariables false

def less (l : List Int) (x : Int) : Nat := (l.filter (fun y => decide (y < x))).length
def more (l : List Int) (x : Int) : Nat := (l.filter (fun y => decide (x < y))).length
def invs : List Int → Nat
  | [] => 0
  | x :: l => less l x + invs l
def cross (A B : List Int) : Nat := (B.map (more A)).sum

theorem less_app (l m : List Int) (x : Int) : less (l ++ m) x = less l x + less m x := by simp [less]
theorem more_app (l m : List Int) (x : Int) : more (l ++ m) x = more l x + more m x := by simp [more]
theorem cross_cons_l (x : Int) (A B : List Int) : cross (x :: A) B = less B x + cross A B := by
  induction B with
  | nil => rfl
  | cons b B ih =>
    unfold cross at ih ⊢
    rw [List.map_cons, List.sum_cons, List.map_cons, List.sum_cons, ih]
    have h1 : more (x :: A) b = (if b < x then 1 else 0) + more A b := by
      unfold more
      rw [List.filter_cons]
      by_cases h : b < x
      · rw [if_pos (by simpa using h), if_pos h, List.length_cons]; omega
      · rw [if_neg (by simpa using h), if_neg h]; omega
    have h2 : less (b :: B) x = (if b < x then 1 else 0) + less B x := by
      unfold less
      rw [List.filter_cons]
      by_cases h : b < x
      · rw [if_pos (by simpa using h), if_pos h, List.length_cons]; omega
      · rw [if_neg (by simpa using h), if_neg h]; omega
    rw [h1, h2]
    omega
theorem cross_nil_l (B : List Int) : cross [] B = 0 := by
  induction B with
  | nil => rfl
  | cons b B ih => unfold cross at ih ⊢; rw [List.map_cons, List.sum_cons, ih]; rfl
theorem invs_app (A B : List Int) : invs (A ++ B) = invs A + invs B + cross A B := by
  induction A with
  | nil => rw [List.nil_append, cross_nil_l, invs]; omega
  | cons x A ih =>
    rw [List.cons_append, invs, invs, ih, less_app, cross_cons_l]
    omega
theorem cross_snoc (A B : List Int) (b : Int) : cross A (B ++ [b]) = cross A B + more A b := by
  unfold cross
  rw [List.map_append, List.sum_append]
  simp
theorem cross_perm {A A' B B' : List Int} (h : A.Perm A') (g : B.Perm B') : cross A B = cross A' B' := by
  have h1 : more A = more A' := by
    funext x
    exact (h.filter _).length_eq
  unfold cross
  rw [h1]
  exact (g.map _).sum_nat
theorem less_le (l : List Int) (x : Int) : less l x ≤ l.length := List.length_filter_le _ _
theorem invs_le (l : List Int) : invs l ≤ l.length * l.length := by
  induction l with
  | nil => simp [invs]
  | cons x l ih =>
    rw [invs, List.length_cons]
    have := less_le l x
    have e : (l.length + 1) * (l.length + 1) = l.length * l.length + l.length + (l.length + 1) := by rw [Nat.add_mul, Nat.mul_add, Nat.one_mul]; omega
    omega
theorem cross_app_le (A B C : List Int) : cross A B ≤ cross A (B ++ C) := by
  unfold cross
  rw [List.map_append, List.sum_append]
  omega

def Up (l : List Int) : Prop := l.Pairwise (fun a b => a ≤ b)
/-- What the merging of two rising lists has come to. -/
structure Mg (A B out : List Int) (i j : Nat) (n : Nat) : Prop where
  hi : i ≤ A.length
  hj : j ≤ B.length
  perm : out.Perm (A.take i ++ B.take j)
  up : Up out
  le : ∀ o ∈ out, ∀ x ∈ A.drop i ++ B.drop j, o ≤ x
  lo : ∀ a ∈ A.take i, ∀ b ∈ B.drop j, a ≤ b
  cnt : n = cross A (B.take j)
theorem Mg.start (A B : List Int) : Mg A B [] 0 0 0 := ⟨by omega, by omega, by simp, List.Pairwise.nil, (fun o h => by cases h), (fun a h => by simp at h), rfl⟩
theorem Mg.len {A B out : List Int} {i j n : Nat} (h : Mg A B out i j n) : out.length = i + j := by
  rw [h.perm.length_eq, List.length_append, List.length_take, List.length_take]
  have := h.hi
  have := h.hj
  omega
theorem drop_cons {l : List Int} {i : Nat} {x : Int} (h : l[i]? = some x) : l.drop i = x :: l.drop (i + 1) := by
  obtain ⟨hk, e⟩ := List.getElem?_eq_some_iff.1 h
  rw [List.drop_eq_getElem_cons hk, e]
theorem take_snoc {l : List Int} {i : Nat} {x : Int} (h : l[i]? = some x) : l.take (i + 1) = l.take i ++ [x] := by
  rw [List.take_add_one, h]
  rfl
theorem up_snoc {out : List Int} {x : Int} (h : Up out) (hx : ∀ o ∈ out, o ≤ x) : Up (out ++ [x]) :=
  List.pairwise_append.2 ⟨h, List.pairwise_singleton _ _, fun a ha b hb => by rw [List.mem_singleton.1 hb]; exact hx a ha⟩
theorem Mg.left {A B out : List Int} {i j n : Nat} (h : Mg A B out i j n) (hA : Up A) (hB : Up B) {a : Int} (ha : A[i]? = some a) (hab : ∀ b, B[j]? = some b → a ≤ b) : Mg A B (out ++ [a]) (i + 1) j n := by
  have hk := (List.getElem?_eq_some_iff.1 ha).1
  have hAd : Up (A.drop i) := List.Pairwise.sublist (List.drop_sublist _ _) hA
  have hBd : Up (B.drop j) := List.Pairwise.sublist (List.drop_sublist _ _) hB
  have hlow : ∀ b ∈ B.drop j, a ≤ b := by
    intro b hb
    cases hq : B[j]? with
    | none => rw [List.drop_eq_nil_of_le (List.getElem?_eq_none_iff.1 hq)] at hb; cases hb
    | some b0 =>
      rw [drop_cons hq] at hb hBd
      have h0 := hab b0 hq
      rcases List.mem_cons.1 hb with rfl | hb
      · exact h0
      · have := (List.pairwise_cons.1 hBd).1 b hb; omega
  refine ⟨by omega, h.hj, ?_, up_snoc h.up (fun o ho => h.le o ho a (by rw [drop_cons ha]; simp)), ?_, ?_, h.cnt⟩
  · rw [take_snoc ha]
    have h1 := h.perm.append_right [a]
    refine h1.trans ?_
    rw [List.append_assoc, List.append_assoc]
    exact List.Perm.append_left _ List.perm_append_comm
  · intro o ho x hx
    rcases List.mem_append.1 ho with ho | ho
    · exact h.le o ho x (by rw [drop_cons ha]; rcases List.mem_append.1 hx with hx | hx <;> simp [hx])
    · rw [List.mem_singleton.1 ho]
      rcases List.mem_append.1 hx with hx | hx
      · rw [drop_cons ha] at hAd
        exact (List.pairwise_cons.1 hAd).1 x hx
      · exact hlow x hx
  · intro y hy b hb
    rw [take_snoc ha] at hy
    rcases List.mem_append.1 hy with hy | hy
    · exact h.lo y hy b hb
    · rw [List.mem_singleton.1 hy]; exact hlow b hb
theorem more_none {l : List Int} {b : Int} (h : ∀ a ∈ l, a ≤ b) : more l b = 0 := by
  unfold more
  rw [List.length_eq_zero_iff, List.filter_eq_nil_iff]
  intro a ha
  have := h a ha
  simp
  omega
theorem more_all {l : List Int} {b : Int} (h : ∀ a ∈ l, b < a) : more l b = l.length := by
  unfold more
  rw [List.filter_eq_self.2 (fun a ha => by simpa using h a ha)]
theorem Mg.right {A B out : List Int} {i j n : Nat} (h : Mg A B out i j n) (hA : Up A) (hB : Up B) {b : Int} (hb : B[j]? = some b) (hab : ∀ a, A[i]? = some a → b < a) : Mg A B (out ++ [b]) i (j + 1) (n + (A.length - i)) := by
  have hk := (List.getElem?_eq_some_iff.1 hb).1
  have hAd : Up (A.drop i) := List.Pairwise.sublist (List.drop_sublist _ _) hA
  have hBd : Up (B.drop j) := List.Pairwise.sublist (List.drop_sublist _ _) hB
  have hlow : ∀ a ∈ A.drop i, b < a := by
    intro a ha
    cases hq : A[i]? with
    | none => rw [List.drop_eq_nil_of_le (List.getElem?_eq_none_iff.1 hq)] at ha; cases ha
    | some a0 =>
      rw [drop_cons hq] at ha hAd
      have h0 := hab a0 hq
      rcases List.mem_cons.1 ha with rfl | ha
      · exact h0
      · have := (List.pairwise_cons.1 hAd).1 a ha; omega
  refine ⟨h.hi, by omega, ?_, up_snoc h.up (fun o ho => h.le o ho b (by rw [drop_cons hb]; simp)), ?_, ?_, ?_⟩
  · rw [take_snoc hb, ← List.append_assoc]
    exact h.perm.append_right [b]
  · intro o ho x hx
    rcases List.mem_append.1 ho with ho | ho
    · exact h.le o ho x (by rw [drop_cons hb]; rcases List.mem_append.1 hx with hx | hx <;> simp [hx])
    · rw [List.mem_singleton.1 ho]
      rcases List.mem_append.1 hx with hx | hx
      · have := hlow x hx; omega
      · rw [drop_cons hb] at hBd
        exact (List.pairwise_cons.1 hBd).1 x hx
  · intro y hy x hx
    exact h.lo y hy x (by rw [drop_cons hb]; simp [hx])
  · rw [take_snoc hb, cross_snoc, ← h.cnt]
    have e : more A b = A.length - i := by
      have e1 : more A b = more (A.take i) b + more (A.drop i) b := by rw [← more_app, List.take_append_drop]
      rw [e1, more_none (fun a ha => h.lo a ha b (by rw [drop_cons hb]; simp)), more_all hlow, List.length_drop]
      omega
    rw [e]
theorem Mg.done {A B out : List Int} {i j n : Nat} (h : Mg A B out i j n) (hl : out.length = A.length + B.length) : out.Perm (A ++ B) ∧ Up out ∧ n = cross A B := by
  have h1 := h.len
  have h2 := h.hi
  have h3 := h.hj
  have e1 : A.take i = A := List.take_of_length_le (by omega)
  have e2 : B.take j = B := List.take_of_length_le (by omega)
  have h4 := h.perm
  have h5 := h.cnt
  rw [e1, e2] at h4
  rw [e2] at h5
  exact ⟨h4, h.up, h5⟩
end Go.Proofs.Ytieomcpjakamdaa.Inv
