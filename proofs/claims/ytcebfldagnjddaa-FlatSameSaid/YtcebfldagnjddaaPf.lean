/- FewRows: it comes to an answer, and bounds the rows. Shapes and flat.Same: both say whether the rows are alike. -/
import Derived.Test.YtcebfldagnjddaaP0
import Derived.Test.YtcebfldagnjddaaGx
import Derived.Test.YtcebfldagnjddaaH7
namespace Go.Proofs.Ytcebfldagnjddaa.Pure
open Go.RowKit Go.Proofs.Ytcebfldagnjddaa.G Go.Proofs.YtcebfldagnjddaaW.PrintWords Go.Proofs.YtcebfldagnjddaaW.PrintLast
set_option linter.unusedVariables false

theorem rd53_mem (l : List S53) (i : Int) (h0 : 0 ≤ i) (h : i < l.length) : rd_T53 l i ∈ l := by
  unfold rd_T53
  rw [List.getD_eq_getElem?_getD, List.getElem?_eq_getElem (by omega)]
  exact List.getElem_mem _

theorem fewR_l1 (l : List S53) (hl : l.length * 88 ≤ 140737488351232) (hs : ∀ y ∈ l, Sm53 y) (n : Int) (hn0 : 0 ≤ n) (hn : n ≤ 5000) (i : Int) (h0 : 0 ≤ i) (hi : i < l.length)
    (hk : ∀ x : Int, x ≤ n - (i + 1) → -4503599627370496 ≤ x → ∃ b, Ev (fun k => tendrilplain_FewRows.l0 k l x l.length (i + 1)) b ∧ (b = true → (l.length : Int) ≤ n)) (hf : ((rd_T53 l i).f5.length : Int) ≤ 5000) (d : Nat) :
    ∀ (j y : Int), 0 ≤ j → ((rd_T53 l i).f5.length : Int) - j = d → y ≤ n - (i + 1) → -(j * 274877906944) ≤ y → ∃ b, Ev (fun k => tendrilplain_FewRows.l1 k l y i l.length i ((rd_T53 l i).f5.length : Int) j) b ∧ (b = true → (l.length : Int) ≤ n) := by
  induction d with
  | zero =>
    intro j y hj0 hd hy1 hy2
    obtain ⟨b, hb, hbi⟩ := hk y hy1 (by omega)
    exact ⟨b, hb.step (fun k => by rw [tendrilplain_FewRows.l1, if_neg (by omega), w1 (by omega) (by omega)]), hbi⟩
  | succ d ih =>
    intro j y hj0 hd hy1 hy2
    have hj : j < ((rd_T53 l i).f5.length : Int) := by omega
    have hm := (hs _ (rd53_mem l i h0 hi)).h5.2 _ (rd42_mem (rd_T53 l i).f5 j hj0 hj)
    have m0 := hm.h0
    have m1 := hm.h1
    have e1 : wrap64 (Int.tdiv (wrap64 ((((rd_T69 (rd_T53 l i).f5 j).f1).size : Int) + (((rd_T69 (rd_T53 l i).f5 j).f0).size : Int))) 4096) = ((((rd_T69 (rd_T53 l i).f5 j).f1).size : Int) + (((rd_T69 (rd_T53 l i).f5 j).f0).size : Int)) / 4096 := by
      rw [ww (i := (((rd_T69 (rd_T53 l i).f5 j).f1).size : Int) + (((rd_T69 (rd_T53 l i).f5 j).f0).size : Int)) (by omega) (by omega), Int.tdiv_eq_ediv_of_nonneg (by omega)]
      exact ww (by omega) (by omega)
    obtain ⟨b, hb, hbi⟩ := ih (j + 1) (y - ((((rd_T69 (rd_T53 l i).f5 j).f1).size : Int) + (((rd_T69 (rd_T53 l i).f5 j).f0).size : Int)) / 4096) (by omega) (by omega) (by omega) (by omega)
    exact ⟨b, hb.step (fun k => by
      rw [tendrilplain_FewRows.l1, if_pos hj, if_pos h0, if_pos hi, if_pos hj0, if_pos hj, e1, ww (i := y - _) (by omega) (by omega), w1 (by omega) (by omega)]), hbi⟩

theorem fewR_l0 (l : List S53) (hl : l.length * 88 ≤ 140737488351232) (hs : ∀ y ∈ l, Sm53 y) (n : Int) (hn0 : 0 ≤ n) (hn : n ≤ 5000) (d : Nat) :
    ∀ (i x : Int), 0 ≤ i → (l.length : Int) - i = d → x ≤ n - i → -4503599627370496 ≤ x → ∃ b, Ev (fun k => tendrilplain_FewRows.l0 k l x l.length i) b ∧ (b = true → (l.length : Int) ≤ n) := by
  induction d with
  | zero =>
    intro i x h0 hd hx1 hx2
    refine ⟨decide (x ≥ 0), (Ev.pure _).step (fun k => by rw [tendrilplain_FewRows.l0, if_neg (by omega)]), fun hb => ?_⟩
    have := of_decide_eq_true hb
    omega
  | succ d ih =>
    intro i x h0 hd hx1 hx2
    have hi : i < (l.length : Int) := by omega
    have hm := hs _ (rd53_mem l i h0 hi)
    have m2 := hm.h2
    have m3 := hm.h3
    have m4 := hm.h4
    have m5 := hm.h5.1
    have e2 : wrap64 (Int.tdiv (wrap64 ((wrap64 ((((rd_T53 l i).f4).size : Int) + (((rd_T53 l i).f3).size : Int))) + (((rd_T53 l i).f2).size : Int))) 4096) = ((((rd_T53 l i).f4).size : Int) + (((rd_T53 l i).f3).size : Int) + (((rd_T53 l i).f2).size : Int)) / 4096 := by
      rw [ww (i := (((rd_T53 l i).f4).size : Int) + (((rd_T53 l i).f3).size : Int)) (by omega) (by omega), ww (i := _ + (((rd_T53 l i).f2).size : Int)) (by omega) (by omega), Int.tdiv_eq_ediv_of_nonneg (by omega)]
      exact ww (by omega) (by omega)
    have e3 : wrap64 ((wrap64 ((wrap64 (x - 1)) - (((rd_T53 l i).f5).length : Int))) - (wrap64 (Int.tdiv (wrap64 ((wrap64 ((((rd_T53 l i).f4).size : Int) + (((rd_T53 l i).f3).size : Int))) + (((rd_T53 l i).f2).size : Int))) 4096))) = x - 1 - (((rd_T53 l i).f5).length : Int) - ((((rd_T53 l i).f4).size : Int) + (((rd_T53 l i).f3).size : Int) + (((rd_T53 l i).f2).size : Int)) / 4096 := by
      rw [e2, wm (by omega) (by omega), ww (i := x - 1 - (((rd_T53 l i).f5).length : Int)) (by omega) (by omega), ww (by omega) (by omega)]
    obtain ⟨c, hc⟩ : ∃ c, x - 1 - (((rd_T53 l i).f5).length : Int) - ((((rd_T53 l i).f4).size : Int) + (((rd_T53 l i).f3).size : Int) + (((rd_T53 l i).f2).size : Int)) / 4096 = c := ⟨_, rfl⟩
    rw [hc] at e3
    by_cases c0 : c < 0
    · exact ⟨false, (Ev.pure false).step (fun k => by rw [tendrilplain_FewRows.l0, if_pos hi, if_pos h0, if_pos hi, e3, if_pos c0]), by simp⟩
    · obtain ⟨b, hb, hbi⟩ := fewR_l1 l hl hs n hn0 hn i h0 hi (fun x hx1 hx2 => ih (i + 1) x (by omega) (by omega) hx1 hx2) (by omega) ((rd_T53 l i).f5.length) 0 c (by omega) (by omega) (by omega) (by omega)
      exact ⟨b, hb.step (fun k => by rw [tendrilplain_FewRows.l0, if_pos hi, if_pos h0, if_pos hi, e3, if_neg c0]), hbi⟩

theorem fewR (l : List S53) (hl : l.length * 88 ≤ 140737488351232) (hs : ∀ y ∈ l, Sm53 y) (n : Int) (hn0 : 0 ≤ n) (hn : n ≤ 5000) : ∃ b, Ev (fun k => tendrilplain_FewRows.f k l n) b ∧ (b = true → (l.length : Int) ≤ n) := by
  obtain ⟨b, hb, hbi⟩ := fewR_l0 l hl hs n hn0 hn l.length 0 n (by omega) (by omega) (by omega) (by omega)
  exact ⟨b, hb, hbi⟩

/-! Attributes that are alike. -/
def atT (x : S69) : List UInt8 × List UInt8 := (x.f0.toList, x.f1.toList)
def attrsEq (a b : List S69) : Bool := a.map atT == b.map atT
theorem drop_T69 (l : List S69) (i : Int) (h0 : 0 ≤ i) (h : i < l.length) : l.drop i.toNat = rd_T69 l i :: l.drop (i + 1).toNat := by
  have e : (i + 1).toNat = i.toNat + 1 := by omega
  rw [e, List.drop_eq_getElem_cons (by omega)]
  unfold rd_T69
  rw [List.getD_eq_getElem?_getD, List.getElem?_eq_getElem (by omega)]
  rfl
theorem attrs_alike (k : Nat) (a b : List S69) : slices_Equal_Attr.f k a b = tendrilplain_Attrs.f k a b := by
  have h : ∀ k x i, slices_Equal_Attr.l0 k a b x i = tendrilplain_Attrs.l0 k a b x i := by
    intro k
    induction k with
    | zero => intro x i; rfl
    | succ k ih => intro x i; rw [slices_Equal_Attr.l0, tendrilplain_Attrs.l0, ih]
  unfold slices_Equal_Attr.f tendrilplain_Attrs.f
  rw [h]
theorem attrsA_l0 (a b : List S69) (hl : a.length ≤ 140737488351232) (he : a.length = b.length) (d : Nat) : ∀ i : Int, 0 ≤ i → (a.length : Int) - i = d →
    Ev (fun k => tendrilplain_Attrs.l0 k a b a.length i) (attrsEq (a.drop i.toNat) (b.drop i.toNat)) := by
  induction d with
  | zero =>
    intro i h0 hd
    rw [List.drop_eq_nil_of_le (by omega), List.drop_eq_nil_of_le (by omega)]
    exact (Ev.pure true).step (fun k => by rw [tendrilplain_Attrs.l0, if_neg (by omega)])
  | succ d ih =>
    intro i h0 hd
    have hi : i < (a.length : Int) := by omega
    have hi2 : i < (b.length : Int) := by omega
    have hcons : attrsEq (a.drop i.toNat) (b.drop i.toNat) = ((((rd_T69 a i).f0.toList == (rd_T69 b i).f0.toList) && ((rd_T69 a i).f1.toList == (rd_T69 b i).f1.toList)) && attrsEq (a.drop (i + 1).toNat) (b.drop (i + 1).toNat)) := by
      rw [drop_T69 a i h0 hi, drop_T69 b i h0 hi2]
      rfl
    rw [hcons]
    by_cases c : ((rd_T69 a i).f0.toList == (rd_T69 b i).f0.toList && (rd_T69 a i).f1.toList == (rd_T69 b i).f1.toList) = true
    · rw [c, Bool.true_and]
      refine (ih (i + 1) (by omega) (by omega)).step (fun k => ?_)
      rw [tendrilplain_Attrs.l0, if_pos hi, if_pos h0, if_pos hi, if_pos hi2, if_neg (by rw [Bool.and_eq_true] at c; rw [c.1, c.2]; decide), w1 (by omega) (by omega)]
    · have c' : ((rd_T69 a i).f0.toList == (rd_T69 b i).f0.toList && (rd_T69 a i).f1.toList == (rd_T69 b i).f1.toList) = false := by simpa using c
      rw [c', Bool.false_and]
      refine (Ev.pure false).step (fun k => ?_)
      rw [tendrilplain_Attrs.l0, if_pos hi, if_pos h0, if_pos hi, if_pos hi2, if_pos (by
        generalize ((rd_T69 a i).f0.toList == (rd_T69 b i).f0.toList) = p at c'
        generalize ((rd_T69 a i).f1.toList == (rd_T69 b i).f1.toList) = q at c'
        revert c'; cases p <;> cases q <;> decide)]
theorem attrsEq_len {a b : List S69} (h : a.length ≠ b.length) : attrsEq a b = false := by
  unfold attrsEq
  rw [beq_eq_false_iff_ne]
  intro e
  have := congrArg List.length e
  simp at this
  exact h this
theorem attrsA (a b : List S69) (hl : a.length ≤ 140737488351232) : Ev (fun k => tendrilplain_Attrs.f k a b) (attrsEq a b) := by
  by_cases he : a.length = b.length
  · exact (attrsA_l0 a b hl he a.length 0 (by omega) (by omega)).eq (fun k => by rw [tendrilplain_Attrs.f, if_pos (by omega)])
  · rw [attrsEq_len he]
    exact (Ev.pure false).eq (fun k => by rw [tendrilplain_Attrs.f, if_neg (by omega)])

/-! Rows that are alike. -/
def rowEq (x y : S53) : Bool := decide (x.f1 = y.f1) && decide (x.f2.toList = y.f2.toList) && decide (x.f3.toList = y.f3.toList) && decide (x.f4.toList = y.f4.toList) && attrsEq x.f5 y.f5
def rowsEq : List S53 → List S53 → Bool
  | x :: xs, y :: ys => rowEq x y && rowsEq xs ys
  | [], [] => true
  | _, _ => false
theorem attrsEq_refl (a : List S69) : attrsEq a a = true := by unfold attrsEq; exact beq_self_eq_true _
theorem rowEq_refl (x : S53) : rowEq x x = true := by simp [rowEq, attrsEq_refl]
theorem rowsEq_refl : ∀ l : List S53, rowsEq l l = true
  | [] => rfl
  | x :: xs => by rw [rowsEq, rowEq_refl, rowsEq_refl xs]; rfl
theorem rowsEq_len : ∀ {a b : List S53}, a.length ≠ b.length → rowsEq a b = false
  | [], [], h => absurd rfl h
  | [], _ :: _, _ => rfl
  | _ :: _, [], _ => rfl
  | x :: xs, y :: ys, h => by rw [rowsEq, rowsEq_len (a := xs) (b := ys) (by simpa using h), Bool.and_false]

theorem eqRow_ev (x y : S53) (hx : Sm53 x) : Ev (fun k => eqRow k x y) (rowEq x y) := by
  have ha : Ev (fun k => slices_Equal_Attr.f k x.f5 y.f5) (attrsEq x.f5 y.f5) := (attrsA _ _ (by have := hx.h5.1; omega)).eq (fun k => attrs_alike k _ _)
  unfold rowEq
  by_cases c1 : x.f1 = y.f1
  case neg => exact (Ev.pure _).eq (fun k => by rw [eqRow, flat_Same_1.f, if_neg c1, decide_eq_false c1]; rfl)
  by_cases c2 : x.f2.toList = y.f2.toList
  case neg => exact (Ev.pure _).eq (fun k => by rw [eqRow, flat_Same_1.f, if_pos c1, if_neg c2, decide_eq_true c1, decide_eq_false c2]; rfl)
  by_cases c3 : x.f3.toList = y.f3.toList
  case neg => exact (Ev.pure _).eq (fun k => by rw [eqRow, flat_Same_1.f, if_pos c1, if_pos c2, if_neg c3, decide_eq_true c1, decide_eq_true c2, decide_eq_false c3]; rfl)
  by_cases c4 : x.f4.toList = y.f4.toList
  case neg => exact (Ev.pure _).eq (fun k => by rw [eqRow, flat_Same_1.f, if_pos c1, if_pos c2, if_pos c3, if_neg c4, decide_eq_true c1, decide_eq_true c2, decide_eq_true c3, decide_eq_false c4]; rfl)
  rw [decide_eq_true c1, decide_eq_true c2, decide_eq_true c3, decide_eq_true c4]
  simp only [Bool.and_self, Bool.true_and]
  exact ha.via0 (Ev.pure _) (fun k hk => by rw [eqRow, flat_Same_1.f, if_pos c1, if_pos c2, if_pos c3, if_pos c4, hk]; rfl)
theorem eqRows_ev : ∀ (a b : List S53), a.length = b.length → (∀ y ∈ a, Sm53 y) → Ev (fun k => eqRows k a b) (rowsEq a b)
  | [], [], _, _ => Ev.pure true
  | [], _ :: _, h, _ => by simp at h
  | _ :: _, [], h, _ => by simp at h
  | x :: xs, y :: ys, h, hs => by
    have h1 := eqRow_ev x y (hs x (by simp))
    have h2 := eqRows_ev xs ys (by simpa using h) (fun z hz => hs z (by simp [hz]))
    rw [rowsEq]
    by_cases c : rowEq x y = true
    · rw [c, Bool.true_and]
      exact h1.via0 h2 (fun k hk => by rw [eqRows, hk, c]; rfl)
    · have c' : rowEq x y = false := by simpa using c
      rw [c', Bool.false_and]
      exact h1.via0 (Ev.pure false) (fun k hk => by rw [eqRows, hk, c']; rfl)
theorem flatSame_ev (a b : List S53) (hl : a.length * 88 ≤ 140737488351232) (hs : ∀ y ∈ a, Sm53 y) : Ev (fun k => flat_Same.f k a b) (rowsEq a b) := by
  by_cases he : a.length = b.length
  · exact (eqRows_ev a b he hs).eq (fun k => by rw [flat_Same.f, if_pos he, if_pos (by omega)])
  · rw [rowsEq_len he]
    exact (Ev.pure false).eq (fun k => by rw [flat_Same.f, if_neg he])

theorem shapes_l0 (a b : List S53) (hl : a.length * 88 ≤ 140737488351232) (hs : ∀ y ∈ a, Sm53 y) (he : a.length = b.length) (d : Nat) : ∀ i : Int, 0 ≤ i → (a.length : Int) - i = d →
    Ev (fun k => tendrilplain_Shapes.l0 k a b a.length i) (rowsEq (a.drop i.toNat) (b.drop i.toNat)) := by
  induction d with
  | zero =>
    intro i h0 hd
    rw [List.drop_eq_nil_of_le (by omega), List.drop_eq_nil_of_le (by omega)]
    exact (Ev.pure true).step (fun k => by rw [tendrilplain_Shapes.l0, if_neg (by omega)])
  | succ d ih =>
    intro i h0 hd
    have hi : i < (a.length : Int) := by omega
    have hi2 : i < (b.length : Int) := by omega
    have hm := hs _ (rd53_mem a i h0 hi)
    rw [drop_T53 a i h0 hi, drop_T53 b i h0 hi2, rowsEq]
    have ih' := ih (i + 1) (by omega) (by omega)
    have ha : Ev (fun k => tendrilplain_Attrs.f k (rd_T53 a i).f5 (rd_T53 b i).f5) (attrsEq (rd_T53 a i).f5 (rd_T53 b i).f5) := attrsA _ _ (by have := hm.h5.1; omega)
    generalize hx : rd_T53 a i = x at *
    generalize hy : rd_T53 b i = y at *
    unfold rowEq
    by_cases c1 : x.f1 = y.f1
    case neg => exact (Ev.pure _).step (fun k => by rw [tendrilplain_Shapes.l0, if_pos hi, if_pos h0, if_pos hi, if_pos hi2, hx, hy, if_neg c1, decide_eq_false c1]; rfl)
    by_cases c2 : x.f2.toList = y.f2.toList
    case neg => exact (Ev.pure _).step (fun k => by rw [tendrilplain_Shapes.l0, if_pos hi, if_pos h0, if_pos hi, if_pos hi2, hx, hy, if_pos c1, if_neg c2, decide_eq_true c1, decide_eq_false c2]; rfl)
    by_cases c3 : x.f3.toList = y.f3.toList
    case neg => exact (Ev.pure _).step (fun k => by rw [tendrilplain_Shapes.l0, if_pos hi, if_pos h0, if_pos hi, if_pos hi2, hx, hy, if_pos c1, if_pos c2, if_neg c3, decide_eq_true c1, decide_eq_true c2, decide_eq_false c3]; rfl)
    by_cases c4 : x.f4.toList = y.f4.toList
    case neg => exact (Ev.pure _).step (fun k => by rw [tendrilplain_Shapes.l0, if_pos hi, if_pos h0, if_pos hi, if_pos hi2, hx, hy, if_pos c1, if_pos c2, if_pos c3, if_neg c4, decide_eq_true c1, decide_eq_true c2, decide_eq_true c3, decide_eq_false c4]; rfl)
    rw [decide_eq_true c1, decide_eq_true c2, decide_eq_true c3, decide_eq_true c4]
    simp only [Bool.and_self, Bool.true_and]
    by_cases c : attrsEq x.f5 y.f5 = true
    · rw [c, Bool.true_and]
      exact ha.via ih' (fun k hk => by rw [tendrilplain_Shapes.l0, if_pos hi, if_pos h0, if_pos hi, if_pos hi2, hx, hy, if_pos c1, if_pos c2, if_pos c3, if_pos c4, hk, c, w1 (by omega) (by omega)]; rfl)
    · have c' : attrsEq x.f5 y.f5 = false := by simpa using c
      rw [c', Bool.false_and]
      exact ha.via (Ev.pure false) (fun k hk => by rw [tendrilplain_Shapes.l0, if_pos hi, if_pos h0, if_pos hi, if_pos hi2, hx, hy, if_pos c1, if_pos c2, if_pos c3, if_pos c4, hk, c']; rfl)
theorem shapes_ev (a b : List S53) (hl : a.length * 88 ≤ 140737488351232) (hs : ∀ y ∈ a, Sm53 y) : Ev (fun k => tendrilplain_Shapes.f k a b) (rowsEq a b) := by
  by_cases he : a.length = b.length
  · exact (shapes_l0 a b hl hs he a.length 0 (by omega) (by omega)).eq (fun k => by rw [tendrilplain_Shapes.f, if_pos (by omega)])
  · rw [rowsEq_len he]
    exact (Ev.pure false).eq (fun k => by rw [tendrilplain_Shapes.f, if_neg (by omega)])

theorem same_ev : Ev (fun k => tendrillaw13_same.f k) true := Ev.of (fun k => tendrillaw13_same.mono k) (k := 40) (by decide +kernel)
end Go.Proofs.Ytcebfldagnjddaa.Pure
