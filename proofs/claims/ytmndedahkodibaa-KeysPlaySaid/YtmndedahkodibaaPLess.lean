/- The order of labels: the program's Less and the document's say the same, and it is an order. -/
import Derived.Test.YtmndedahkodibaaH9
import Derived.Test.YtmndedahkodibaaHx
import Derived.Sort.Walk0
namespace Go.Proofs.Ytmndedahkodibaa.Pure
open Go.RowKit Go.Proofs.Ytmndedahkodibaa.G Go.Proofs.YtmndedahkodibaaW.PrintWords Go.Proofs.YtmndedahkodibaaW.PrintLast
set_option linter.unusedVariables false
set_option linter.unusedSimpArgs false

def Ev {α : Type} (f : Nat → Option α) (r : α) : Prop := ∃ k0, ∀ k, k0 ≤ k → f k = some r
theorem Ev.all {α : Type} {f : Nat → Option α} {r : α} (h : ∀ k, f k = some r) : Ev f r := ⟨0, fun k _ => h k⟩
theorem Ev.pure {α : Type} (r : α) : Ev (fun _ => some r) r := .all fun _ => rfl
theorem Ev.of {α : Type} {f : Nat → Option α} {r : α} (m : ∀ k, LeO (f k) (f (k + 1))) {k : Nat} (h : f k = some r) : Ev f r :=
  ⟨k, fun j hj => by
    obtain ⟨d, rfl⟩ : ∃ d, j = k + d := ⟨j - k, by omega⟩
    clear hj
    induction d with
    | zero => exact h
    | succ d ih => exact m _ _ ih⟩
theorem Ev.step {α : Type} {f g : Nat → Option α} {r : α} (hg : Ev g r) (h : ∀ k, f (k + 1) = g k) : Ev f r := by
  obtain ⟨k0, hk⟩ := hg
  exact ⟨k0 + 1, fun k hk' => by obtain ⟨m, rfl⟩ : ∃ m, k = m + 1 := ⟨k - 1, by omega⟩; rw [h]; exact hk m (by omega)⟩
theorem Ev.eq {α : Type} {f g : Nat → Option α} {r : α} (hg : Ev g r) (h : ∀ k, f k = g k) : Ev f r := by
  obtain ⟨k0, hk⟩ := hg
  exact ⟨k0, fun k hk' => by rw [h]; exact hk k hk'⟩
theorem Ev.bind {α β : Type} {f : Nat → Option α} {g : Nat → α → Option β} {a : α} {r : β} (hf : Ev f a) (hg : Ev (fun k => g k a) r) : Ev (fun k => (f k).bind (g k)) r := by
  obtain ⟨k0, h0⟩ := hf
  obtain ⟨k1, h1⟩ := hg
  exact ⟨max k0 k1, fun k hk => by show (f k).bind (g k) = some r; rw [h0 k (by omega)]; exact h1 k (by omega)⟩
theorem Ev.via {α β : Type} {f : Nat → Option α} {g F : Nat → Option β} {a : α} {r : β} (hf : Ev f a) (hg : Ev g r) (h : ∀ k, f k = some a → F (k + 1) = g k) : Ev F r := by
  obtain ⟨k0, h0⟩ := hf
  obtain ⟨k1, h1⟩ := hg
  exact ⟨max k0 k1 + 1, fun k hk => by obtain ⟨m, rfl⟩ : ∃ m, k = m + 1 := ⟨k - 1, by omega⟩; rw [h m (h0 m (by omega))]; exact h1 m (by omega)⟩
theorem Ev.via0 {α β : Type} {f : Nat → Option α} {g F : Nat → Option β} {a : α} {r : β} (hf : Ev f a) (hg : Ev g r) (h : ∀ k, f k = some a → F k = g k) : Ev F r := by
  obtain ⟨k0, h0⟩ := hf
  obtain ⟨k1, h1⟩ := hg
  exact ⟨max k0 k1, fun k hk => by rw [h k (h0 k (by omega))]; exact h1 k (by omega)⟩
theorem Ev.ex {α : Type} {f : Nat → Option α} {r : α} (h : Ev f r) : ∃ k, f k = some r := by
  obtain ⟨k0, hk⟩ := h
  exact ⟨k0, hk k0 (Nat.le_refl _)⟩
theorem Ev.uniq {α : Type} {f : Nat → Option α} {r s : α} (h : Ev f r) (h' : Ev f s) : r = s := by
  obtain ⟨k0, h0⟩ := h
  obtain ⟨k1, h1⟩ := h'
  have := (h0 (max k0 k1) (by omega)).symm.trans (h1 (max k0 k1) (by omega))
  injection this

theorem w1 {i : Int} (h0 : -1000000000000000000 ≤ i) (h : i ≤ 1000000000000000000) : wrap64 (i + 1) = i + 1 := by unfold wrap64; omega

def cmpL (a b : List UInt8) : Int := if Op.bytesLess a b = true then -1 else if Op.bytesLess b a = true then 1 else 0
theorem drop_bt (s : ByteArray) (i : Int) (h0 : 0 ≤ i) (h : i < s.size) : ∃ b : UInt8, (b.toNat : Int) = bt s i ∧ s.toList.drop i.toNat = b :: s.toList.drop (i + 1).toNat := by
  have hl : s.toList.length = s.size := by rw [ByteArray.toList_eq]; simp
  refine ⟨s.toList[i.toNat]'(by omega), ?_, ?_⟩
  · unfold bt
    rw [dif_pos (by omega)]
    congr 1
    simp only [ByteArray.toList_eq]
    rfl
  · rw [List.drop_eq_getElem_cons (by omega), show (i + 1).toNat = i.toNat + 1 by omega]

theorem compare_l0 (x y : ByteArray) (hx : x.size ≤ 140737488351232) (d : Nat) : ∀ i : Int, 0 ≤ i → i ≤ x.size → i ≤ y.size → (x.size : Int) - i = d →
    ∃ t, Ev (fun k => tendrilref02_Compare.l0 k x y i) t ∧ t = cmpL (x.toList.drop i.toNat) (y.toList.drop i.toNat) := by
  have hlx : x.toList.length = x.size := by rw [ByteArray.toList_eq]; simp
  have hly : y.toList.length = y.size := by rw [ByteArray.toList_eq]; simp
  induction d with
  | zero =>
    intro i h0 hix hiy hd
    have e : x.toList.drop i.toNat = [] := List.drop_eq_nil_of_le (by omega)
    by_cases c : (x.size : Int) < y.size
    · refine ⟨-1, ((Ev.pure (-1)).step (f := fun k => tendrilref02_Compare.j1 k x y i false) (fun k => by rw [tendrilref02_Compare.j1, if_neg (by decide), if_pos c])).step (fun k => by rw [tendrilref02_Compare.l0, if_neg (by omega)]), ?_⟩
      obtain ⟨b, _, dy⟩ := drop_bt y i h0 (by omega)
      rw [e, dy]
      simp [cmpL, Op.bytesLess]
    · refine ⟨0, ((Ev.pure 0).step (f := fun k => tendrilref02_Compare.j1 k x y i false) (fun k => by rw [tendrilref02_Compare.j1, if_neg (by decide), if_neg c, if_neg (by omega)])).step (fun k => by rw [tendrilref02_Compare.l0, if_neg (by omega)]), ?_⟩
      have e2 : y.toList.drop i.toNat = [] := List.drop_eq_nil_of_le (by omega)
      rw [e, e2]
      simp [cmpL, Op.bytesLess]
  | succ d ih =>
    intro i h0 hix hiy hd
    obtain ⟨bx, ex, dx⟩ := drop_bt x i h0 (by omega)
    by_cases c : i < (y.size : Int)
    · obtain ⟨by', ey, dy⟩ := drop_bt y i h0 c
      have st (g : Nat → Option Int) (t : Int) (hg : Ev g t) (h : ∀ k, tendrilref02_Compare.j1 (k + 1) x y i true = g k) : Ev (fun k => tendrilref02_Compare.l0 k x y i) t :=
        (hg.step (f := fun k => tendrilref02_Compare.j1 k x y i true) h).step (fun k => by rw [tendrilref02_Compare.l0, if_pos (by omega), decide_eq_true c])
      rw [dx, dy]
      have lt {a b : UInt8} : a < b ↔ (a.toNat : Int) < b.toNat := by rw [UInt8.lt_iff_toNat_lt]; omega
      by_cases c1 : bt x i < bt y i
      · refine ⟨-1, st _ _ (Ev.pure (-1)) (fun k => by rw [tendrilref02_Compare.j1, if_pos rfl, if_pos h0, if_pos (by omega), if_pos c, if_pos c1]), ?_⟩
        have h0' : bx < by' := by rw [lt]; omega
        have h1 : ¬ by' < bx := by rw [lt]; omega
        have h2 : ¬ by' = bx := by intro e; subst e; omega
        simp [cmpL, Op.bytesLess, h0', h1, h2]
      · by_cases c2 : bt x i > bt y i
        · refine ⟨1, st _ _ (Ev.pure 1) (fun k => by rw [tendrilref02_Compare.j1, if_pos rfl, if_pos h0, if_pos (by omega), if_pos c, if_neg c1, if_pos c2]), ?_⟩
          have h1 : by' < bx := by rw [lt]; omega
          have h3 : ¬ bx < by' := by rw [lt]; omega
          have h4 : ¬ bx = by' := by intro e; subst e; omega
          simp [cmpL, Op.bytesLess, h1, h3, h4]
        · obtain ⟨t, ht, hi⟩ := ih (i + 1) (by omega) (by omega) (by omega) (by omega)
          refine ⟨t, st _ _ ht (fun k => by rw [tendrilref02_Compare.j1, if_pos rfl, if_pos h0, if_pos (by omega), if_pos c, if_neg c1, if_neg c2, w1 (by omega) (by omega)]), ?_⟩
          rw [hi]
          have h2 : by' = bx := by apply UInt8.toNat_inj.1; omega
          subst h2
          have h1 : ¬ by' < by' := by rw [lt]; omega
          simp [cmpL, Op.bytesLess, h1]
    · have e : y.toList.drop i.toNat = [] := List.drop_eq_nil_of_le (by omega)
      refine ⟨1, ((Ev.pure 1).step (f := fun k => tendrilref02_Compare.j1 k x y i false) (fun k => by rw [tendrilref02_Compare.j1, if_neg (by decide), if_neg (by omega), if_pos (by omega)])).step (fun k => by rw [tendrilref02_Compare.l0, if_pos (by omega), decide_eq_false c]), ?_⟩
      rw [dx, e]
      simp [cmpL, Op.bytesLess]
theorem compare (x y : ByteArray) (hx : x.size ≤ 140737488351232) : Ev (fun k => tendrilref02_Compare.f k x y) (cmpL x.toList y.toList) := by
  obtain ⟨t, ht, hi⟩ := compare_l0 x y hx x.size 0 (by omega) (by omega) (by omega) (by omega)
  have : t = cmpL x.toList y.toList := by simpa using hi
  exact this ▸ ht.eq (fun k => rfl)

theorem ltL (a b : List UInt8) : Op.bytesLess a b = true ↔ a < b := by
  rw [bytesLess_eq]
  simp
theorem lt_irrefl (a : List UInt8) : ¬ Op.bytesLess a a = true := by rw [ltL]; exact List.lt_irrefl _
theorem lt_trans {a b c : List UInt8} (h : Op.bytesLess a b = true) (k : Op.bytesLess b c = true) : Op.bytesLess a c = true := by rw [ltL] at *; exact List.lt_trans h k
theorem lt_total (a b : List UInt8) : Op.bytesLess a b = true ∨ a = b ∨ Op.bytesLess b a = true := by
  rw [ltL, ltL]
  by_cases h : a < b
  · exact .inl h
  · by_cases k : b < a
    · exact .inr (.inr k)
    · exact .inr (.inl (List.le_antisymm (List.not_lt.1 k) (List.not_lt.1 h)))
theorem cmpL_cases (a b : List UInt8) : (cmpL a b = -1 ∧ a < b) ∨ (cmpL a b = 0 ∧ a = b) ∨ (cmpL a b = 1 ∧ b < a) := by
  unfold cmpL
  rcases lt_total a b with h | h | h
  · exact .inl ⟨by rw [if_pos h], (ltL a b).1 h⟩
  · subst h
    exact .inr (.inl ⟨by rw [if_neg (lt_irrefl a), if_neg (lt_irrefl a)], rfl⟩)
  · have h2 : ¬ Op.bytesLess a b = true := fun k => lt_irrefl a (lt_trans k h)
    exact .inr (.inr ⟨by rw [if_neg h2, if_pos h], (ltL b a).1 h⟩)

/-- A label is less than another one. -/
def Lt (a b : S28) : Prop := a.f0.toList < b.f0.toList ∨ (a.f0.toList = b.f0.toList ∧ (a.f1.toList < b.f1.toList ∨ (a.f1.toList = b.f1.toList ∧ a.f2 < b.f2)))
open Classical in
noncomputable def lt (a b : S28) : Bool := decide (Lt a b)
theorem Lt_irrefl (a : S28) : ¬ Lt a a := by
  rintro (h | ⟨_, h | ⟨_, h⟩⟩)
  · exact List.lt_irrefl _ h
  · exact List.lt_irrefl _ h
  · omega
theorem Lt_trans {a b c : S28} (h : Lt a b) (k : Lt b c) : Lt a c := by
  rcases h with h | ⟨e, h⟩
  · rcases k with k | ⟨f, k⟩
    · exact .inl (List.lt_trans h k)
    · exact .inl (f ▸ h)
  · rcases k with k | ⟨f, k⟩
    · exact .inl (e ▸ k)
    · refine .inr ⟨e.trans f, ?_⟩
      rcases h with h | ⟨e2, h⟩
      · rcases k with k | ⟨f2, k⟩
        · exact .inl (List.lt_trans h k)
        · exact .inl (f2 ▸ h)
      · rcases k with k | ⟨f2, k⟩
        · exact .inl (e2 ▸ k)
        · exact .inr ⟨e2.trans f2, by omega⟩
theorem list_tri (a b : List UInt8) : a < b ∨ a = b ∨ b < a := by
  rcases cmpL_cases a b with h | h | h
  · exact .inl h.2
  · exact .inr (.inl h.2)
  · exact .inr (.inr h.2)
theorem Lt_tri (a b : S28) : Lt a b ∨ a = b ∨ Lt b a := by
  rcases list_tri a.f0.toList b.f0.toList with h | h | h
  · exact .inl (.inl h)
  · rcases list_tri a.f1.toList b.f1.toList with k | k | k
    · exact .inl (.inr ⟨h, .inl k⟩)
    · rcases Int.lt_trichotomy a.f2 b.f2 with l | l | l
      · exact .inl (.inr ⟨h, .inr ⟨k, l⟩⟩)
      · exact .inr (.inl ((key_iff a b).1 ⟨h, k, l⟩))
      · exact .inr (.inr (.inr ⟨h.symm, .inr ⟨k.symm, l⟩⟩))
    · exact .inr (.inr (.inr ⟨h.symm, .inl k⟩))
  · exact .inr (.inr (.inl h))

theorem cmpS (a b : ByteArray) : cmp_Compare_string.f a b = some (cmpL a.toList b.toList) := by
  have n (x : ByteArray) : cmp_isNaN_string.f x = some false := by unfold cmp_isNaN_string.f; simp
  unfold cmp_Compare_string.f cmpL
  rw [n, n]
  simp only [Option.bind_some]
  rw [if_neg (by decide), if_neg (by decide)]
  split
  · rfl
  · split <;> rfl
theorem cmpI (a b : Int) : cmp_Compare_int.f a b = some (if a < b then -1 else if b < a then 1 else 0) := by
  have n (x : Int) : cmp_isNaN_int.f x = some false := by unfold cmp_isNaN_int.f; simp
  unfold cmp_Compare_int.f
  rw [n, n]
  simp only [Option.bind_some]
  rw [if_neg (by decide), if_neg (by decide)]
  split
  · rfl
  · split <;> rfl
theorem or3 (x y z : Int) : cmp_Or_int.f 5 [x, y, z] = some (if x = 0 then if y = 0 then z else y else x) := by
  have w0 : wrap64 (0 + 1) = 1 := by unfold wrap64; omega
  have w1 : wrap64 (1 + 1) = 2 := by unfold wrap64; omega
  have w2 : wrap64 (2 + 1) = 3 := by unfold wrap64; omega
  show cmp_Or_int.l0 5 0 [x, y, z] 3 0 = _
  have r0 : rd [x, y, z] 0 = x := rfl
  have r1 : rd [x, y, z] 1 = y := rfl
  have r2 : rd [x, y, z] 2 = z := rfl
  have l3 : (([x, y, z] : List Int).length : Int) = 3 := rfl
  rw [cmp_Or_int.l0, if_pos (by decide), if_pos (by decide), l3, if_pos (by decide), r0]
  by_cases hx : x = 0
  · rw [if_pos hx, if_pos hx, w0, cmp_Or_int.l0, if_pos (by decide), if_pos (by decide), l3, if_pos (by decide), r1]
    by_cases hy : y = 0
    · rw [if_pos hy, if_pos hy, w1, cmp_Or_int.l0, if_pos (by decide), if_pos (by decide), l3, if_pos (by decide), r2]
      by_cases hz : z = 0
      · rw [if_pos hz, w2, cmp_Or_int.l0, if_neg (by decide), hz]
      · rw [if_neg hz]
    · rw [if_neg hy, if_neg hy]
  · rw [if_neg hx, if_neg hx]
theorem less_prog (a b : S28) : keys_Less.f 5 a.f0 a.f1 a.f2 b.f0 b.f1 b.f2 = some (lt a b) := by
  unfold keys_Less.f keys_compare.f
  rw [cmpS, cmpS, cmpI]
  simp only [Option.bind_some]
  rw [or3]
  simp only [Option.bind_some, Option.some.injEq]
  unfold lt
  congr 1
  apply propext
  unfold Lt
  rcases cmpL_cases a.f0.toList b.f0.toList with ⟨h, h1⟩ | ⟨h, h1⟩ | ⟨h, h1⟩
  · rw [h]
    exact ⟨fun _ => .inl h1, fun _ => by rw [if_neg (by decide)]; decide⟩
  · rw [h, if_pos rfl]
    have h2 : ¬ a.f0.toList < b.f0.toList := by rw [h1]; exact List.lt_irrefl _
    rcases cmpL_cases a.f1.toList b.f1.toList with ⟨k, k1⟩ | ⟨k, k1⟩ | ⟨k, k1⟩
    · rw [k]
      exact ⟨fun _ => .inr ⟨h1, .inl k1⟩, fun _ => by rw [if_neg (by decide)]; decide⟩
    · rw [k, if_pos rfl]
      have k2 : ¬ a.f1.toList < b.f1.toList := by rw [k1]; exact List.lt_irrefl _
      constructor
      · intro q
        refine .inr ⟨h1, .inr ⟨k1, ?_⟩⟩
        split at q
        · assumption
        · split at q <;> omega
      · rintro (q | ⟨_, q | ⟨_, q⟩⟩)
        · exact absurd q h2
        · exact absurd q k2
        · rw [if_pos q]; decide
    · rw [k, if_neg (by decide)]
      constructor
      · intro q; exact absurd q (by decide)
      · rintro (q | ⟨_, q | ⟨q, _⟩⟩)
        · exact absurd q h2
        · exact absurd (List.lt_trans q k1) (List.lt_irrefl _)
        · rw [q] at k1; exact absurd k1 (List.lt_irrefl _)
  · rw [h, if_neg (by decide)]
    constructor
    · intro q; exact absurd q (by decide)
    · rintro (q | ⟨q, _⟩)
      · exact absurd (List.lt_trans q h1) (List.lt_irrefl _)
      · rw [q] at h1; exact absurd h1 (List.lt_irrefl _)
open Classical in
theorem less_ref (a b : S28) (h0 : a.f0.size ≤ 140737488351232) (h1 : a.f1.size ≤ 140737488351232) : ∃ k, tendrilref07_Less.f k a.f0 a.f1 a.f2 b.f0 b.f1 b.f2 = some (lt a b) := by
  obtain ⟨k1, g1⟩ := compare a.f0 b.f0 h0
  obtain ⟨k2, g2⟩ := compare a.f1 b.f1 h1
  refine ⟨k1 + k2, ?_⟩
  unfold tendrilref07_Less.f
  rw [show tendrilref02_Compare.f (k1 + k2) a.f0 b.f0 = _ from g1 (k1 + k2) (by omega), show tendrilref02_Compare.f (k1 + k2) a.f1 b.f1 = _ from g2 (k1 + k2) (by omega)]
  simp only [Option.bind_some]
  rcases cmpL_cases a.f0.toList b.f0.toList with ⟨h, l1⟩ | ⟨h, l1⟩ | ⟨h, l1⟩
  · rw [h, if_pos (by decide)]
    have : Lt a b := .inl l1
    unfold lt
    rw [decide_eq_true this]
  · rw [h, if_neg (by decide), if_pos rfl]
    have h2 : ¬ a.f0.toList < b.f0.toList := by rw [l1]; exact List.lt_irrefl _
    rcases cmpL_cases a.f1.toList b.f1.toList with ⟨k, m1⟩ | ⟨k, m1⟩ | ⟨k, m1⟩
    · rw [k, if_pos (by decide)]
      have : Lt a b := .inr ⟨l1, .inl m1⟩
      unfold lt
      rw [decide_eq_true this]
    · rw [k, if_neg (by decide), if_pos rfl]
      have k2 : ¬ a.f1.toList < b.f1.toList := by rw [m1]; exact List.lt_irrefl _
      unfold lt
      congr 1
      rw [decide_eq_decide]
      constructor
      · intro q; exact .inr ⟨l1, .inr ⟨m1, q⟩⟩
      · rintro (q | ⟨_, q | ⟨_, q⟩⟩)
        · exact absurd q h2
        · exact absurd q k2
        · exact q
    · rw [k, if_neg (by decide), if_neg (by decide)]
      have : ¬ Lt a b := by
        rintro (q | ⟨_, q | ⟨q, _⟩⟩)
        · exact absurd q h2
        · exact absurd (List.lt_trans q m1) (List.lt_irrefl _)
        · rw [q] at m1; exact absurd m1 (List.lt_irrefl _)
      unfold lt
      rw [decide_eq_false this]
  · rw [h, if_neg (by decide), if_neg (by decide)]
    have : ¬ Lt a b := by
      rintro (q | ⟨q, _⟩)
      · exact absurd (List.lt_trans q l1) (List.lt_irrefl _)
      · rw [q] at l1; exact absurd l1 (List.lt_irrefl _)
    unfold lt
    rw [decide_eq_false this]
end Go.Proofs.Ytmndedahkodibaa.Pure
