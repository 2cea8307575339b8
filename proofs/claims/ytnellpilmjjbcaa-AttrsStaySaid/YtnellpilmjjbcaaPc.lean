/- Get, With and Without in plain words: both come tq the same. -/
import Derived.Test.YtnellpilmjjbcaaPbC
import Derived.Test.YtnellpilmjjbcaaGx4
import Derived.Test.YtnellpilmjjbcaaH7
import Derived.Test.YtnellpilmjjbcaaH10
import Derived.Sort.Walk0
namespace Go.Proofs.Ytnellpilmjjbcaa.Pure
open Go.RowKit Go.Proofs.Ytnellpilmjjbcaa.G Go.Proofs.YtnellpilmjjbcaaW.PrintWords Go.Proofs.YtnellpilmjjbcaaW.PrintLast
set_option linter.unusedVariables false

def lessB (a b : ByteArray) : Bool := Op.bytesLess a.toList b.toList
theorem lessB_lt (a b : ByteArray) : lessB a b = true ↔ a.toList < b.toList := by
  unfold lessB
  rw [bytesLess_eq]
  simp
theorem less_irrefl (a : ByteArray) : ¬ lessB a a = true := by rw [lessB_lt]; exact List.lt_irrefl _
theorem less_trans {a b c : ByteArray} (h : lessB a b = true) (k : lessB b c = true) : lessB a c = true := by rw [lessB_lt] at *; exact List.lt_trans h k
theorem less_total (a b : ByteArray) : lessB a b = true ∨ a.toList = b.toList ∨ lessB b a = true := by
  rw [lessB_lt, lessB_lt]
  by_cases h : a.toList < b.toList
  · exact .inl h
  · by_cases k : b.toList < a.toList
    · exact .inr (.inr k)
    · exact .inr (.inl (List.le_antisymm (List.not_lt.1 k) (List.not_lt.1 h)))
theorem isN_iff (n : ByteArray) (x : S45) : isN n x = true ↔ x.f0.toList = n.toList := by unfold isN; simp
theorem less_cases (n : ByteArray) (x : S45) : (¬ isN n x = true ∧ ¬ lessB x.f0 n = true) ↔ lessB n x.f0 = true := by
  rw [isN_iff]
  constructor
  · rintro ⟨h, k⟩
    rcases less_total n x.f0 with a | a | a
    · exact a
    · exact absurd a.symm h
    · exact absurd a k
  · intro h
    refine ⟨fun e => ?_, fun k => less_irrefl _ (less_trans h k)⟩
    rw [lessB, e] at h
    exact less_irrefl n h

/-- The place of the first that is greater; behind all, if there is none. -/
def gtFrom (n : ByteArray) : List S45 → Int → Int
  | [], i => i
  | x :: xs, i => if lessB n x.f0 = true then i else gtFrom n xs (i + 1)
theorem gt_range (n : ByteArray) (l : List S45) : ∀ i : Int, i ≤ gtFrom n l i ∧ gtFrom n l i ≤ i + l.length := by
  induction l with
  | nil => intro i; simp [gtFrom]
  | cons x l ih =>
    intro i
    rw [gtFrom]
    split
    · simp; omega
    · have := ih (i + 1); simp; omega
theorem gt_split (n : ByteArray) (l : List S45) : ∀ i : Int, (∀ x ∈ l.take (gtFrom n l i - i).toNat, ¬ lessB n x.f0 = true) ∧ (∀ x xs, l.drop (gtFrom n l i - i).toNat = x :: xs → lessB n x.f0 = true) := by
  induction l with
  | nil => intro i; simp [gtFrom]
  | cons x l ih =>
    intro i
    rw [gtFrom]
    split
    · next h => rw [Int.sub_self]; simp [h]
    · next h =>
      obtain ⟨a, b⟩ := ih (i + 1)
      have hr := gt_range n l (i + 1)
      have e : (gtFrom n l (i + 1) - i).toNat = (gtFrom n l (i + 1) - (i + 1)).toNat + 1 := by omega
      rw [e]
      refine ⟨fun y hy => ?_, fun y ys hy => ?_⟩
      · rw [List.take_succ_cons] at hy
        rcases List.mem_cons.1 hy with rfl | hy
        · exact h
        · exact a y hy
      · rw [List.drop_succ_cons] at hy
        exact b y ys hy

theorem idx_neg (n : ByteArray) (l : List S45) : ∀ i : Int, 0 ≤ i → idxFrom n l i = -1 → ∀ x ∈ l, ¬ isN n x = true := by
  induction l with
  | nil => intro i h0 h x hx; cases hx
  | cons y l ih =>
    intro i h0 h x hx
    rw [idxFrom] at h
    split at h
    · omega
    · next hy =>
      rcases List.mem_cons.1 hx with rfl | hx
      · exact hy
      · exact ih (i + 1) (by omega) h x hx
theorem idx_all (n : ByteArray) (l : List S45) : ∀ i : Int, (∀ x ∈ l, ¬ isN n x = true) → idxFrom n l i = -1 := by
  induction l with
  | nil => intro i h; rfl
  | cons y l ih =>
    intro i h
    rw [idxFrom, if_neg (h y (by simp)), ih _ (fun x hx => h x (by simp [hx]))]
theorem idx_at (n : ByteArray) (A : List S45) (x : S45) (B : List S45) (hx : isN n x = true) : ∀ i : Int, (∀ y ∈ A, ¬ isN n y = true) → idxFrom n (A ++ x :: B) i = i + A.length := by
  induction A with
  | nil => intro i h; simp [idxFrom, hx]
  | cons y A ih =>
    intro i h
    rw [List.cons_append, idxFrom, if_neg (h y (by simp)), ih _ (fun z hz => h z (by simp [hz]))]
    simp
    omega
/-- A list with the name, or without. -/
theorem name_cases (n : ByteArray) (l : List S45) : (∃ A x B, l = A ++ x :: B ∧ (∀ y ∈ A, ¬ isN n y = true) ∧ isN n x = true) ∨ (∀ y ∈ l, ¬ isN n y = true) := by
  induction l with
  | nil => exact .inr (fun y hy => by cases hy)
  | cons y l ih =>
    by_cases h : isN n y = true
    · exact .inl ⟨[], y, l, rfl, (fun z hz => by cases hz), h⟩
    · rcases ih with ⟨A, x, B, rfl, hA, hx⟩ | ih
      · exact .inl ⟨y :: A, x, B, rfl, fun z hz => by rcases List.mem_cons.1 hz with rfl | hz; exact h; exact hA z hz, hx⟩
      · exact .inr fun z hz => by rcases List.mem_cons.1 hz with rfl | hz; exact h; exact ih z hz

theorem find_l0 (l : List S45) (n : ByteArray) (hl : l.length ≤ 140737488351232) (d : Nat) : ∀ i tq : Int, 0 ≤ i → (l.length : Int) - i = d → (tq = l.length ∨ tq < i) →
    Ev (fun k => attrs_find.l0 k l n tq l l.length i) (if idxFrom n (l.drop i.toNat) i = -1 then (if tq < l.length then tq else gtFrom n (l.drop i.toNat) i, false) else (idxFrom n (l.drop i.toNat) i, true)) := by
  induction d with
  | zero =>
    intro i tq h0 hd ht
    refine (Ev.pure _).step (fun k => ?_)
    rw [attrs_find.l0, if_neg (by omega), List.drop_eq_nil_of_le (by omega), idxFrom, if_pos rfl, gtFrom]
    split
    · rfl
    · congr 2; omega
  | succ d ih =>
    intro i tq h0 hd ht
    have h1 : i < (l.length : Int) := by omega
    have hw : wrap64 (i + 1) = i + 1 := w1 (by omega) (by omega)
    rw [drop_T45 l i h0 h1, idxFrom, gtFrom]
    by_cases c : isN n (rd_T45 l i) = true
    · rw [if_pos c, if_neg (by omega)]
      exact (Ev.pure _).step (fun k => by rw [attrs_find.l0, if_pos h1, if_pos h0, if_pos h1, if_pos ((isN_iff _ _).1 c)])
    · rw [if_neg c]
      have c' : ¬ (rd_T45 l i).f0.toList = n.toList := fun e => c ((isN_iff _ _).2 e)
      by_cases c2 : tq < (l.length : Int)
      · have := ih (i + 1) tq (by omega) (by omega) (.inr (by omega))
        rw [if_pos c2] at this ⊢
        exact this.step (fun k => by rw [attrs_find.l0, if_pos h1, if_pos h0, if_pos h1, if_neg c', if_pos c2, hw])
      · have hto : tq = l.length := by omega
        by_cases c3 : lessB (rd_T45 l i).f0 n = true
        · have c4 : ¬ lessB n (rd_T45 l i).f0 = true := fun h => ((less_cases _ _).2 h).2 c3
          have := ih (i + 1) tq (by omega) (by omega) (.inl hto)
          rw [if_neg c2] at this ⊢
          rw [if_neg c4]
          exact this.step (fun k => by rw [attrs_find.l0, if_pos h1, if_pos h0, if_pos h1, if_neg c', if_neg c2, if_pos (show Op.bytesLess _ _ = true from c3), hw])
        · have c4 := (less_cases n (rd_T45 l i)).1 ⟨c, c3⟩
          have := ih (i + 1) i (by omega) (by omega) (.inr (by omega))
          rw [if_pos h1] at this
          rw [if_neg c2, if_pos c4]
          exact this.step (fun k => by rw [attrs_find.l0, if_pos h1, if_pos h0, if_pos h1, if_neg c', if_neg c2, if_neg (show ¬ Op.bytesLess _ _ = true from c3), hw])
theorem find_ev (l : List S45) (n : ByteArray) (hl : l.length ≤ 140737488351232) : Ev (fun k => attrs_find.f k l n) (if idxFrom n l 0 = -1 then (gtFrom n l 0, false) else (idxFrom n l 0, true)) := by
  have := find_l0 l n hl l.length 0 l.length (by omega) (by omega) (.inl rfl)
  simp only [Int.toNat_zero, List.drop_zero, if_neg (show ¬ (l.length : Int) < l.length by omega)] at this
  exact this.eq (fun k => rfl)
theorem refFind_l0 (l : List S45) (n : ByteArray) (hl : l.length ≤ 140737488351232) (d : Nat) : ∀ i : Int, 0 ≤ i → (l.length : Int) - i = d →
    Ev (fun k => tendrilref09_Find.l0 k l n l.length i) (idxFrom n (l.drop i.toNat) i) := by
  induction d with
  | zero =>
    intro i h0 hd
    rw [List.drop_eq_nil_of_le (by omega), idxFrom]
    exact (Ev.pure _).step (fun k => by rw [tendrilref09_Find.l0, if_neg (by omega)])
  | succ d ih =>
    intro i h0 hd
    have h1 : i < (l.length : Int) := by omega
    rw [drop_T45 l i h0 h1, idxFrom]
    by_cases c : isN n (rd_T45 l i) = true
    · rw [if_pos c]
      exact (Ev.pure _).step (fun k => by rw [tendrilref09_Find.l0, if_pos h1, if_pos h0, if_pos h1, if_pos ((isN_iff _ _).1 c)])
    · rw [if_neg c]
      exact (ih (i + 1) (by omega) (by omega)).step (fun k => by rw [tendrilref09_Find.l0, if_pos h1, if_pos h0, if_pos h1, if_neg (fun e => c ((isN_iff _ _).2 e)), w1 (by omega) (by omega)])
theorem refFind_ev (l : List S45) (n : ByteArray) (hl : l.length ≤ 140737488351232) : Ev (fun k => tendrilref09_Find.f k l n) (idxFrom n l 0) := by
  have := refFind_l0 l n hl l.length 0 (by omega) (by omega)
  simp only [Int.toNat_zero, List.drop_zero] at this
  exact this.eq (fun k => rfl)

theorem rd_at (A : List S45) (x : S45) (B : List S45) : rd_T45 (A ++ x :: B) (A.length : Int) = x := by
  unfold rd_T45
  simp [List.getD_eq_getElem?_getD]
/-- Get: both. -/
theorem get_at (A : List S45) (x : S45) (B : List S45) (n : ByteArray) (hl : (A ++ x :: B).length ≤ 140737488351232) (hA : ∀ y ∈ A, ¬ isN n y = true) (hx : isN n x = true) :
    Ev (fun k => attrs_Get.f k (A ++ x :: B) n) (x.f1, true) ∧ Ev (fun k => tendrilref09_Get.f k (A ++ x :: B) n) (x.f1, true) := by
  have e := idx_at n A x B hx 0 hA
  have hlen : (A.length : Int) < ((A ++ x :: B).length : Int) := by simp; omega
  have f1 := find_ev (A ++ x :: B) n hl
  have f2 := refFind_ev (A ++ x :: B) n hl
  rw [e] at f1 f2
  rw [Int.zero_add] at f1 f2
  rw [if_neg (by omega)] at f1
  constructor
  · exact f1.via0 (Ev.pure _) (fun k hk => by rw [attrs_Get.f, hk, Option.bind_some, if_pos rfl, if_pos (by omega), if_pos hlen, rd_at])
  · exact f2.via0 (Ev.pure _) (fun k hk => by rw [tendrilref09_Get.f, hk, Option.bind_some, if_neg (by omega), if_pos (by omega), if_pos hlen, rd_at])
theorem get_none (l : List S45) (n : ByteArray) (hl : l.length ≤ 140737488351232) (h : ∀ y ∈ l, ¬ isN n y = true) :
    Ev (fun k => attrs_Get.f k l n) (⟨#[]⟩, false) ∧ Ev (fun k => tendrilref09_Get.f k l n) (⟨#[]⟩, false) := by
  have e := idx_all n l 0 h
  have f1 := find_ev l n hl
  have f2 := refFind_ev l n hl
  rw [e] at f1 f2
  rw [if_pos rfl] at f1
  constructor
  · exact f1.via0 (Ev.pure _) (fun k hk => by rw [attrs_Get.f, hk, Option.bind_some, if_neg (by simp)])
  · exact f2.via0 (Ev.pure _) (fun k hk => by rw [tendrilref09_Get.f, hk, Option.bind_some, if_pos (by omega)])
end Go.Proofs.Ytnellpilmjjbcaa.Pure
