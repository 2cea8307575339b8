/- Names compared: the reference's way. -/
import Derived.Test.YtnellpilmjjbcaaGx5
import Derived.Test.YtnellpilmjjbcaaPaE
namespace Go.Proofs.Ytnellpilmjjbcaa.Pure
open Go.RowKit Go.Proofs.Ytnellpilmjjbcaa.G Go.Proofs.YtnellpilmjjbcaaW.PrintWords Go.Proofs.YtnellpilmjjbcaaW.PrintLast
set_option linter.unusedVariables false

theorem drop_bt (s : ByteArray) (i : Int) (h0 : 0 ≤ i) (h : i < s.size) : ∃ b : UInt8, (b.toNat : Int) = bt s i ∧ s.toList.drop i.toNat = b :: s.toList.drop (i + 1).toNat := by
  have hl : s.toList.length = s.size := by rw [Lib.toList_data]; simp
  refine ⟨s.toList[i.toNat]'(by omega), ?_, ?_⟩
  · unfold bt
    rw [dif_pos (by omega)]
    congr 1
    simp only [Lib.toList_data]
    rfl
  · rw [List.drop_eq_getElem_cons (by omega), show (i + 1).toNat = i.toNat + 1 by omega]

theorem compare_l0 (x y : ByteArray) (hx : x.size ≤ 140737488351232) (d : Nat) : ∀ i : Int, 0 ≤ i → i ≤ x.size → i ≤ y.size → (x.size : Int) - i = d →
    ∃ t, Ev (fun k => tendrilref02_Compare.l0 k x y i) t ∧ (t > 0 ↔ Op.bytesLess (y.toList.drop i.toNat) (x.toList.drop i.toNat) = true) := by
  have hlx : x.toList.length = x.size := by rw [Lib.toList_data]; simp
  have hly : y.toList.length = y.size := by rw [Lib.toList_data]; simp
  induction d with
  | zero =>
    intro i h0 hix hiy hd
    have e : x.toList.drop i.toNat = [] := List.drop_eq_nil_of_le (by omega)
    by_cases c : (x.size : Int) < y.size
    · refine ⟨-1, ((Ev.pure (-1)).step (f := fun k => tendrilref02_Compare.j1 k x y i false) (fun k => by rw [tendrilref02_Compare.j1, if_neg (by decide), if_pos c])).step (fun k => by rw [tendrilref02_Compare.l0, if_neg (by omega)]), ?_⟩
      rw [e]
      cases y.toList.drop i.toNat <;> simp [Op.bytesLess]
    · refine ⟨0, ((Ev.pure 0).step (f := fun k => tendrilref02_Compare.j1 k x y i false) (fun k => by rw [tendrilref02_Compare.j1, if_neg (by decide), if_neg c, if_neg (by omega)])).step (fun k => by rw [tendrilref02_Compare.l0, if_neg (by omega)]), ?_⟩
      rw [e]
      cases y.toList.drop i.toNat <;> simp [Op.bytesLess]
  | succ d ih =>
    intro i h0 hix hiy hd
    obtain ⟨bx, ex, dx⟩ := drop_bt x i h0 (by omega)
    by_cases c : i < (y.size : Int)
    · obtain ⟨by', ey, dy⟩ := drop_bt y i h0 c
      have st (g : Nat → Option Int) (t : Int) (hg : Ev g t) (h : ∀ k, tendrilref02_Compare.j1 (k + 1) x y i true = g k) : Ev (fun k => tendrilref02_Compare.l0 k x y i) t :=
        (hg.step (f := fun k => tendrilref02_Compare.j1 k x y i true) h).step (fun k => by rw [tendrilref02_Compare.l0, if_pos (by omega), decide_eq_true c])
      rw [dx, dy]
      have lt {a b : UInt8} : a < b ↔ (a.toNat : Int) < b.toNat := by rw [UInt8.lt_iff_toNat_lt]; omega
      by_cases c1 : bt x i < bt y i
      · refine ⟨-1, st _ _ (Ev.pure (-1)) (fun k => by rw [tendrilref02_Compare.j1, if_pos rfl, if_pos h0, if_pos (by omega), if_pos c, if_pos c1]), ?_⟩
        have h1 : ¬ by' < bx := by rw [lt]; omega
        have h2 : ¬ by' = bx := by intro e; subst e; omega
        simp [Op.bytesLess, h1, h2]
      · by_cases c2 : bt x i > bt y i
        · refine ⟨1, st _ _ (Ev.pure 1) (fun k => by rw [tendrilref02_Compare.j1, if_pos rfl, if_pos h0, if_pos (by omega), if_pos c, if_neg c1, if_pos c2]), ?_⟩
          have h1 : by' < bx := by rw [lt]; omega
          simp [Op.bytesLess, h1]
        · obtain ⟨t, ht, hi⟩ := ih (i + 1) (by omega) (by omega) (by omega) (by omega)
          refine ⟨t, st _ _ ht (fun k => by rw [tendrilref02_Compare.j1, if_pos rfl, if_pos h0, if_pos (by omega), if_pos c, if_neg c1, if_neg c2, w1 (by omega) (by omega)]), ?_⟩
          rw [hi]
          have h2 : by' = bx := by apply UInt8.toNat_inj.1; omega
          subst h2
          have h1 : ¬ by' < by' := by rw [lt]; omega
          simp [Op.bytesLess, h1]
    · have e : y.toList.drop i.toNat = [] := List.drop_eq_nil_of_le (by omega)
      refine ⟨1, ((Ev.pure 1).step (f := fun k => tendrilref02_Compare.j1 k x y i false) (fun k => by rw [tendrilref02_Compare.j1, if_neg (by decide), if_neg (by omega), if_pos (by omega)])).step (fun k => by rw [tendrilref02_Compare.l0, if_pos (by omega), decide_eq_false c]), ?_⟩
      rw [dx, e]
      simp [Op.bytesLess]
theorem compare (x y : ByteArray) (hx : x.size ≤ 140737488351232) : ∃ t, Ev (fun k => tendrilref02_Compare.f k x y) t ∧ (t > 0 ↔ Op.bytesLess y.toList x.toList = true) := by
  obtain ⟨t, ht, hi⟩ := compare_l0 x y hx x.size 0 (by omega) (by omega) (by omega) (by omega)
  exact ⟨t, ht.eq (fun k => rfl), by simpa using hi⟩

end Go.Proofs.Ytnellpilmjjbcaa.Pure
