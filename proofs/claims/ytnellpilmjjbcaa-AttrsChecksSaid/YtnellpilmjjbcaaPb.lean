/- The attributes' test, and what is wrong with a node alone: the program's and the reference's say the same. -/
import Derived.Test.YtnellpilmjjbcaaPa
namespace Go.Proofs.Ytnellpilmjjbcaa.Pure
open Go.RowKit Go.Proofs.Ytnellpilmjjbcaa.G Go.Proofs.YtnellpilmjjbcaaW.PrintWords Go.Proofs.YtnellpilmjjbcaaW.PrintLast
set_option linter.unusedVariables false

theorem drop_bt (s : ByteArray) (i : Int) (h0 : 0 ≤ i) (h : i < s.size) : ∃ b : UInt8, (b.toNat : Int) = bt s i ∧ s.toList.drop i.toNat = b :: s.toList.drop (i + 1).toNat := by
  have hl : s.toList.length = s.size := by rw [Lib.toList_data]; simp
  refine ⟨s.toList[i.toNat]'(by omega), ?_, ?_⟩
  · unfold bt
    rw [dif_pos (by omega)]
    congr 1
    simp only [Lib.toList_data]
    rfl
  · rw [List.drop_eq_getElem_cons (by omega), show (i + 1).toNat = i.toNat + 1 by omega]

theorem compare_l0 (x y : ByteArray) (hx : x.size ≤ 140737488351232) (d : Nat) : ∀ i : Int, 0 ≤ i → i ≤ x.size → i ≤ y.size → (x.size : Int) - i = d →
    ∃ t, Ev (fun k => tendrilref02_Compare.l0 k x y i) t ∧ (t > 0 ↔ Op.bytesLess (y.toList.drop i.toNat) (x.toList.drop i.toNat) = true) := by
  have hlx : x.toList.length = x.size := by rw [Lib.toList_data]; simp
  have hly : y.toList.length = y.size := by rw [Lib.toList_data]; simp
  induction d with
  | zero =>
    intro i h0 hix hiy hd
    have e : x.toList.drop i.toNat = [] := List.drop_eq_nil_of_le (by omega)
    by_cases c : (x.size : Int) < y.size
    · refine ⟨-1, ((Ev.pure (-1)).step (f := fun k => tendrilref02_Compare.j1 k x y i false) (fun k => by rw [tendrilref02_Compare.j1, if_neg (by decide), if_pos c])).step (fun k => by rw [tendrilref02_Compare.l0, if_neg (by omega)]), ?_⟩
      rw [e]
      cases y.toList.drop i.toNat <;> simp [Op.bytesLess]
    · refine ⟨0, ((Ev.pure 0).step (f := fun k => tendrilref02_Compare.j1 k x y i false) (fun k => by rw [tendrilref02_Compare.j1, if_neg (by decide), if_neg c, if_neg (by omega)])).step (fun k => by rw [tendrilref02_Compare.l0, if_neg (by omega)]), ?_⟩
      rw [e]
      cases y.toList.drop i.toNat <;> simp [Op.bytesLess]
  | succ d ih =>
    intro i h0 hix hiy hd
    obtain ⟨bx, ex, dx⟩ := drop_bt x i h0 (by omega)
    by_cases c : i < (y.size : Int)
    · obtain ⟨by', ey, dy⟩ := drop_bt y i h0 c
      have st (g : Nat → Option Int) (t : Int) (hg : Ev g t) (h : ∀ k, tendrilref02_Compare.j1 (k + 1) x y i true = g k) : Ev (fun k => tendrilref02_Compare.l0 k x y i) t :=
        (hg.step (f := fun k => tendrilref02_Compare.j1 k x y i true) h).step (fun k => by rw [tendrilref02_Compare.l0, if_pos (by omega), decide_eq_true c])
      rw [dx, dy]
      have lt {a b : UInt8} : a < b ↔ (a.toNat : Int) < b.toNat := by rw [UInt8.lt_iff_toNat_lt]; omega
      by_cases c1 : bt x i < bt y i
      · refine ⟨-1, st _ _ (Ev.pure (-1)) (fun k => by rw [tendrilref02_Compare.j1, if_pos rfl, if_pos h0, if_pos (by omega), if_pos c, if_pos c1]), ?_⟩
        have h1 : ¬ by' < bx := by rw [lt]; omega
        have h2 : ¬ by' = bx := by intro e; subst e; omega
        simp [Op.bytesLess, h1, h2]
      · by_cases c2 : bt x i > bt y i
        · refine ⟨1, st _ _ (Ev.pure 1) (fun k => by rw [tendrilref02_Compare.j1, if_pos rfl, if_pos h0, if_pos (by omega), if_pos c, if_neg c1, if_pos c2]), ?_⟩
          have h1 : by' < bx := by rw [lt]; omega
          simp [Op.bytesLess, h1]
        · obtain ⟨t, ht, hi⟩ := ih (i + 1) (by omega) (by omega) (by omega) (by omega)
          refine ⟨t, st _ _ ht (fun k => by rw [tendrilref02_Compare.j1, if_pos rfl, if_pos h0, if_pos (by omega), if_pos c, if_neg c1, if_neg c2, w1 (by omega) (by omega)]), ?_⟩
          rw [hi]
          have h2 : by' = bx := by apply UInt8.toNat_inj.1; omega
          subst h2
          have h1 : ¬ by' < by' := by rw [lt]; omega
          simp [Op.bytesLess, h1]
    · have e : y.toList.drop i.toNat = [] := List.drop_eq_nil_of_le (by omega)
      refine ⟨1, ((Ev.pure 1).step (f := fun k => tendrilref02_Compare.j1 k x y i false) (fun k => by rw [tendrilref02_Compare.j1, if_neg (by decide), if_neg (by omega), if_pos (by omega)])).step (fun k => by rw [tendrilref02_Compare.l0, if_pos (by omega), decide_eq_false c]), ?_⟩
      rw [dx, e]
      simp [Op.bytesLess]
theorem compare (x y : ByteArray) (hx : x.size ≤ 140737488351232) : ∃ t, Ev (fun k => tendrilref02_Compare.f k x y) t ∧ (t > 0 ↔ Op.bytesLess y.toList x.toList = true) := by
  obtain ⟨t, ht, hi⟩ := compare_l0 x y hx x.size 0 (by omega) (by omega) (by omega) (by omega)
  exact ⟨t, ht.eq (fun k => rfl), by simpa using hi⟩

theorem rd42_mem (l : List S45) (i : Int) (h0 : 0 ≤ i) (h : i < l.length) : rd_T45 l i ∈ l := by
  unfold rd_T45
  rw [List.getD_eq_getElem?_getD, List.getElem?_eq_getElem (by omega)]
  exact List.getElem_mem _

theorem attrs_l0 (l : List S45) (hl : l.length ≤ 140737488351232) (hs : ∀ y ∈ l, Sm45 y) (d : Nat) : ∀ i : Int, 0 ≤ i → (l.length : Int) - i = d →
    ∃ r, Ev (fun k => attrs_Check.l0 k l l l.length i) r ∧ Ev (fun k => tendrilref09_Check.l0 k l l.length i) r := by
  induction d with
  | zero =>
    intro i h0 hd
    exact ⟨(0, 0), (Ev.pure _).step (fun k => by rw [attrs_Check.l0, if_neg (by omega)]), (Ev.pure _).step (fun k => by rw [tendrilref09_Check.l0, if_neg (by omega)])⟩
  | succ d ih =>
    intro i h0 hd
    obtain ⟨r, hp, hq⟩ := ih (i + 1) (by omega) (by omega)
    have hi : i < (l.length : Int) := by omega
    have hw : wrap64 (i + 1) = i + 1 := w1 (by omega) (by omega)
    have hv : wrap64 (i - 1) = i - 1 := wm (by omega) (by omega)
    by_cases c64 : i = 64
    · exact ⟨(i, 12), (Ev.pure _).step (fun k => by rw [attrs_Check.l0, if_pos hi, if_pos h0, if_pos hi, if_pos c64, if_neg (by decide)]), (Ev.pure _).step (fun k => by rw [tendrilref09_Check.l0, if_pos hi, if_pos c64])⟩
    obtain ⟨b, nb, nb', _⟩ := named (rd_T45 l i).f0 true
    have nb : Ev (fun k => chars_Name.f k (rd_T45 l i).f0) b := (nb.bind (g := fun _ t => some t) (Ev.pure b)).eq (fun k => rfl)
    cases b with
    | false =>
      exact ⟨(i, 8), nb.via (Ev.pure _) (fun k hk => by rw [attrs_Check.l0, if_pos hi, if_pos h0, if_pos hi, if_neg c64, hk]; rfl),
        nb'.via (Ev.pure _) (fun k hk => by rw [tendrilref09_Check.l0, if_pos hi, if_neg c64, if_pos h0, if_pos hi, hk]; rfl)⟩
    | true =>
    by_cases cf : ((rd_T45 l i).f1.size : Int) ≤ 65536
    case neg =>
      refine ⟨(i, 3), nb.via (Ev.pure _) (fun k hk => ?_), nb'.via (Ev.pure _) (fun k hk => ?_)⟩
      · rw [attrs_Check.l0, if_pos hi, if_pos h0, if_pos hi, if_neg c64, hk]; simp [chars_Fits.f, cf]
      · rw [tendrilref09_Check.l0, if_pos hi, if_neg c64, if_pos h0, if_pos hi, hk]; simp [show ((rd_T45 l i).f1.size : Int) > 65536 by omega]
    by_cases ci : i > 0
    case neg =>
      have p0 : Ev (fun k => attrs_Check.j2 k l i 0 l l.length i false) r := hp.step (fun k => by rw [attrs_Check.j2, if_neg (by decide), if_pos rfl, hw])
      have p1 : Ev (fun k => attrs_Check.j1 k l i 0 l l.length i false (rd_T45 l i).f0 (rd_T45 l i).f1) r := p0.step (fun k => by rw [attrs_Check.j1, if_neg (by decide), if_neg ci])
      have q1 : Ev (fun k => tendrilref09_Check.j1 k l i l.length i false) r := hq.step (fun k => by rw [tendrilref09_Check.j1, if_neg (by decide), if_neg ci, hw])
      refine ⟨r, nb.via p1 (fun k hk => ?_), nb'.via q1 (fun k hk => ?_)⟩
      · rw [attrs_Check.l0, if_pos hi, if_pos h0, if_pos hi, if_neg c64, hk]; simp [chars_Fits.f, cf, show ¬ 0 < i by omega]
      · rw [tendrilref09_Check.l0, if_pos hi, if_neg c64, if_pos h0, if_pos hi, hk]; simp [show ¬ ((rd_T45 l i).f1.size : Int) > 65536 by omega, show ¬ 0 < i by omega]
    have hvi : 0 ≤ wrap64 (i - 1) ∧ wrap64 (i - 1) < (l.length : Int) := by rw [hv]; omega
    obtain ⟨e, he⟩ : ∃ e, ((rd_T45 l (wrap64 (i - 1))).f0.toList == (rd_T45 l i).f0.toList) = e := ⟨_, rfl⟩
    have fin (r : Int × Int) (p1 : Ev (fun k => attrs_Check.j1 k l i 0 l l.length i e (rd_T45 l i).f0 (rd_T45 l i).f1) r) (q1 : Ev (fun k => tendrilref09_Check.j1 k l i l.length i e) r) :
        ∃ r, Ev (fun k => attrs_Check.l0 k l l l.length i) r ∧ Ev (fun k => tendrilref09_Check.l0 k l l.length i) r := by
      refine ⟨r, nb.via p1 (fun k hk => ?_), nb'.via q1 (fun k hk => ?_)⟩
      · rw [attrs_Check.l0, if_pos hi, if_pos h0, if_pos hi, if_neg c64, hk]; rw [← he]; simp [chars_Fits.f, cf, show 0 < i by omega, hvi]
      · rw [tendrilref09_Check.l0, if_pos hi, if_neg c64, if_pos h0, if_pos hi, hk]; rw [← he]; simp [show ¬ ((rd_T45 l i).f1.size : Int) > 65536 by omega, show 0 < i by omega, hvi]
    cases e with
    | true => exact fin (i, 10) ((Ev.pure _).step (fun k => by rw [attrs_Check.j1, if_pos rfl, if_neg (by decide)])) ((Ev.pure _).step (fun k => by rw [tendrilref09_Check.j1, if_pos rfl]))
    | false =>
      obtain ⟨t, ht, hti⟩ := compare (rd_T45 l (wrap64 (i - 1))).f0 (rd_T45 l i).f0 (hs _ (rd42_mem l _ hvi.1 hvi.2)).h0
      obtain ⟨b, hb⟩ : ∃ b, Op.bytesLess (rd_T45 l i).f0.toList (rd_T45 l (wrap64 (i - 1))).f0.toList = b := ⟨_, rfl⟩
      rw [hb] at hti
      cases b with
      | true =>
        have ht0 : t > 0 := hti.2 rfl
        refine fin (i, 9) (((Ev.pure (i, (9 : Int))).step (f := fun k => attrs_Check.j2 k l i 0 l l.length i true) (fun k => by rw [attrs_Check.j2, if_pos rfl, if_neg (by decide)])).step (fun k => by rw [attrs_Check.j1, if_neg (by decide), if_pos ci, if_pos hvi.1, if_pos hvi.2, hb])) ?_
        refine (ht.bind (g := fun k t => if t > 0 then some (i, 9) else tendrilref09_Check.l0 k l l.length (wrap64 (i + 1))) (Ev.all fun k => by rw [if_pos ht0])).step (fun k => ?_)
        rw [tendrilref09_Check.j1, if_neg (by decide), if_pos ci, if_pos hvi.1, if_pos hvi.2, if_pos h0, if_pos hi]
      | false =>
        have ht0 : ¬ t > 0 := fun h => by have := hti.1 h; cases this
        refine fin r ((hp.step (f := fun k => attrs_Check.j2 k l i 0 l l.length i false) (fun k => by rw [attrs_Check.j2, if_neg (by decide), if_pos rfl, hw])).step (fun k => by rw [attrs_Check.j1, if_neg (by decide), if_pos ci, if_pos hvi.1, if_pos hvi.2, hb])) ?_
        refine (ht.bind (g := fun k t => if t > 0 then some (i, 9) else tendrilref09_Check.l0 k l l.length (wrap64 (i + 1))) (hq.eq fun k => by rw [if_neg ht0, hw])).step (fun k => ?_)
        rw [tendrilref09_Check.j1, if_neg (by decide), if_pos ci, if_pos hvi.1, if_pos hvi.2, if_pos h0, if_pos hi]

/-- The attributes' test: both come to the same. -/
theorem attrs (l : List S45) (hl : l.length ≤ 140737488351232) (hs : ∀ y ∈ l, Sm45 y) : ∃ r, Ev (fun k => attrs_Check.f k l) r ∧ Ev (fun k => tendrilref09_Check.f k l) r := by
  obtain ⟨r, h1, h2⟩ := attrs_l0 l hl hs l.length 0 (by omega) (by omega)
  exact ⟨r, h1.eq fun k => rfl, h2.eq fun k => rfl⟩

end Go.Proofs.Ytnellpilmjjbcaa.Pure
