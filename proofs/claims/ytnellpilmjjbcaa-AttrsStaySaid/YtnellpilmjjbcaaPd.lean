/- With and Without: the program's and the document's come to one list. -/
import Derived.Test.YtnellpilmjjbcaaPc
import Derived.Test.YtnellpilmjjbcaaGx6
namespace Go.Proofs.Ytnellpilmjjbcaa.Pure
open Go.RowKit Go.Proofs.Ytnellpilmjjbcaa.G Go.Proofs.YtnellpilmjjbcaaW.PrintWords Go.Proofs.YtnellpilmjjbcaaW.PrintLast
set_option linter.unusedVariables false

theorem eta45 (x : S45) : (⟨x.f0, x.f1⟩ : S45) = x := by cases x; rfl
theorem rd_nat (l : List S45) (i : Nat) : rd_T45 l (i : Int) = (l[i]?).getD z45 := by
  unfold rd_T45
  rw [List.getD_eq_getElem?_getD, Int.toNat_natCast]

/-- The place at which a name belongs. -/
def pl (n : ByteArray) (l : List S45) : Nat := (gtFrom n l 0).toNat
theorem pl_le (n : ByteArray) (l : List S45) : pl n l ≤ l.length := by
  have := gt_range n l 0
  unfold pl
  omega
theorem pl_eq (n : ByteArray) (l : List S45) : gtFrom n l 0 = (pl n l : Int) := by
  have := gt_range n l 0
  unfold pl
  omega
def ins (n v : ByteArray) (l : List S45) : List S45 := l.take (pl n l) ++ [⟨n, v⟩] ++ l.drop (pl n l)

theorem with_found (A : List S45) (x : S45) (B : List S45) (n v : ByteArray) (hl : (A ++ x :: B).length ≤ 4398046510000) (hA : ∀ y ∈ A, ¬ isN n y = true) (hx : isN n x = true) :
    Ev (fun k => attrs_With.f k (A ++ x :: B) n v) (A ++ ⟨x.f0, v⟩ :: B) := by
  have f1 := find_ev (A ++ x :: B) n (by omega)
  rw [idx_at n A x B hx 0 hA, Int.zero_add, if_neg (by omega)] at f1
  have hlen : (A.length : Int) < ((A ++ x :: B).length : Int) := by simp; omega
  refine f1.via0 (Ev.pure _) (fun k hk => ?_)
  rw [attrs_With.f, hk, Option.bind_some, withAt, if_pos ⟨hl, by simp, by simp; omega⟩, if_pos rfl, if_pos hlen, rd_at]
  congr 1
  simp
theorem with_none (l : List S45) (n v : ByteArray) (hl : l.length ≤ 4398046510000) (h : ∀ y ∈ l, ¬ isN n y = true) :
    Ev (fun k => attrs_With.f k l n v) (ins n v l) := by
  have f1 := find_ev l n (by omega)
  rw [idx_all n l 0 h, if_pos rfl] at f1
  have := gt_range n l 0
  refine f1.via0 (Ev.pure _) (fun k hk => ?_)
  rw [attrs_With.f, hk, Option.bind_some, withAt, if_pos ⟨hl, by dsimp only; omega, by dsimp only; omega⟩, if_neg (by simp)]
  rfl

theorem refWith_l0 (l : List S45) (hl : l.length ≤ 140737488351232) (hs : ∀ y ∈ l, Sm45 y) (n v : ByteArray) (at' : Int) (r : List S45) (h : Ev (fun k => tendrilref09_With.j1 k l n v at' (gtFrom n l 0)) r) (d : Nat) : ∀ i : Int, 0 ≤ i → (l.length : Int) - i = d → gtFrom n (l.drop i.toNat) i = gtFrom n l 0 →
    Ev (fun k => tendrilref09_With.l0 k l n v at' i) r := by
  induction d with
  | zero =>
    intro i h0 hd hg
    rw [List.drop_eq_nil_of_le (by omega), gtFrom] at hg
    rw [← hg] at h
    exact h.step (fun k => by rw [tendrilref09_With.l0, if_neg (by omega)])
  | succ d ih =>
    intro i h0 hd hg
    have h1 : i < (l.length : Int) := by omega
    rw [drop_T45 l i h0 h1, gtFrom] at hg
    have hm : rd_T45 l i ∈ l := by
      unfold rd_T45
      rw [List.getD_eq_getElem?_getD, List.getElem?_eq_getElem (by omega)]
      exact List.getElem_mem _
    obtain ⟨t, ht, hti⟩ := compare (rd_T45 l i).f0 n (hs _ hm).h0
    by_cases c : lessB n (rd_T45 l i).f0 = true
    · rw [if_pos c] at hg
      have : ¬ t ≤ 0 := by have := hti.2 c; omega
      rw [← hg] at h
      exact ht.via h (fun k hk => by rw [tendrilref09_With.l0, if_pos h1, if_pos h0, hk, Option.bind_some, if_neg this])
    · rw [if_neg c] at hg
      have : t ≤ 0 := by
        by_cases h2 : t > 0
        · exact absurd (hti.1 h2) c
        · omega
      exact ht.via (ih (i + 1) (by omega) (by omega) hg) (fun k hk => by rw [tendrilref09_With.l0, if_pos h1, if_pos h0, hk, Option.bind_some, if_pos this, w1 (by omega) (by omega)])

theorem refWith_found_l1 (A : List S45) (x : S45) (B : List S45) (n v : ByteArray) (g : Int) (hl : (A ++ x :: B).length ≤ 4398046510976) (d : Nat) : ∀ i : Nat, (A ++ x :: B).length - i = d → i ≤ (A ++ x :: B).length →
    Ev (fun k => tendrilref09_With.l1 k (A ++ x :: B) n v A.length g ((A ++ ⟨x.f0, v⟩ :: B).take i) (A ++ x :: B).length i) (A ++ ⟨x.f0, v⟩ :: B) := by
  induction d with
  | zero =>
    intro i hd hi
    have : (A ++ (⟨x.f0, v⟩ : S45) :: B).take i = A ++ ⟨x.f0, v⟩ :: B := List.take_of_length_le (by simp at *; omega)
    rw [this]
    exact (Ev.pure _).step (fun k => by rw [tendrilref09_With.l1, if_neg (by omega), if_neg (by omega)])
  | succ d ih =>
    intro i hd hi
    have h1 : i < (A ++ x :: B).length := by omega
    have e := ih (i + 1) (by omega) (by omega)
    have hlt : ((A ++ (⟨x.f0, v⟩ : S45) :: B).take i).length < 4398046511104 := by rw [List.length_take]; omega
    have hi2 : i < (A ++ (⟨x.f0, v⟩ : S45) :: B).length := by simp at *; omega
    have tk : (A ++ (⟨x.f0, v⟩ : S45) :: B).take (i + 1) = (A ++ ⟨x.f0, v⟩ :: B).take i ++ [rd_T45 (A ++ ⟨x.f0, v⟩ :: B) i] := by
      have := take_T45 (A ++ (⟨x.f0, v⟩ : S45) :: B) i (by omega) (by omega)
      rwa [show ((i : Int) + 1).toNat = i + 1 by omega, Int.toNat_natCast] at this
    have rdR : rd_T45 (A ++ (⟨x.f0, v⟩ : S45) :: B) i = if (i : Int) = A.length then ⟨(rd_T45 (A ++ x :: B) i).f0, v⟩ else rd_T45 (A ++ x :: B) i := by
      rw [rd_nat, rd_nat]
      by_cases c : i = A.length
      · subst c; simp
      · rw [if_neg (by omega)]
        by_cases c2 : i < A.length
        · rw [List.getElem?_append_left c2, List.getElem?_append_left c2]
        · rw [List.getElem?_append_right (by omega), List.getElem?_append_right (by omega)]
          obtain ⟨q, hq⟩ : ∃ q, i - A.length = q + 1 := ⟨i - A.length - 1, by omega⟩
          rw [hq, List.getElem?_cons_succ, List.getElem?_cons_succ]
    rw [tk, rdR] at e
    have hw : wrap64 ((i : Int) + 1) = ((i + 1 : Nat) : Int) := by rw [w1 (by omega) (by omega)]; rfl
    refine (e.step (f := fun k => tendrilref09_With.j3 k (A ++ x :: B) n v A.length g ((A ++ ⟨x.f0, v⟩ :: B).take i) i (A ++ x :: B).length i false) (fun k => ?_)).step (fun k => by rw [tendrilref09_With.l1, if_pos (by omega), if_neg (by omega)])
    rw [tendrilref09_With.j3, if_neg (by decide), if_pos (by omega), if_pos (by omega), if_pos hlt, if_pos hlt, hw]
    by_cases c : (i : Int) = A.length
    · rw [if_pos c, if_pos c]
    · rw [if_neg c, if_neg c, eta45]
theorem refWith_found (A : List S45) (x : S45) (B : List S45) (n v : ByteArray) (hl : (A ++ x :: B).length ≤ 4398046510000) (hs : ∀ y ∈ A ++ x :: B, Sm45 y) (hA : ∀ y ∈ A, ¬ isN n y = true) (hx : isN n x = true) :
    Ev (fun k => tendrilref09_With.f k (A ++ x :: B) n v) (A ++ ⟨x.f0, v⟩ :: B) := by
  have f2 := refFind_ev (A ++ x :: B) n (by omega)
  rw [idx_at n A x B hx 0 hA, Int.zero_add] at f2
  have e := refWith_found_l1 A x B n v (gtFrom n (A ++ x :: B) 0) (by omega) (A ++ x :: B).length 0 (by omega) (by omega)
  rw [List.take_zero] at e
  have e1 := e.step (f := fun k => tendrilref09_With.j1 k (A ++ x :: B) n v A.length (gtFrom n (A ++ x :: B) 0)) (fun k => by rw [tendrilref09_With.j1]; rfl)
  exact f2.via0 (refWith_l0 (A ++ x :: B) (by omega) hs n v _ _ e1 (A ++ x :: B).length 0 (by omega) (by omega) (by simp)) (fun k hk => by rw [tendrilref09_With.f, hk]; rfl)

theorem ins_len (n v : ByteArray) (l : List S45) : (ins n v l).length = l.length + 1 := by
  have := pl_le n l
  unfold ins
  simp only [List.length_append, List.length_take, List.length_drop, List.length_cons, List.length_nil]
  omega
theorem ins_rd (n v : ByteArray) (l : List S45) (i : Nat) : rd_T45 (ins n v l) i = if i < pl n l then rd_T45 l i else if i = pl n l then ⟨n, v⟩ else rd_T45 l ((i - 1 : Nat) : Int) := by
  have hp := pl_le n l
  have hA : (l.take (pl n l)).length = pl n l := by rw [List.length_take]; omega
  rw [rd_nat]
  unfold ins
  rw [List.append_assoc]
  by_cases c : i < pl n l
  · rw [if_pos c, List.getElem?_append_left (by omega), List.getElem?_take, if_pos c, rd_nat]
  · rw [if_neg c, List.getElem?_append_right (by omega), hA]
    by_cases c2 : i = pl n l
    · rw [if_pos c2, c2, Nat.sub_self]; rfl
    · rw [if_neg c2]
      obtain ⟨q, hq⟩ : ∃ q, i - pl n l = q + 1 := ⟨i - pl n l - 1, by omega⟩
      rw [hq, List.singleton_append, List.getElem?_cons_succ, List.getElem?_drop, rd_nat]
      congr 2
      omega
theorem take_nat (R : List S45) (i : Nat) (h : i < R.length) : R.take (i + 1) = R.take i ++ [rd_T45 R i] := by
  have := take_T45 R i (by omega) (by omega)
  rwa [show ((i : Int) + 1).toNat = i + 1 by omega, Int.toNat_natCast] at this
theorem refWith_none_l1 (l : List S45) (n v : ByteArray) (hl : l.length ≤ 4398046510976) (d : Nat) : ∀ i : Nat, l.length - i = d → i ≤ l.length →
    Ev (fun k => tendrilref09_With.l1 k l n v (-1) (pl n l) (if i ≤ pl n l then (ins n v l).take i else (ins n v l).take (i + 1)) l.length i) (ins n v l) := by
  have hp := pl_le n l
  have hil := ins_len n v l
  induction d with
  | zero =>
    intro i hd hi
    have hie : i = l.length := by omega
    subst hie
    by_cases c : pl n l = l.length
    · rw [if_pos (by omega)]
      have e : (ins n v l).take l.length ++ [⟨n, v⟩] = ins n v l := by
        have h1 := take_nat (ins n v l) l.length (by omega)
        rw [ins_rd, if_neg (by omega), if_pos c.symm, List.take_of_length_le (by omega)] at h1
        exact h1.symm
      refine (Ev.pure _).step (fun k => ?_)
      rw [tendrilref09_With.l1, if_neg (by omega), if_pos (by decide), if_pos (by omega), if_pos (by rw [List.length_take]; omega), e]
    · rw [if_neg (by omega), List.take_of_length_le (by omega)]
      refine (Ev.pure _).step (fun k => ?_)
      rw [tendrilref09_With.l1, if_neg (by omega), if_pos (by decide), if_neg (by omega)]
  | succ d ih =>
    intro i hd hi
    have e := ih (i + 1) (by omega) (by omega)
    have hw : wrap64 ((i : Int) + 1) = ((i + 1 : Nat) : Int) := by rw [w1 (by omega) (by omega)]; rfl
    have hx7 : ¬ (i : Int) = -1 := by omega
    by_cases c : i = pl n l
    · rw [if_pos (by omega)]
      have r1 : rd_T45 (ins n v l) ((i + 1 : Nat) : Int) = rd_T45 l i := by rw [ins_rd, if_neg (by omega), if_neg (by omega), Nat.add_sub_cancel]
      have r0 : rd_T45 (ins n v l) (i : Int) = ⟨n, v⟩ := by rw [ins_rd, if_neg (by omega), if_pos c]
      rw [if_neg (by omega), take_nat _ (i + 1) (by omega), take_nat _ i (by omega), r1, r0] at e
      have hlt : ((ins n v l).take i).length < 4398046511104 := by rw [List.length_take]; omega
      have hlt2 : ((ins n v l).take i ++ [(⟨n, v⟩ : S45)]).length < 4398046511104 := by rw [List.length_append, List.length_take]; simp; omega
      refine (e.step (f := fun k => tendrilref09_With.j3 k l n v (-1) (pl n l) ((ins n v l).take i) i l.length i true) (fun k => ?_)).step (fun k => by rw [tendrilref09_With.l1, if_pos (by omega), if_pos (by decide)]; congr 1; simp [c])
      rw [tendrilref09_With.j3, if_pos rfl, if_pos hlt, Option.bind_some, if_pos (by omega), if_pos (by omega), if_neg hx7, if_pos hlt2, hw, eta45]
    · have hne : (((i : Int) == ((pl n l : Nat) : Int)) = false) := by simp; omega
      by_cases c2 : i < pl n l
      · rw [if_pos (by omega)]
        rw [if_pos (by omega), take_nat _ i (by omega), ins_rd, if_pos c2] at e
        have hlt : ((ins n v l).take i).length < 4398046511104 := by rw [List.length_take]; omega
        refine (e.step (f := fun k => tendrilref09_With.j3 k l n v (-1) (pl n l) ((ins n v l).take i) i l.length i false) (fun k => ?_)).step (fun k => by rw [tendrilref09_With.l1, if_pos (by omega), if_pos (by decide), hne])
        rw [tendrilref09_With.j3, if_neg (by decide), if_pos (by omega), if_pos (by omega), if_neg hx7, if_pos hlt, hw, eta45]
      · rw [if_neg (by omega)]
        rw [if_neg (by omega), take_nat _ (i + 1) (by omega), ins_rd, if_neg (by omega), if_neg (by omega), Nat.add_sub_cancel] at e
        have hlt : ((ins n v l).take (i + 1)).length < 4398046511104 := by rw [List.length_take]; omega
        refine (e.step (f := fun k => tendrilref09_With.j3 k l n v (-1) (pl n l) ((ins n v l).take (i + 1)) i l.length i false) (fun k => ?_)).step (fun k => by rw [tendrilref09_With.l1, if_pos (by omega), if_pos (by decide), hne])
        rw [tendrilref09_With.j3, if_neg (by decide), if_pos (by omega), if_pos (by omega), if_neg hx7, if_pos hlt, hw, eta45]
theorem refWith_none (l : List S45) (n v : ByteArray) (hl : l.length ≤ 4398046510000) (hs : ∀ y ∈ l, Sm45 y) (h : ∀ y ∈ l, ¬ isN n y = true) :
    Ev (fun k => tendrilref09_With.f k l n v) (ins n v l) := by
  have f2 := refFind_ev l n (by omega)
  rw [idx_all n l 0 h] at f2
  have e := refWith_none_l1 l n v (by omega) l.length 0 (by omega) (by omega)
  rw [if_pos (by omega), List.take_zero] at e
  have e1 := e.step (f := fun k => tendrilref09_With.j1 k l n v (-1) (gtFrom n l 0)) (fun k => by rw [tendrilref09_With.j1, pl_eq]; rfl)
  exact f2.via0 (refWith_l0 l (by omega) hs n v _ _ e1 l.length 0 (by omega) (by omega) (by simp)) (fun k hk => by rw [tendrilref09_With.f, hk]; rfl)

/-- Without: both. -/
theorem refWithout_l0 (l : List S45) (n : ByteArray) (hl : l.length ≤ 4398046510976) (d : Nat) : ∀ i : Int, 0 ≤ i → (l.length : Int) - i = d →
    Ev (fun k => tendrilref09_Without.l0 k l n (keep n (l.take i.toNat)) l.length i) (keep n l, decide ((keep n l).length < l.length)) := by
  induction d with
  | zero =>
    intro i h0 hd
    rw [List.take_of_length_le (by omega)]
    refine (Ev.pure _).step (fun k => ?_)
    rw [tendrilref09_Without.l0, if_neg (by omega)]
    simp
  | succ d ih =>
    intro i h0 hd
    have h1 : i < (l.length : Int) := by omega
    have e := ih (i + 1) (by omega) (by omega)
    rw [take_T45 l i h0 h1, keep_snoc] at e
    have hlt : (keep n (l.take i.toNat)).length < 4398046511104 := by
      have := keep_le n (l.take i.toNat)
      rw [List.length_take] at this
      omega
    by_cases c : isN n (rd_T45 l i) = true
    · rw [if_pos c] at e
      exact e.step (fun k => by rw [tendrilref09_Without.l0, if_pos h1, if_pos h0, if_pos h1, if_pos ((isN_iff _ _).1 c), w1 (by omega) (by omega)])
    · rw [if_neg c] at e
      exact e.step (fun k => by rw [tendrilref09_Without.l0, if_pos h1, if_pos h0, if_pos h1, if_neg (fun h => c ((isN_iff _ _).2 h)), if_pos hlt, w1 (by omega) (by omega), eta45])
theorem refWithout_ev (l : List S45) (n : ByteArray) (hl : l.length ≤ 4398046510976) : Ev (fun k => tendrilref09_Without.f k l n) (keep n l, decide ((keep n l).length < l.length)) := by
  have := refWithout_l0 l n hl l.length 0 (by omega) (by omega)
  rw [show (0 : Int).toNat = 0 from rfl, List.take_zero] at this
  exact this.eq (fun k => rfl)
theorem attrs_refl (l : List S45) (hl : l.length ≤ 140737488351232) (d : Nat) : ∀ i : Int, 0 ≤ i → (l.length : Int) - i = d → Ev (fun k => tendrilplain_Attrs.l0 k l l l.length i) true := by
  induction d with
  | zero =>
    intro i h0 hd
    exact (Ev.pure _).step (fun k => by rw [tendrilplain_Attrs.l0, if_neg (by omega)])
  | succ d ih =>
    intro i h0 hd
    have h1 : i < (l.length : Int) := by omega
    exact (ih (i + 1) (by omega) (by omega)).step (fun k => by rw [tendrilplain_Attrs.l0, if_pos h1, if_pos h0, if_pos h1, if_pos h1, if_neg (by simp), w1 (by omega) (by omega)])
theorem attrs_refl_ev (l : List S45) (hl : l.length ≤ 140737488351232) : Ev (fun k => tendrilplain_Attrs.f k l l) true :=
  (attrs_refl l hl l.length 0 (by omega) (by omega)).eq (fun k => by rw [tendrilplain_Attrs.f, if_pos rfl])
end Go.Proofs.Ytnellpilmjjbcaa.Pure
