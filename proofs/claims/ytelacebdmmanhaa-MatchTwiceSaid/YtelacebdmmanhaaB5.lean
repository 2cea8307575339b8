/- What the claim LawMatchTwice rests on, part 5 of 7: the kit's words, the printed walks, the walks by hand, the plain laws. -/
import Derived.Test.YtelacebdmmanhaaB2
import Derived.Test.YtelacebdmmanhaaB3
import Derived.Test.YtelacebdmmanhaaB4
namespace Go.Proofs.Ytelacebdmmanhaa.Pure
open Go.RowKit Go.Proofs.Ytelacebdmmanhaa.G Go.Proofs.YtelacebdmmanhaaW.PrintWords Go.Proofs.YtelacebdmmanhaaW.PrintLast
set_option linter.unusedVariables false
theorem ht_L (ks : List S54) (hp : ∀ y ∈ ks, ∀ dp at_ u, ∃ it ∈ itemsT y dp at_ u, it.f1 = dp + htT y - 1) (hs : ∀ y ∈ ks, Sm54 y) : ∀ dp at_ u, htL ks = 0 ∨ ∃ it ∈ itemsL ks dp at_ u, it.f1 = dp + htL ks - 1 := by
  induction ks with
  | nil => intro dp at_ u; exact .inl rfl
  | cons y ys ih =>
    intro dp at_ u; right; rw [itemsL, htL]; have p1 := pos_of y (hs y (by simp)); obtain ⟨a, ha, ha2⟩ := hp y (by simp) dp at_ u
    rcases ih (fun z hz => hp z (by simp [hz])) (fun z hz => hs z (by simp [hz])) dp (at_ + szT y) u with h | ⟨b, hb, hb2⟩
    · exact ⟨a, List.mem_append_left _ ha, by rw [h]; omega⟩
    · by_cases c : htL ys ≤ htT y
      · exact ⟨a, List.mem_append_left _ ha, by omega⟩
      · exact ⟨b, List.mem_append_right _ hb, by omega⟩
/-- The deepest item. -/
theorem ht_T (x : S54) (h : Sm54 x) : ∀ dp at_ u, ∃ it ∈ itemsT x dp at_ u, it.f1 = dp + htT x - 1 := by
  induction h with
  | @mk x h0 h1 h2 h3 h4 h5 ih =>
    intro dp at_ u; rw [itemsT_eq, htT_eq]
    rcases ht_L x.f4 ih h5 (dp + 1) (at_ + 1) at_ with h | ⟨a, ha, ha2⟩
    (exact ⟨_, List.mem_cons_self, by rw [h]; show dp = _; omega⟩); (exact ⟨a, List.mem_cons_of_mem _ ha, by omega⟩)
def rowJ (it : SIt) : S32 := ⟨0, it.f2 + 1, it.f0.f0, it.f0.f1, it.f0.f2, it.f0.f3⟩
theorem rowJ_L (ks : List S54) (hp : ∀ y ∈ ks, ∀ dp at_ up, (itemsT y dp at_ up).map rowJ = rowsT y at_ (up + 1)) : ∀ dp at_ up, (itemsL ks dp at_ up).map rowJ = rowsL ks at_ (up + 1) := by
  induction ks with
  | nil => intro dp at_ up; rfl
  | cons y ys ih =>
    intro dp at_ up; rw [itemsL, rowsL, List.map_append, hp y (by simp), ih (fun z hz => hp z (by simp [hz]))]
theorem rowJ_T (x : S54) (h : Sm54 x) : ∀ dp at_ up, (itemsT x dp at_ up).map rowJ = rowsT x at_ (up + 1) := by
  induction h with
  | @mk x h0 h1 h2 h3 h4 h5 ih =>
    intro dp at_ up; rw [itemsT_eq, rowsT_eq, List.map_cons, rowJ_L x.f4 ih]; rfl
theorem Dp.tr {l R : List S32} {m : Int} (hg : GoodTo l m) (hu : ∀ x, 0 < x → x ≤ m → upOf R x = upOf l x) {x d : Int} (h : Dp l x d) (hx : x ≤ m) : Dp R x d := by
  induction h with
  | zero => exact .zero
  | @up x d h0 _ ih =>
    have := hg.up h0 hx; exact .up h0 (by rw [hu x h0 hx]; exact ih (by omega))
theorem rd_z0 (l : List S32) (m i : Int) (h0 : 0 ≤ i) (h1 : i < m) (h2 : m ≤ l.length) : rd_T32 ((l.take m.toNat).map z0) i = z0 (rd_T32 l i) := by
  unfold rd_T32; simp only [List.getD_eq_getElem?_getD, List.getElem?_map, List.getElem?_take]; rw [if_pos (by omega), List.getElem?_eq_getElem (by omega)]; rfl
/-- Rows, as_ far as_ they are built, and their tree. -/
structure Tied (l : List S32) (m : Int) (n : S54) : Prop where
  pos : 0 < m
  le : m ≤ l.length
  len : (l.length : Int) ≤ 4096
  good : GoodTo l l.length
  rows : (l.take m.toNat).map z0 = rowsT n 0 0
  sm : Sm54 n
  sz : szT n = m
  low : ∀ j e, 0 ≤ j → j ≤ m → Dp l j e → e ≤ 65
theorem Tied.item {l : List S32} {m : Int} {n : S54} (T : Tied l m n) {i : Nat} {it : SIt} (hi : (itemsT n 1 0 (-1))[i]? = some it) : (i : Int) < m ∧ Dp l (i + 1) it.f1 ∧ z0 (rd_T32 l i) = rowJ it := by
  have hil := lt48 hi; have hlen := itemsT_len n T.sm 1 0 (-1); have hrl := rowsT_len n T.sm 0 0; have hsz := T.sz; have hle := T.le
  have him : (i : Int) < m := by omega
  have hR : ∀ j : Int, 0 ≤ j → j < m → rd_T32 (rowsT n 0 0) j = z0 (rd_T32 l j) := fun j h0 h1 => by rw [← T.rows]; exact rd_z0 l m j h0 h1 T.le
  have hup : ∀ x, 0 < x → x ≤ m → upOf (rowsT n 0 0) x = upOf l x := fun x h0 h1 => by
    unfold upOf; rw [hR (x - 1) (by omega) (by omega)]; rfl
  refine ⟨him, ?_, ?_⟩; (obtain ⟨e, he, _⟩ := Dp.ex T.good (i + 1) ((i : Int) + 1) (by omega) (by omega) (by omega); have h1 := he.tr (T.good.mono T.le) hup (by omega); have h2 := (di_T n T.sm (rowsT n 0 0) 0 0 [] 1 (-1) (by omega) (by simp) .zero i it hi).1; rw [Int.zero_add] at h2; rw [← h1.uniq h2]; exact he)
  · have h := rowJ_T n T.sm 1 0 (-1)
    have h2 : ((itemsT n 1 0 (-1)).map rowJ)[i]? = some (rowJ it) := by rw [List.getElem?_map, hi]; rfl
    rw [h] at h2
    rw [← hR i (by omega) him]
    unfold rd_T32
    rw [List.getD_eq_getElem?_getD, Int.toNat_natCast]
    rw [show (-1 : Int) + 1 = 0 by decide] at h2
    rw [h2]
    rfl
theorem Tied.ht {l : List S32} {m : Int} {n : S54} (T : Tied l m n) : htT n ≤ 65 := by
  obtain ⟨it, h1, h2⟩ := ht_T n T.sm 1 0 (-1); obtain ⟨i, hi, rfl⟩ := List.getElem_of_mem h1; obtain ⟨a, b, _⟩ := T.item (List.getElem?_eq_getElem hi); have := T.low _ _ (by omega) (by omega) b; omega
theorem alone_kids (k : Nat) (a b c : ByteArray) (d : List S39) (ks : List S54) : r11_Alone.f k a b c d [] = r11_Alone.f k a b c d ks := rfl
/-- A row's likes ahead of it. -/
def Tw (l : List S32) (i j : Int) : Prop := ∃ k, j ≤ k ∧ k < i ∧ (rd_T32 l k).f1 = (rd_T32 l i).f1 ∧ (rd_T32 l i).f3.toList ≠ [] ∧ (rd_T32 l k).f3.toList = (rd_T32 l i).f3.toList
theorem chk13_l1 (l : List S32) (hl : (l.length : Int) ≤ 4096) (i : Int) (h0 : 0 ≤ i) (hi : i < l.length) (d : Nat) : ∀ j : Int, (i - j) = d → 0 ≤ j →
    (Tw l i j → Ev (fun k => r13_Check.l1 k l i l.length i i j) 10) ∧ (¬ Tw l i j → ∀ r, Ev (fun k => r13_Check.l0 k l l.length (i + 1)) r → Ev (fun k => r13_Check.l1 k l i l.length i i j) r) := by
  induction d with
  | zero =>
    intro j hd hj; exact ⟨fun ⟨k, h1, h2, _⟩ => by omega, fun _ r hr => hr.step (fun k => by rw [r13_Check.l1, if_neg (by omega), w1 (by omega) (by omega)])⟩
  | succ d ih =>
    intro j hd hj; obtain ⟨ih1, ih2⟩ := ih (j + 1) (by omega) (by omega); have hw : wrap64 (j + 1) = j + 1 := w1 (by omega) (by omega)
    have a1 : j < i := by omega
    have a5 : j < (l.length : Int) := by omega
    by_cases c : (rd_T32 l j).f1 = (rd_T32 l i).f1 ∧ (rd_T32 l i).f3.toList ≠ [] ∧ (rd_T32 l j).f3.toList = (rd_T32 l i).f3.toList
    · refine ⟨fun _ => (Ev.pure _).step (fun k => ?_), fun h => absurd ⟨j, Int.le_refl _, a1, c⟩ h⟩
      rw [r13_Check.l1, if_pos a1, if_pos h0, if_pos hi, if_neg c.2.1, if_pos hj, if_pos a5, if_pos c.1, if_pos c.2.2]
    · have hstep (k : Nat) : r13_Check.l1 (k + 1) l i l.length i i j = r13_Check.l1 k l i l.length i i (j + 1) := by
        rw [r13_Check.l1, if_pos a1, if_pos h0, if_pos hi, hw]
        by_cases d3 : (rd_T32 l i).f3.toList = []
        · rw [if_pos d3]
        · rw [if_neg d3, if_pos hj, if_pos a5]
          by_cases d2 : (rd_T32 l j).f1 = (rd_T32 l i).f1
          · rw [if_pos d2, if_neg (fun d4 => c ⟨d2, d3, d4⟩)]
          · rw [if_neg d2]
      have hex : Tw l i j ↔ Tw l i (j + 1) := by
        constructor
        · rintro ⟨k, h1, h2, h3⟩
          rcases Int.lt_or_eq_of_le h1 with h1 | rfl
          · exact ⟨k, by omega, h2, h3⟩
          · exact absurd h3 c
        · rintro ⟨k, h1, h2, h3⟩
          exact ⟨k, by omega, h2, h3⟩
      rw [hex]
      exact ⟨fun h => (ih1 h).step hstep, fun h r hr => (ih2 h r hr).step hstep⟩
theorem Tied.twice {l : List S32} {m : Int} {n : S54} (T : Tied l m n) {i : Nat} {it : SIt} (hi : (itemsT n 1 0 (-1))[i]? = some it) : Twice (itemsT n 1 0 (-1)) i ↔ Tw l i 0 := by
  obtain ⟨b1, b2, b3⟩ := T.item hi; have hle := T.le; have e1 : (rd_T32 l i).f1 = it.f2 + 1 := congrArg S32.f1 b3; have e3 : (rd_T32 l i).f3 = it.f0.f1 := congrArg S32.f3 b3; constructor
  · rintro ⟨it', jt, j, h1, h2, h3, h4, h5, h6, h7⟩
    rw [hi] at h2
    cases h2
    obtain ⟨c1, c2, c3⟩ := T.item h3
    have g1 : (rd_T32 l j).f1 = jt.f2 + 1 := congrArg S32.f1 c3
    have g3 : (rd_T32 l j).f3 = jt.f0.f1 := congrArg S32.f3 c3
    refine ⟨j, by omega, by omega, by omega, ?_, ?_⟩
    · rw [e3, Lib.toList_data]; exact h6
    · rw [e3, g3, Lib.toList_data, Lib.toList_data]; exact h7
  · rintro ⟨k, h1, h2, h3, h4, h5⟩
    have hk : k.toNat < (itemsT n 1 0 (-1)).length := by have := lt48 hi; omega
    obtain ⟨jt, hjt⟩ : ∃ jt, (itemsT n 1 0 (-1))[k.toNat]? = some jt := ⟨_, List.getElem?_eq_getElem hk⟩
    obtain ⟨c1, c2, c3⟩ := T.item hjt
    rw [show ((k.toNat : Nat) : Int) = k by omega] at c3
    have g1 : (rd_T32 l k).f1 = jt.f2 + 1 := congrArg S32.f1 c3
    have g3 : (rd_T32 l k).f3 = jt.f0.f1 := congrArg S32.f3 c3
    have hrow := T.good i (by omega) (by omega)
    have hpos : 1 ≤ (rd_T32 l i).f1 := by
      rcases hrow with h | h
      (omega); (have := h.2.pos; rw [upOf_rd] at this; omega)
    refine ⟨it, jt, k.toNat, by omega, hi, hjt, by omega, by omega, ?_, ?_⟩
    · rw [e3, Lib.toList_data] at h4; exact h4
    · rw [e3, g3, Lib.toList_data, Lib.toList_data] at h5; exact h5
theorem Tied.ok {l : List S32} {m : Int} {n : S54} (T : Tied l m n) (hs : ∀ it ∈ itemsT n 1 0 (-1), Sm54 it.f0) (i : Nat) (h : OKat (itemsT n 1 0 (-1)) i) {r : Int} (hr : Ev (fun k => r13_Check.l0 k l l.length ((i : Int) + 1)) r) : Ev (fun k => r13_Check.l0 k l l.length (i : Int)) r := by
  obtain ⟨it, h1, h2, h3, h4, h5⟩ := h; obtain ⟨b1, b2, b3⟩ := T.item h1; have hle := T.le; have hlen := T.len; obtain ⟨_, w2⟩ := wr_ev (hs it (List.mem_of_getElem? h1)); rw [h4] at w2; have hl := (chk13_l1 l hlen i (by omega) (by omega) i 0 (by omega) (by omega)).2 (fun h => h5 ((T.twice h1).2 h)) r hr; have hD := Depth_ev l (by omega) T.good b2 (by omega); have e2 : (rd_T32 l i).f2 = it.f0.f0 := congrArg S32.f2 b3; have e3 : (rd_T32 l i).f3 = it.f0.f1 := congrArg S32.f3 b3; have e4 : (rd_T32 l i).f4 = it.f0.f2 := congrArg S32.f4 b3; have e5 : (rd_T32 l i).f5 = it.f0.f3 := congrArg S32.f5 b3; have hA : Ev (fun k => r11_Alone.f k (rd_T32 l i).f2 (rd_T32 l i).f3 (rd_T32 l i).f4 (rd_T32 l i).f5 []) 0 := w2.eq (fun k => by rw [e2, e3, e4, e5, alone_kids k _ _ _ _ it.f0.f4])
  have key : Ev (fun k => (r13_Depth.f k l ((i : Int) + 1)).bind fun t367 => (if t367 > 64 then (some 11) else ((r11_Alone.f k ((rd_T32 l i).f2) ((rd_T32 l i).f3) ((rd_T32 l i).f4) ((rd_T32 l i).f5) ([] : List (S54))).bind fun t372 => (if t372 = 0 then (r13_Check.l1 k l i l.length i i 0) else (some t372))))) r := by
    refine Ev.bind hD ?_; exact (Ev.bind (g := fun k (t : Int) => if t = 0 then r13_Check.l1 k l i l.length i i 0 else some t) hA (hl.eq (fun k => by rw [if_pos rfl]))).eq (fun k => by rw [if_neg (by omega)])
  refine key.step (fun k => ?_); rw [r13_Check.l0, if_pos (by omega), if_neg (by omega), w1 (by omega) (by omega), if_pos (show (0 : Int) ≤ (i : Int) by omega), if_pos (show (i : Int) < (l.length : Int) by omega)]
theorem Tied.bad {l : List S32} {m : Int} {n : S54} (T : Tied l m n) (hs : ∀ it ∈ itemsT n 1 0 (-1), Sm54 it.f0) (i : Nat) (e : Int) (h : BadAt (itemsT n 1 0 (-1)) i e) : Ev (fun k => r13_Check.l0 k l l.length (i : Int)) e := by
  obtain ⟨it, h1, h2⟩ := h; obtain ⟨b1, b2, b3⟩ := T.item h1; have hle := T.le; have hlen := T.len; obtain ⟨_, w2⟩ := wr_ev (hs it (List.mem_of_getElem? h1)); have hD := Depth_ev l (by omega) T.good b2 (by omega); have e2 : (rd_T32 l i).f2 = it.f0.f0 := congrArg S32.f2 b3; have e3 : (rd_T32 l i).f3 = it.f0.f1 := congrArg S32.f3 b3; have e4 : (rd_T32 l i).f4 = it.f0.f2 := congrArg S32.f4 b3; have e5 : (rd_T32 l i).f5 = it.f0.f3 := congrArg S32.f5 b3; have hA : Ev (fun k => r11_Alone.f k (rd_T32 l i).f2 (rd_T32 l i).f3 (rd_T32 l i).f4 (rd_T32 l i).f5 []) (wr it.f0) := w2.eq (fun k => by rw [e2, e3, e4, e5, alone_kids k _ _ _ _ it.f0.f4])
  have fin (r : Int) (key : Ev (fun k => (r13_Depth.f k l ((i : Int) + 1)).bind fun t367 => (if t367 > 64 then (some 11) else ((r11_Alone.f k ((rd_T32 l i).f2) ((rd_T32 l i).f3) ((rd_T32 l i).f4) ((rd_T32 l i).f5) ([] : List (S54))).bind fun t372 => (if t372 = 0 then (r13_Check.l1 k l i l.length i i 0) else (some t372))))) r) : Ev (fun k => r13_Check.l0 k l l.length (i : Int)) r := by
    refine key.step (fun k => ?_); rw [r13_Check.l0, if_pos (by omega), if_neg (by omega), w1 (by omega) (by omega), if_pos (show (0 : Int) ≤ (i : Int) by omega), if_pos (show (i : Int) < (l.length : Int) by omega)]
  rcases h2 with ⟨a1, rfl⟩ | ⟨a1, a2, rfl⟩ | ⟨a1, a2, a3, rfl⟩ | ⟨a1, a2, a3, a4, rfl⟩
  (omega); (exact fin _ (Ev.bind hD ((Ev.pure _).eq (fun k => by rw [if_pos a2])))); (exact fin _ (Ev.bind hD ((Ev.bind (g := fun k (t : Int) => if t = 0 then r13_Check.l1 k l i l.length i i 0 else some t) hA ((Ev.pure _).eq (fun k => by rw [if_neg a3]))).eq (fun k => by rw [if_neg (by omega)])))); (rw [a3] at hA; have hl := (chk13_l1 l hlen i (by omega) (by omega) i 0 (by omega) (by omega)).1 ((T.twice h1).1 a4); exact fin _ (Ev.bind hD ((Ev.bind (g := fun k (t : Int) => if t = 0 then r13_Check.l1 k l i l.length i i 0 else some t) hA (hl.eq (fun k => by rw [if_pos rfl]))).eq (fun k => by rw [if_neg (by omega)]))))
theorem Tied.upto {l : List S32} {m : Int} {n : S54} (T : Tied l m n) (hs : ∀ it ∈ itemsT n 1 0 (-1), Sm54 it.f0) (p : Nat) (h : ∀ i, i < p → OKat (itemsT n 1 0 (-1)) i) (r : Int) (hr : Ev (fun k => r13_Check.l0 k l l.length (p : Int)) r) (d : Nat) : ∀ i : Nat, p - i = d → i ≤ p → Ev (fun k => r13_Check.l0 k l l.length (i : Int)) r := by
  induction d with
  | zero =>
    intro i hd hi
    obtain rfl : i = p := by omega
    exact hr
  | succ d ih =>
    intro i hd hi; exact T.ok hs i (h i (by omega)) (by have := ih (i + 1) (by omega) (by omega); rwa [show ((i + 1 : Nat) : Int) = (i : Int) + 1 by omega] at this)
/-- The check of the tree is the reference's check of the rows. -/
theorem Tied.check {l : List S32} {m : Int} {n : S54} (T : Tied l m n) (hd : m < l.length → ∃ e, Dp l m e ∧ 64 < e) : ∃ c : Int × Int, Ev (fun k => vtree_Check.f k n.f0 n.f1 n.f2 n.f3 n.f4) c ∧ Ev (fun k => r13_Check.f k l) c.2 ∧ (c.2 = 0 → m = l.length ∧ ∀ i, i < (itemsT n 1 0 (-1)).length → OKat (itemsT n 1 0 (-1)) i) := by
  have hxe : (⟨n.f0, n.f1, n.f2, n.f3, n.f4⟩ : S54) = n := by cases n; rfl
  have hle := T.le; have hlen := T.len; have hsz := T.sz; have hil := itemsT_len n T.sm 1 0 (-1); have hht := T.ht; have hit := its_T n T.sm [] 1 (-1) (by simp; omega) (by omega); simp only [List.nil_append, List.length_nil, Int.ofNat_zero] at hit; have hI : Ev (fun k => r11_Items.f k n.f0 n.f1 n.f2 n.f3 n.f4) (itemsT n 1 0 (-1)) := hit.eq (fun k => by rw [r11_Items.f, hxe]); obtain ⟨L, c, q1, q2, q3, q4, q6⟩ := checks n T.sm; obtain rfl := Ev.uniq q1 hI; obtain ⟨b, hb, hbi⟩ := Formed_ev l (by omega); obtain rfl : b = true := hbi.2 T.good
  have top (r : Int) (h : Ev (fun k => r13_Check.l0 k l l.length 0) r) : Ev (fun k => r13_Check.f k l) r := by
    unfold r13_Check.f; exact Ev.bind hb (h.eq (fun k => by rw [if_pos rfl]))
  refine ⟨c, q4, ?_⟩
  rcases q6 with ⟨c0, c1, c2⟩ | ⟨c0, p, c1, c2, c3⟩
  · have hm : m = l.length := by
      rcases Int.lt_or_eq_of_le hle with h | h
      · exfalso
        obtain ⟨e, he, he2⟩ := hd h
        obtain ⟨it, a1, a2, a3, a4⟩ := c2 (m - 1).toNat (by have := T.pos; omega)
        obtain ⟨_, b2, _⟩ := T.item a1
        have hp := T.pos
        rw [show (((m - 1).toNat : Nat) : Int) + 1 = m by omega] at b2
        have := he.uniq b2
        omega
      · exact h
    refine ⟨?_, fun _ => ⟨hm, c2⟩⟩
    rw [c0]
    refine top 0 ?_
    have hend : Ev (fun k => r13_Check.l0 k l l.length (((itemsT n 1 0 (-1)).length : Nat) : Int)) 0 := (Ev.pure _).step (fun k => by rw [r13_Check.l0, if_neg (by omega)])
    have := T.upto q3 _ c2 0 hend _ 0 rfl (by omega)
    exact this
  · refine ⟨?_, fun h => absurd h c0⟩
    refine top _ ?_; have := T.upto q3 p c2 _ (T.bad q3 p c.2 c3) _ 0 rfl (by omega); exact this
/-- The handles of the rows right below one. -/
def kidsIdx : List S32 → Int → Int → List Int
  | [], _, _ => []
  | y :: ys, i, h => if y.f1 = h then (i + 1) :: kidsIdx ys (i + 1) h else kidsIdx ys (i + 1) h
theorem kidsIdx_len : ∀ (a : List S32) (i h : Int), (kidsIdx a i h).length ≤ a.length
  | [], _, _ => Nat.le_refl _
  | y :: ys, i, h => by
    have := kidsIdx_len ys (i + 1) h
    rw [kidsIdx]
    split
    · simp only [List.length_cons]; omega
    · simp only [List.length_cons]; omega
theorem kidsIdx_app : ∀ (a b : List S32) (i h : Int), kidsIdx (a ++ b) i h = kidsIdx a i h ++ kidsIdx b (i + a.length) h
  | [], b, i, h => by simp [kidsIdx]
  | y :: ys, b, i, h => by
    rw [List.cons_append, kidsIdx, kidsIdx, kidsIdx_app ys b (i + 1) h, show i + 1 + (ys.length : Int) = i + ((y :: ys).length : Int) by simp only [List.length_cons]; omega]
    split <;> rfl
theorem rows_any (l : List S32) (hl : (l.length : Int) ≤ 4096) (hs : ∀ y ∈ l, Sm32 y) (hp : 0 < l.length) : ∃ e : Int, Ev (fun k => r13_Check.f k l) e ∧ Ev (fun k => flat_Check.f k l) e ∧
    ((e ≠ 0 ∧ Ev (fun k => flat_Tree.f k l) ((⟨#[]⟩ : ByteArray), (⟨#[]⟩ : ByteArray), (⟨#[]⟩ : ByteArray), ([] : List (S39)), ([] : List (S54)), e)) ∨
     (e = 0 ∧ GoodTo l l.length ∧ (∀ i : Nat, i < l.length → ¬ Tw l i 0) ∧ ∃ n c, Sm54 n ∧ szT n = l.length ∧ l.map z0 = rowsT n 0 0 ∧ Ev (fun k => flat_Tree.f k l) (n.f0, n.f1, n.f2, n.f3, n.f4, 0) ∧ Ev (fun k => vtree_Check.f k n.f0 n.f1 n.f2 n.f3 n.f4) c ∧ c.2 = 0)) := by
  have chk (x : ByteArray × ByteArray × ByteArray × (List (S39)) × (List (S54)) × Int) (hT : Ev (fun k => flat_Tree.f k l) x) : Ev (fun k => flat_Check.f k l) x.2.2.2.2.2 := (Ev.bind hT (g := fun k bt => some bt.2.2.2.2.2) (Ev.pure _)).eq (fun k => by rw [flat_Check.f, if_neg (by omega)]); obtain ⟨b, hb, hbi⟩ := formed_ev l (by omega); obtain ⟨b', hb', hbi'⟩ := Formed_ev l (by omega)
  cases b with
  | false =>
    have hn : ¬ GoodTo l l.length := fun h => by have := hbi.2 h; cases this
    obtain rfl : b' = false := by cases b' with | false => rfl | true => exact absurd (hbi'.1 rfl) hn
    have hT : Ev (fun k => flat_Tree.f k l) ((⟨#[]⟩ : ByteArray), (⟨#[]⟩ : ByteArray), (⟨#[]⟩ : ByteArray), ([] : List (S39)), ([] : List (S54)), 2) := hb.via0 (Ev.pure _) (fun k hk => by rw [flat_Tree.f, if_neg (by omega), hk, Option.bind_some, if_neg (by decide)]); refine ⟨2, ?_, chk _ hT, .inl ⟨by decide, hT⟩⟩; exact hb'.via0 (Ev.pure _) (fun k hk => by rw [r13_Check.f, hk, Option.bind_some, if_neg (by decide)])
  | true =>
    have hg := hbi.1 rfl; obtain ⟨d, hd, hdi⟩ := deep_ev l (by omega) hg
    have main (m : Int) (m0 : 0 < m) (m1 : m ≤ l.length) (low : ∀ j e, 0 ≤ j → j ≤ m → Dp l j e → e ≤ 65) (hdp : m < l.length → ∃ e, Dp l m e ∧ 64 < e) (hJ : ∀ x, Ev (fun k => flat_Tree.j0 k (l.take m.toNat)) x → Ev (fun k => flat_Tree.f k l) x) : ∃ e : Int, Ev (fun k => r13_Check.f k l) e ∧ Ev (fun k => flat_Check.f k l) e ∧
        ((e ≠ 0 ∧ Ev (fun k => flat_Tree.f k l) ((⟨#[]⟩ : ByteArray), (⟨#[]⟩ : ByteArray), (⟨#[]⟩ : ByteArray), ([] : List (S39)), ([] : List (S54)), e)) ∨
         (e = 0 ∧ GoodTo l l.length ∧ (∀ i : Nat, i < l.length → ¬ Tw l i 0) ∧ ∃ n c, Sm54 n ∧ szT n = l.length ∧ l.map z0 = rowsT n 0 0 ∧ Ev (fun k => flat_Tree.f k l) (n.f0, n.f1, n.f2, n.f3, n.f4, 0) ∧ Ev (fun k => vtree_Check.f k n.f0 n.f1 n.f2 n.f3 n.f4) c ∧ c.2 = 0)) := by
      have htl : (l.take m.toNat).length = m.toNat := by rw [List.length_take]; omega
      have hup : ∀ x, 0 < x → x ≤ m → upOf (l.take m.toNat) x = upOf l x := fun x h0 h1 => by
        unfold upOf rd_T32; rw [List.getD_eq_getElem?_getD, List.getD_eq_getElem?_getD, List.getElem?_take, if_pos (by omega)]
      have han : ∀ u x, An l u x → x ≤ m → An (l.take m.toNat) u x := fun u x h => by
        induction h with
        | self h => exact fun _ => .self h
        | @up x h0 _ ih =>
          intro hx; have := hg.up h0 (by omega); exact .up h0 (by rw [hup x h0 hx]; exact ih (by omega))
      have hg' : GoodTo (l.take m.toNat) (l.take m.toNat).length := by
        rw [htl]; intro i h0 h1
        rcases hg i h0 (by omega) with h | h
        (exact .inl ⟨h.1, by rw [hup _ (by omega) (by omega)]; exact h.2⟩); (exact .inr ⟨h.1, by rw [hup _ (by omega) (by omega)]; exact han _ _ h.2 (by omega)⟩)
      obtain ⟨n, q1, q2, q3, q4⟩ := built_all (l.take m.toNat) (by omega) (fun y hy => hs y (List.mem_of_mem_take hy)) hg' (by omega)
      have T : Tied l m n := ⟨m0, m1, hl, hg, q2, q3, by omega, low⟩
      obtain ⟨c, c1, c2, c3⟩ := T.check hdp
      by_cases c0 : c.2 = 0
      · have hm := (c3 c0).1
        have htk : l.take m.toNat = l := List.take_of_length_le (by omega)
        have hT := hJ (n.f0, n.f1, n.f2, n.f3, n.f4, 0) (by
          have : Ev (fun k => (flat_build.f k (l.take m.toNat) 0).bind fun bt188 => ((vtree_Check.f k bt188.1 bt188.2.1 bt188.2.2.1 bt188.2.2.2.1 bt188.2.2.2.2.1).bind fun bt199 => (if bt199.2 = 0 then (some (bt188.1, bt188.2.1, bt188.2.2.1, bt188.2.2.2.1, bt188.2.2.2.2.1, (0 : Int))) else (some ((⟨#[]⟩ : ByteArray), (⟨#[]⟩ : ByteArray), (⟨#[]⟩ : ByteArray), ([] : List (S39)), ([] : List (S54)), bt199.2))))) (n.f0, n.f1, n.f2, n.f3, n.f4, 0) := Ev.bind q1 (Ev.bind c1 ((Ev.pure _).eq (fun k => by rw [if_pos c0])))
          exact this.step (fun k => rfl))
        exact ⟨c.2, c2, by rw [c0]; exact chk _ hT, .inr ⟨c0, hg, (fun i hi htw => by
          have hil := itemsT_len n q3 1 0 (-1)
          have hlt : i < (itemsT n 1 0 (-1)).length := by omega
          obtain ⟨it, a1, _, _, _, a5⟩ := (c3 c0).2 i hlt
          exact a5 ((T.twice a1).2 htw)), n, c, q3, by omega, by rw [htk] at q2; exact q2, hT, c1, c0⟩⟩
      · have hT := hJ ((⟨#[]⟩ : ByteArray), (⟨#[]⟩ : ByteArray), (⟨#[]⟩ : ByteArray), ([] : List (S39)), ([] : List (S54)), c.2) (by
          have : Ev (fun k => (flat_build.f k (l.take m.toNat) 0).bind fun bt188 => ((vtree_Check.f k bt188.1 bt188.2.1 bt188.2.2.1 bt188.2.2.2.1 bt188.2.2.2.2.1).bind fun bt199 => (if bt199.2 = 0 then (some (bt188.1, bt188.2.1, bt188.2.2.1, bt188.2.2.2.1, bt188.2.2.2.2.1, (0 : Int))) else (some ((⟨#[]⟩ : ByteArray), (⟨#[]⟩ : ByteArray), (⟨#[]⟩ : ByteArray), ([] : List (S39)), ([] : List (S54)), bt199.2))))) ((⟨#[]⟩ : ByteArray), (⟨#[]⟩ : ByteArray), (⟨#[]⟩ : ByteArray), ([] : List (S39)), ([] : List (S54)), c.2) := Ev.bind q1 (Ev.bind c1 ((Ev.pure _).eq (fun k => by rw [if_neg c0])))
          exact this.step (fun k => rfl))
        exact ⟨c.2, c2, chk _ hT, .inl ⟨c0, hT⟩⟩
    cases d with
    | true =>
      obtain ⟨m, w0, w1', w2, w3, w4, w5⟩ := cut_ev l hl hg hp; refine main m w1' w2 (fun j e a b h => ?_) (fun hm => ?_) (fun x hx => ?_)
      · rcases Int.lt_or_eq_of_le b with b | rfl
        · have := w3 j e a b h; omega
        · exact w4 e h
      (obtain ⟨e, he, _⟩ := Dp.ex hg m.toNat m rfl (by omega) w2; refine ⟨e, he, ?_⟩; apply Int.not_le.1; intro hle; have := w5 (fun e' he' => by rw [← he.uniq he']; exact hle); omega); (exact hb.via0 (hd.via0 (w0.via0 hx (F := fun k => (flat_cut.f k l).bind fun t185 => (flat_Tree.j0 k t185)) (fun k hk => by rw [hk, Option.bind_some])) (F := fun k => (flat_deep.f k l).bind fun t184 => (if t184 = true then ((flat_cut.f k l).bind fun t185 => (flat_Tree.j0 k t185)) else (flat_Tree.j0 k l))) (fun k hk => by rw [hk, Option.bind_some, if_pos rfl])) (fun k hk => by rw [flat_Tree.f, if_neg (by omega), hk, Option.bind_some, if_pos rfl]))
    | false =>
      have hno : ¬ ((∃ j e : Int, 0 ≤ j ∧ j ≤ l.length ∧ Dp l j e ∧ e > 64) ∨ (l.length : Int) > 4096) := fun h => by have := hdi.2 h; cases this
      refine main l.length (by omega) (Int.le_refl _) (fun j e a b h => ?_) (fun hm => by omega) (fun x hx => ?_); (apply Int.not_lt.1; intro h65; exact hno (.inl ⟨j, e, a, b, h, by omega⟩)); (rw [show l.take ((l.length : Int)).toNat = l from List.take_of_length_le (by omega)] at hx; exact hb.via0 (hd.via0 hx (F := fun k => (flat_deep.f k l).bind fun t184 => (if t184 = true then ((flat_cut.f k l).bind fun t185 => (flat_Tree.j0 k t185)) else (flat_Tree.j0 k l))) (fun k hk => by rw [hk, Option.bind_some, if_neg (by decide)])) (fun k hk => by rw [flat_Tree.f, if_neg (by omega), hk, Option.bind_some, if_pos rfl]))
theorem chk_any (l : List S32) (hl : (l.length : Int) ≤ 4096) (hs : ∀ y ∈ l, Sm32 y) : ∃ e : Int, Ev (fun k => r13_Check.f k l) e ∧ Ev (fun k => flat_Check.f k l) e ∧ (e = 0 → GoodTo l l.length ∧ ∀ i : Nat, i < l.length → ¬ Tw l i 0) := by
  by_cases c0 : l.length = 0
  · have c0' : (l.length : Int) = 0 := by omega
    obtain ⟨b', hb', hbi'⟩ := Formed_ev l (by omega)
    have hg : GoodTo l l.length := fun i h0 h1 => by omega
    obtain rfl : b' = true := hbi'.2 hg
    refine ⟨0, ?_, (Ev.pure _).eq (fun k => by rw [flat_Check.f, if_pos c0']), fun _ => ⟨hg, fun i hi => by omega⟩⟩
    unfold r13_Check.f
    refine Ev.bind hb' ?_
    have : Ev (fun k => r13_Check.l0 k l l.length 0) 0 := (Ev.pure _).step (fun k => by rw [r13_Check.l0, if_neg (by omega)])
    exact this.eq (fun k => by rw [if_pos rfl])
  · obtain ⟨e, h1, h2, h | h⟩ := rows_any l hl hs (by omega)
    · exact ⟨e, h1, h2, fun h3 => absurd h3 h.1⟩
    · exact ⟨e, h1, h2, fun _ => ⟨h.2.1, h.2.2.1⟩⟩
theorem rdL_set (xs : List (List Int)) (i j : Int) (v : List Int) (h0 : 0 ≤ i) (h1 : i < xs.length) (hj : 0 ≤ j) : rd_L7 (xs.set i.toNat v) j = if j = i then v else rd_L7 xs j := by
  unfold rd_L7; simp only [List.getD_eq_getElem?_getD]
  by_cases c : j = i
  (subst c; rw [if_pos rfl, List.getElem?_set_self (by omega)]; rfl); (rw [if_neg c, List.getElem?_set_ne (by omega)])
theorem lists_l0 (l : List S32) (hl : (l.length : Int) ≤ 4096) (hg : GoodTo l l.length) (d : Nat) : ∀ (i : Int) (xs : List (List Int)), 0 ≤ i → (l.length : Int) - i = d → (xs.length : Int) = l.length + 1 → (∀ j : Int, 0 ≤ j → j ≤ l.length → ((rd_L7 xs j).length : Int) ≤ i) →
    ∃ out, Ev (fun k => flat_Lists.l0 k xs l l.length i) out ∧ (out.length : Int) = l.length + 1 ∧ ∀ j : Int, 0 ≤ j → j ≤ l.length → rd_L7 out j = rd_L7 xs j ++ kidsIdx (l.drop i.toNat) i j := by
  induction d with
  | zero =>
    intro i xs h0 hd hx hlen; refine ⟨xs, (Ev.pure _).step (fun k => by rw [flat_Lists.l0, if_neg (by omega)]), hx, fun j _ _ => ?_⟩; rw [List.drop_eq_nil_of_le (by omega), kidsIdx, List.append_nil]
  | succ d ih =>
    intro i xs h0 hd hx hlen
    have hi : i < l.length := by omega
    have hu := hg.up (x := i + 1) (by omega) (by omega); rw [upOf_rd] at hu; have hb := hlen _ hu.1 (by omega)
    obtain ⟨out, h1, h2, h3⟩ := ih (i + 1) (xs.set ((rd_T32 l i).f1).toNat ((rd_L7 xs (rd_T32 l i).f1) ++ [i + 1])) (by omega) (by omega) (by rw [List.length_set]; exact hx) (fun j j0 j1 => by
      rw [rdL_set xs _ j _ hu.1 (by omega) j0]; split; (rw [List.length_append, List.length_singleton]; omega)
      · have := hlen j j0 j1; omega)
    refine ⟨out, h1.step (fun k => ?_), h2, fun j j0 j1 => ?_⟩; (rw [flat_Lists.l0, if_pos hi, if_pos h0, if_pos hi, if_pos hu.1, if_pos (by omega), if_pos (by omega), w1 (by omega) (by omega)])
    · rw [h3 j j0 j1, rdL_set xs _ j _ hu.1 (by omega) j0, drp32 l i h0 hi, kidsIdx]
      by_cases c : (rd_T32 l i).f1 = j
      · rw [if_pos c, if_pos c.symm, c]; simp
      · rw [if_neg c, if_neg (fun e => c e.symm)]
theorem lists_ev (l : List S32) (hl : (l.length : Int) ≤ 4096) (hg : GoodTo l l.length) (hc : Ev (fun k => flat_Check.f k l) 0) : ∃ out, Ev (fun k => flat_Lists.f k l) out ∧ (out.length : Int) = l.length + 1 ∧ ∀ j : Int, 0 ≤ j → j ≤ l.length → rd_L7 out j = kidsIdx l 0 j := by
  have hrep : ∀ j : Int, rd_L7 (List.replicate (l.length + 1) []) j = [] := fun j => by
    unfold rd_L7; rw [List.getD_eq_getElem?_getD, List.getElem?_replicate]; split <;> rfl
  obtain ⟨out, h1, h2, h3⟩ := lists_l0 l hl hg l.length 0 (List.replicate (l.length + 1) []) (by omega) (by omega) (by rw [List.length_replicate]; omega) (fun j _ _ => by rw [hrep]; simp); refine ⟨out, ?_, h2, fun j j0 j1 => ?_⟩; (unfold flat_Lists.f; refine Ev.bind hc ?_; refine h1.eq (fun k => ?_); rw [if_pos rfl, w1 (by omega) (by omega), if_pos (by omega), if_pos (by omega), show ((l.length : Int) + 1).toNat = l.length + 1 by omega]); (rw [h3 j j0 j1, hrep]; simp)
set_option linter.unusedSimpArgs false
theorem wn {q : Nat} (h : q ≤ 1000000000) : wrap64 ((q : Int) + 1) = ((q + 1 : Nat) : Int) := by rw [w1 (by omega) (by omega)]; rfl
theorem kids_take (l : List S32) (p : Nat) (hp : p < l.length) (h : Int) : kidsIdx (l.take (p + 1)) 0 h = kidsIdx (l.take p) 0 h ++ (if (rd_T32 l p).f1 = h then [((p + 1 : Nat) : Int)] else []) := by
  have e : l.take (p + 1) = l.take p ++ [rd_T32 l p] := by
    rw [List.take_succ_eq_append_getElem hp]; unfold rd_T32; rw [Int.toNat_natCast, List.getD_eq_getElem?_getD, List.getElem?_eq_getElem hp]; rfl
  rw [e, kidsIdx_app, List.length_take, Nat.min_eq_left (by omega)]
  congr 1
  rw [kidsIdx]; simp only [kidsIdx]; split <;> simp
theorem kids_split (l : List S32) (p : Nat) (hp : p ≤ l.length) (h : Int) : ∃ r, kidsIdx l 0 h = kidsIdx (l.take p) 0 h ++ r := by
  refine ⟨kidsIdx (l.drop p) (0 + (l.take p).length) h, ?_⟩; rw [← kidsIdx_app, List.take_append_drop]
/-- Where a row stands among its siblings. -/
def jOf (l : List S32) (h : Int) (p : Nat) : Nat := (kidsIdx (l.take p) 0 h).length
theorem kids_at (l : List S32) (h : Int) (p : Nat) (hp : p < l.length) (hf : (rd_T32 l p).f1 = h) : (kidsIdx l 0 h)[jOf l h p]? = some ((p + 1 : Nat) : Int) := by
  obtain ⟨r, e⟩ := kids_split l (p + 1) (by omega) h; rw [e, kids_take l p hp h, if_pos hf, List.append_assoc]; unfold jOf; rw [List.getElem?_append_right (Nat.le_refl _)]; simp
theorem kids_pos (l : List S32) (h : Int) : ∀ (p : Nat), p ≤ l.length → ∀ (j : Nat) (v : Int), (kidsIdx (l.take p) 0 h)[j]? = some v → ∃ q : Nat, q < p ∧ v = ((q + 1 : Nat) : Int) ∧ (rd_T32 l q).f1 = h ∧ jOf l h q = j
  | 0, _, j, v, e => by simp [kidsIdx] at e
  | p + 1, hp, j, v, e => by
    rw [kids_take l p (by omega) h] at e
    by_cases c : j < (kidsIdx (l.take p) 0 h).length
    · rw [List.getElem?_append_left c] at e
      obtain ⟨q, a, b⟩ := kids_pos l h p (by omega) j v e
      exact ⟨q, by omega, b⟩
    · rw [List.getElem?_append_right (by omega)] at e
      split at e
      · next hf =>
        have hj : j - (kidsIdx (l.take p) 0 h).length = 0 := by
          have := (List.getElem?_eq_some_iff.1 e).1
          simp at this
          omega
        rw [hj] at e
        simp at e
        exact ⟨p, by omega, by rw [← e]; rfl, hf, by unfold jOf; omega⟩
      · simp at e
theorem kids_get (l : List S32) (h : Int) (j : Nat) (hj : j < (kidsIdx l 0 h).length) : ∃ q : Nat, q < l.length ∧ rd (kidsIdx l 0 h) j = ((q + 1 : Nat) : Int) ∧ (rd_T32 l q).f1 = h ∧ jOf l h q = j := by
  have e := List.getElem?_eq_getElem hj
  have e2 : (kidsIdx (l.take l.length) 0 h)[j]? = some ((kidsIdx l 0 h)[j]) := by rw [List.take_length]; exact e
  obtain ⟨q, a, b, c, d⟩ := kids_pos l h l.length (Nat.le_refl _) j _ e2; refine ⟨q, a, ?_, c, d⟩; rw [← b]; unfold rd; rw [Int.toNat_natCast, List.getD_eq_getElem?_getD, e]; rfl
theorem jOf_lt (l : List S32) (h : Int) (p : Nat) (hp : p < l.length) (hf : (rd_T32 l p).f1 = h) : jOf l h p < (kidsIdx l 0 h).length := (List.getElem?_eq_some_iff.1 (kids_at l h p hp hf)).1
def nodeAt (l : List S32) (h : Int) : S54 := ⟨(rd_T32 l (h - 1)).f2, (rd_T32 l (h - 1)).f3, (⟨#[]⟩ : ByteArray), [], []⟩
theorem cntE_append (a b : List S54) (t : ByteArray) : ∀ i, i ≤ a.length → cntE (a ++ b) t i = cntE a t i
  | 0, _ => rfl
  | i + 1, h => by
    have e : at54 (a ++ b) i = at54 a i := by
      unfold at54
      rw [List.getD_eq_getElem?_getD, List.getD_eq_getElem?_getD, List.getElem?_append_left (by omega)]
    unfold cntE
    rw [e, cntE_append a b t i (by omega)]
theorem cntE_kids (l : List S32) (h : Int) (t : ByteArray) : ∀ p, p ≤ l.length → cntE ((kidsIdx (l.take p) 0 h).map (nodeAt l)) t (jOf l h p) = cntR l h t.toList p
  | 0, _ => rfl
  | p + 1, hp => by
    have ih := cntE_kids l h t p (by omega)
    unfold jOf at ih ⊢
    rw [kids_take l p (by omega) h]
    by_cases c : (rd_T32 l p).f1 = h
    · rw [if_pos c, List.length_append, List.length_singleton, List.map_append]
      have e : at54 ((kidsIdx (l.take p) 0 h).map (nodeAt l) ++ [((p + 1 : Nat) : Int)].map (nodeAt l)) (kidsIdx (l.take p) 0 h).length = nodeAt l ((p + 1 : Nat) : Int) := by
        unfold at54
        rw [List.getD_eq_getElem?_getD, List.getElem?_append_right (by simp)]
        simp
      have en : nodeAt l ((p + 1 : Nat) : Int) = ⟨(rd_T32 l p).f2, (rd_T32 l p).f3, (⟨#[]⟩ : ByteArray), [], []⟩ := by
        unfold nodeAt; rw [show ((p + 1 : Nat) : Int) - 1 = (p : Int) by omega]
      rw [cntE, cntR, e, en, cntE_append _ _ _ _ (by simp), ih]
      by_cases q : (rd_T32 l p).f3.toList = [] ∧ (rd_T32 l p).f2.toList = t.toList
      · rw [if_pos q, if_pos ⟨c, q⟩]
      · rw [if_neg q, if_neg (fun e => q e.2)]
    · rw [if_neg c, List.append_nil, ih, cntR, if_neg (fun e => c e.1)]
theorem labAt_kids (l : List S32) (h : Int) (p : Nat) (hp : p < l.length) (hf : (rd_T32 l p).f1 = h) : labAt ((kidsIdx l 0 h).map (nodeAt l)) (jOf l h p) = labR l p := by
  have e : at54 ((kidsIdx l 0 h).map (nodeAt l)) (jOf l h p) = nodeAt l ((p + 1 : Nat) : Int) := by
    unfold at54; rw [List.getD_eq_getElem?_getD, List.getElem?_map, kids_at l h p hp hf]; rfl
  have en : nodeAt l ((p + 1 : Nat) : Int) = ⟨(rd_T32 l p).f2, (rd_T32 l p).f3, (⟨#[]⟩ : ByteArray), [], []⟩ := by
    unfold nodeAt; rw [show ((p + 1 : Nat) : Int) - 1 = (p : Int) by omega]
  unfold labAt labR; rw [e, en, hf]; simp only
  congr 1
  split
  · obtain ⟨r, es⟩ := kids_split l (p + 1) (by omega) h
    have hj : jOf l h (p + 1) = jOf l h p + 1 := by
      unfold jOf; rw [kids_take l p hp h, if_pos hf, List.length_append]; rfl
    have := cntE_kids l h (rd_T32 l p).f2 (p + 1) (by omega)
    rw [hj] at this
    rw [es, List.map_append, cntE_append _ _ _ _ (by rw [List.length_map, ← hj]; exact Nat.le_refl _), this]
  · rfl
theorem labT_at (ns : List S54) : ∀ (m j : Nat), j < m → rd_T37 (labT ns m) j = labAt ns j
  | 0, _, h => by omega
  | m + 1, j, h => by
    unfold rd_T37 labT
    rw [Int.toNat_natCast, List.getD_eq_getElem?_getD]
    by_cases c : j < m
    · rw [List.getElem?_append_left (by rw [labT_len]; exact c)]
      have := labT_at ns m j c
      unfold rd_T37 at this
      rw [Int.toNat_natCast, List.getD_eq_getElem?_getD] at this
      exact this
    · obtain rfl : j = m := by omega
      rw [List.getElem?_append_right (by rw [labT_len]; exact Nat.le_refl _), labT_len]
      simp
theorem up_of {l : List S32} (hg : GoodTo l l.length) (p : Nat) (hp : p < l.length) : 0 ≤ (rd_T32 l p).f1 ∧ (rd_T32 l p).f1 ≤ p := by
  have := hg.up (x := (p : Int) + 1) (by omega) (by omega); rw [upOf_rd] at this; exact ⟨this.1, by omega⟩
/-- What stands in the labels behind so many handles, and so many kids of the next one. -/
def PL (l : List S32) (out : List S37) (h : Int) (j : Nat) : Prop := out.length = l.length ∧ ∀ p : Nat, p < l.length → ((rd_T32 l p).f1 < h ∨ ((rd_T32 l p).f1 = h ∧ jOf l h p < j)) → rd_T37 out p = labR l p
theorem PL.next {l : List S32} {out : List S37} {h : Nat} (a : PL l out h (kidsIdx l 0 h).length) : PL l out ((h + 1 : Nat) : Int) 0 := by
  refine ⟨a.1, fun p hp hor => a.2 p hp ?_⟩
  rcases hor with q | q
  · by_cases e : (rd_T32 l p).f1 = h
    · exact .inr ⟨e, jOf_lt l h p hp e⟩
    · exact .inl (by omega)
  · omega
theorem rd37_set (xs : List S37) (i j : Nat) (v : S37) (h : i < xs.length) : rd_T37 (xs.set i v) j = if j = i then v else rd_T37 xs j := by
  unfold rd_T37; rw [Int.toNat_natCast, List.getD_eq_getElem?_getD, List.getD_eq_getElem?_getD, List.getElem?_set]
  by_cases e : i = j
  (subst e; rw [if_pos rfl, if_pos h, if_pos rfl]; rfl); (rw [if_neg e, if_neg (fun q => e q.symm)])
theorem PL.put {l : List S32} {out : List S37} {h : Int} {j : Nat} (a : PL l out h j) (q : Nat) (hq : q < l.length) (hf : (rd_T32 l q).f1 = h) (hj : jOf l h q = j) : PL l (out.set q (labR l q)) h (j + 1) := by
  refine ⟨by rw [List.length_set]; exact a.1, fun p hp hor => ?_⟩; rw [rd37_set _ _ _ _ (by rw [a.1]; exact hq)]
  by_cases e : p = q
  · subst e; rw [if_pos rfl]
  · rw [if_neg e]
    refine a.2 p hp ?_
    rcases hor with c | ⟨c, d⟩
    · exact .inl c
    · refine .inr ⟨c, ?_⟩
      by_cases e2 : jOf l h p = j
      · exfalso
        have h1 := kids_at l h p hp c
        have h2 := kids_at l h q hq hf
        rw [e2] at h1
        rw [hj, h1] at h2
        have := Option.some.inj h2
        omega
      · omega
theorem PL.all {l : List S32} (hg : GoodTo l l.length) {out : List S37} (a : PL l out ((l.length + 1 : Nat) : Int) 0) : out = labsR l l.length := by
  refine List.ext_getElem (by rw [a.1, labsR_len]) (fun p h1 h2 => ?_)
  have hp : p < l.length := by rw [← a.1]; exact h1
  have := a.2 p hp (.inl (by have := up_of hg p hp; omega)); have e2 := labsR_at l l.length p hp; rw [← e2] at this; unfold rd_T37 at this; rw [Int.toNat_natCast, List.getD_eq_getElem?_getD, List.getD_eq_getElem?_getD, List.getElem?_eq_getElem h1, List.getElem?_eq_getElem h2] at this; exact this
structure KL (l : List S32) (kids : List (List Int)) : Prop where
  n : kids.length = l.length + 1
  at_ : ∀ j : Int, 0 ≤ j → j ≤ l.length → rd_L7 kids j = kidsIdx l 0 j
  hl : l.length ≤ 4096
  sm : ∀ y ∈ l, Sm32 y
  good : GoodTo l l.length
theorem labels_l2 {l : List S32} {kids : List (List Int)} (K : KL l kids) (h : Nat) (hh : h ≤ l.length) (labs : List S37) (hlabs : labs = labT ((kidsIdx l 0 h).map (nodeAt l)) (kidsIdx l 0 h).length) (r : List S37)
    (hr : ∀ out, PL l out ((h + 1 : Nat) : Int) 0 → Ev (fun k => match_labels.l0 k l out kids kids.length ((h + 1 : Nat) : Int)) r) (d : Nat) :
    ∀ (j : Nat) (out : List S37), (kidsIdx l 0 h).length - j = d → j ≤ (kidsIdx l 0 h).length → PL l out h j → Ev (fun k => match_labels.l2 k l out (kidsIdx l 0 h) kids kids.length h labs labs.length (j : Int)) r := by
  have hll : labs.length = (kidsIdx l 0 h).length := by rw [hlabs, labT_len]
  have hkl := kidsIdx_len l 0 h; have hle := K.hl
  induction d with
  | zero =>
    intro j out hd hj hP
    obtain rfl : j = (kidsIdx l 0 h).length := by omega
    refine (hr out hP.next).step (fun k => ?_); rw [match_labels.l2, if_neg (by omega), wn (by omega)]
  | succ d ih =>
    intro j out hd hj hP
    have hj2 : j < (kidsIdx l 0 h).length := by omega
    obtain ⟨q, q1, q2, q3, q4⟩ := kids_get l h j hj2
    have hlab : rd_T37 labs j = labR l q := by rw [hlabs, labT_at _ _ _ hj2, ← q4]; exact labAt_kids l h q q1 q3
    refine (ih (j + 1) (out.set q (labR l q)) (by omega) (by omega) (hP.put q q1 q3 q4)).step (fun k => ?_)
    have hw : wrap64 (((q + 1 : Nat) : Int) - 1) = q := by rw [wm (by omega) (by omega)]; omega
    have ho := hP.1; rw [match_labels.l2, if_pos (by omega), if_pos (by omega), if_pos (by omega), if_pos (by omega), q2, hw, if_pos (by omega), if_pos (by omega), hlab, Int.toNat_natCast, wn (by omega)]
theorem labels_l1 {l : List S32} {kids : List (List Int)} (K : KL l kids) (h : Nat) (hh : h ≤ l.length) (out r : List S37)
    (hr : Ev (fun k => match_labels.l2 k l out (kidsIdx l 0 h) kids kids.length h (labT ((kidsIdx l 0 h).map (nodeAt l)) (kidsIdx l 0 h).length) (labT ((kidsIdx l 0 h).map (nodeAt l)) (kidsIdx l 0 h).length).length ((0 : Nat) : Int)) r) (d : Nat) :
    ∀ (j : Nat), (kidsIdx l 0 h).length - j = d → j ≤ (kidsIdx l 0 h).length → Ev (fun k => match_labels.l1 k l out (kidsIdx l 0 h) (((kidsIdx l 0 h).take j).map (nodeAt l)) kids kids.length h (kidsIdx l 0 h) (kidsIdx l 0 h).length (j : Int)) r := by
  have hkl := kidsIdx_len l 0 h; have hle := K.hl
  induction d with
  | zero =>
    intro j hd hj
    obtain rfl : j = (kidsIdx l 0 h).length := by omega
    rw [List.take_length]
    have hlen : ((kidsIdx l 0 h).map (nodeAt l)).length = (kidsIdx l 0 h).length := by simp
    have hOf : label_Of.f ((kidsIdx l 0 h).map (nodeAt l)) = some (labT ((kidsIdx l 0 h).map (nodeAt l)) (kidsIdx l 0 h).length) := by
      have hall : (((kidsIdx l 0 h).map (nodeAt l)).all fun x => decide (x.f0.size ≤ maxLen)) = true := by
        rw [List.all_eq_true]; intro x hx; obtain ⟨v, hv, rfl⟩ := List.mem_map.1 hx; obtain ⟨j, hj, rfl⟩ := List.mem_iff_getElem.1 hv; obtain ⟨q, q1, q2, _⟩ := kids_get l h j hj; have hs := K.sm (rd_T32 l q) (rd32_mem l q (by omega) (by omega))
        have e : (kidsIdx l 0 h)[j] = ((q + 1 : Nat) : Int) := by
          rw [← q2]; unfold rd; rw [Int.toNat_natCast, List.getD_eq_getElem?_getD, List.getElem?_eq_getElem hj]; rfl
        rw [e]; unfold nodeAt; rw [show ((q + 1 : Nat) : Int) - 1 = (q : Int) by omega]; exact decide_eq_true (by have := hs.h2; unfold maxLen; show (rd_T32 l q).f2.size ≤ _; omega)
      unfold label_Of.f; rw [if_pos ⟨by rw [hlen]; omega, hall⟩, hlen]
    refine hr.step (fun k => ?_); rw [match_labels.l1, if_neg (by omega), hOf, Option.bind_some]; rfl
  | succ d ih =>
    intro j hd hj
    have hj2 : j < (kidsIdx l 0 h).length := by omega
    obtain ⟨q, q1, q2, q3, q4⟩ := kids_get l h j hj2
    have hw : wrap64 (((q + 1 : Nat) : Int) - 1) = q := by rw [wm (by omega) (by omega)]; omega
    have hn : nodeAt l ((kidsIdx l 0 h)[j]) = ⟨(rd_T32 l q).f2, (rd_T32 l q).f3, (⟨#[]⟩ : ByteArray), [], []⟩ := by
      have e : (kidsIdx l 0 h)[j] = ((q + 1 : Nat) : Int) := by
        rw [← q2]; unfold rd; rw [Int.toNat_natCast, List.getD_eq_getElem?_getD, List.getElem?_eq_getElem hj2]; rfl
      rw [e]; unfold nodeAt; rw [show ((q + 1 : Nat) : Int) - 1 = (q : Int) by omega]
    have h2 := ih (j + 1) (by omega) (by omega); rw [List.take_succ_eq_append_getElem hj2, List.map_append, List.map_cons, List.map_nil, hn] at h2; refine h2.step (fun k => ?_); rw [match_labels.l1, if_pos (by omega), if_pos (by omega), if_pos (by omega), q2, hw, if_pos (by omega), if_pos (by omega), if_pos (by simp; omega), wn (by omega)]
theorem labels_l0 {l : List S32} {kids : List (List Int)} (K : KL l kids) (d : Nat) : ∀ (h : Nat) (out : List S37), l.length + 1 - h = d → h ≤ l.length + 1 → PL l out h 0 → Ev (fun k => match_labels.l0 k l out kids kids.length (h : Int)) (labsR l l.length) := by
  have hn := K.n; have hle := K.hl
  induction d with
  | zero =>
    intro h out hd hh hP
    obtain rfl : h = l.length + 1 := by omega
    refine (Ev.pure _).step (fun k => ?_); rw [match_labels.l0, if_neg (by omega), hP.all K.good]
  | succ d ih =>
    intro h out hd hh hP; have hkl := kidsIdx_len l 0 h; have := labels_l2 K h (by omega) _ rfl _ (fun out' hP' => ih (h + 1) out' (by omega) (by omega) hP') _ 0 out rfl (by omega) hP; have := labels_l1 K h (by omega) out _ this _ 0 rfl (by omega); refine this.step (fun k => ?_); rw [match_labels.l0, if_pos (by omega), if_pos (by omega), if_pos (by omega), K.at_ h (by omega) (by omega), if_pos (by omega), if_pos (by rw [Int.toNat_natCast]; omega)]; rfl
theorem labels_ev {l : List S32} {kids : List (List Int)} (K : KL l kids) : Ev (fun k => match_labels.f k l kids) (labsR l l.length) := by
  have hle := K.hl; have := labels_l0 K _ 0 (List.replicate l.length z37) rfl (by omega) ⟨by simp, fun p hp hor => by have := up_of K.good p hp; omega⟩; refine this.eq (fun k => ?_); rw [match_labels.f, if_pos (by omega), if_pos (by rw [Int.toNat_natCast]; omega), Int.toNat_natCast]; rfl
/-- Of right rows: the kids' lists and the labels. -/
theorem right_kids {l : List S32} (hl : l.length ≤ 4096) (hs : ∀ y ∈ l, Sm32 y) (hg : GoodTo l l.length) (hc : Ev (fun k => flat_Check.f k l) 0) : ∃ kids, Ev (fun k => flat_Lists.f k l) kids ∧ KL l kids := by
  obtain ⟨kids, a, b, c⟩ := lists_ev l (by omega) hg hc; exact ⟨kids, a, by omega, c, hl, hs, hg⟩
theorem cntR_mono (l : List S32) (u : Int) (t : List UInt8) : ∀ (q p : Nat), p ≤ q → cntR l u t p ≤ cntR l u t q
  | 0, p, h => by obtain rfl : p = 0 := by omega
                  exact Nat.le_refl _
  | q + 1, p, h => by
    by_cases e : p = q + 1
    · subst e; exact Nat.le_refl _
    · have := cntR_mono l u t q p (by omega)
      rw [show cntR l u t (q + 1) = if (rd_T32 l q).f1 = u ∧ (rd_T32 l q).f3.toList = [] ∧ (rd_T32 l q).f2.toList = t then cntR l u t q + 1 else cntR l u t q from rfl]
      split <;> omega
/-- Right rows. -/
structure Rt (l : List S32) : Prop where
  hl : l.length ≤ 4096
  sm : ∀ y ∈ l, Sm32 y
  good : GoodTo l l.length
  tw : ∀ i : Nat, i < l.length → ¬ Tw l i 0
theorem Rt.inj1 {l : List S32} (R : Rt l) (p q : Nat) (hpq : p < q) (hq : q < l.length) (hu : (rd_T32 l p).f1 = (rd_T32 l q).f1) : labR l p ≠ labR l q := by
  intro e; unfold labR at e; injection e with e0 e1 e2
  by_cases hk : (rd_T32 l q).f3.toList = []
  · rw [e1, if_pos hk, if_pos hk, hu, e0] at e2
    have h1 := cntR_mono l (rd_T32 l q).f1 (rd_T32 l q).f2.toList q (p + 1) (by omega)
    have h2 : cntR l (rd_T32 l q).f1 (rd_T32 l q).f2.toList (q + 1) = cntR l (rd_T32 l q).f1 (rd_T32 l q).f2.toList q + 1 := by rw [cntR, if_pos ⟨rfl, hk, rfl⟩]
    omega
  · exact R.tw q hq ⟨p, by omega, by omega, hu, hk, by rw [e1]⟩
theorem Rt.inj {l : List S32} (R : Rt l) (p q : Nat) (hp : p < l.length) (hq : q < l.length) (hu : (rd_T32 l p).f1 = (rd_T32 l q).f1) (e : labR l p = labR l q) : p = q := by
  rcases Nat.lt_trichotomy p q with h | h | h
  (exact absurd e (R.inj1 p q h hq hu)); (exact h); (exact absurd e.symm (R.inj1 q p h hp hu.symm))
/-- The handle that the one above row i is matched with. -/
def upM (b : List S32) (R : List Int) (i : Nat) : Int := if 0 < (rd_T32 b i).f1 then rd R ((rd_T32 b i).f1 - 1) else 0
/-- Row i of b may be matched with row k of a. -/
def Mt (a b : List S32) (R : List Int) (i k : Nat) : Prop := (rd_T32 a k).f1 = upM b R i ∧ labR a k = labR b i ∧ ((rd_T32 b i).f1 = 0 ∨ 0 < upM b R i)
/-- What row i is matched with. -/
def ValAt (a b : List S32) (R : List Int) (i : Nat) (v : Int) : Prop := (v = 0 ∧ ∀ k : Nat, k < a.length → ¬ Mt a b R i k) ∨ ∃ k : Nat, k < a.length ∧ Mt a b R i k ∧ v = ((k + 1 : Nat) : Int)
/-- The pairs, as_ the reference tells them. -/
structure RS (a b : List S32) (R : List Int) : Prop where
  len : R.length = b.length
  at_ : ∀ i : Nat, i < b.length → ValAt a b R i (rd R i)
theorem ValAt.rng {a b : List S32} {R : List Int} {i : Nat} {v : Int} (h : ValAt a b R i v) : 0 ≤ v ∧ v ≤ a.length := by
  rcases h with ⟨rfl, _⟩ | ⟨k, h1, _, rfl⟩ <;> omega
theorem ValAt.uniq {a b : List S32} (Ra : Rt a) {R : List Int} {i : Nat} {v v' : Int} (h : ValAt a b R i v) (h' : ValAt a b R i v') : v = v' := by
  rcases h with ⟨rfl, h1⟩ | ⟨k, k1, k2, rfl⟩
  · rcases h' with ⟨rfl, _⟩ | ⟨k, k1, k2, rfl⟩
    · rfl
    · exact absurd k2 (h1 k k1)
  · rcases h' with ⟨rfl, h1⟩ | ⟨j, j1, j2, rfl⟩
    · exact absurd k2 (h1 k k1)
    · obtain rfl := Ra.inj k j k1 j1 (k2.1.trans j2.1.symm) (k2.2.1.trans j2.2.1.symm)
      rfl
theorem rd_app (R S : List Int) (i : Nat) (h : i < R.length) : rd (R ++ S) i = rd R i := by
  unfold rd; rw [Int.toNat_natCast, List.getD_eq_getElem?_getD, List.getD_eq_getElem?_getD, List.getElem?_append_left h]
theorem rd_app2 (R S : List Int) (i : Int) (h0 : 0 ≤ i) (h : i < R.length) : rd (R ++ S) i = rd R i := by
  have := rd_app R S i.toNat (by omega); rwa [show ((i.toNat : Nat) : Int) = i by omega] at this
theorem upM_app {b : List S32} (hg : GoodTo b b.length) (R S : List Int) (i : Nat) (hi : i < b.length) (h : i ≤ R.length) : upM b (R ++ S) i = upM b R i := by
  have := up_of hg i hi; unfold upM; split; (rw [rd_app2 R S _ (by omega) (by omega)]); (rfl)
theorem Mt_app {a b : List S32} (hg : GoodTo b b.length) (R S : List Int) (i k : Nat) (hi : i < b.length) (h : i ≤ R.length) : Mt a b (R ++ S) i k ↔ Mt a b R i k := by
  unfold Mt; rw [upM_app hg R S i hi h]
theorem ValAt_app {a b : List S32} (hg : GoodTo b b.length) (R S : List Int) (i : Nat) (v : Int) (hi : i < b.length) (h : i ≤ R.length) : ValAt a b (R ++ S) i v ↔ ValAt a b R i v := by
  unfold ValAt; simp only [Mt_app hg R S i _ hi h]
theorem rdI_set (xs : List Int) (i j : Nat) (v : Int) (h : i < xs.length) : rd (xs.set i v) j = if j = i then v else rd xs j := by
  unfold rd; rw [Int.toNat_natCast, List.getD_eq_getElem?_getD, List.getD_eq_getElem?_getD, List.getElem?_set]
  by_cases e : i = j
  (subst e; rw [if_pos rfl, if_pos h, if_pos rfl]; rfl); (rw [if_neg e, if_neg (fun q => e q.symm)])
open Classical in
theorem RS.exists_ (a b : List S32) (hg : GoodTo b b.length) : ∃ R, RS a b R := by
  have : ∀ n, n ≤ b.length → ∃ R : List Int, R.length = n ∧ ∀ i : Nat, i < n → ValAt a b R i (rd R i) := by
    intro n
    induction n with
    | zero => exact fun _ => ⟨[], rfl, fun i hi => by omega⟩
    | succ n ih =>
      intro hn; obtain ⟨R, h1, h2⟩ := ih (by omega)
      obtain ⟨v, hv⟩ : ∃ v, ValAt a b R n v := by
        by_cases h : ∃ k : Nat, k < a.length ∧ Mt a b R n k
        (obtain ⟨k, k1, k2⟩ := h; exact ⟨_, .inr ⟨k, k1, k2, rfl⟩⟩); (exact ⟨0, .inl ⟨rfl, fun k hk hm => h ⟨k, hk, hm⟩⟩⟩)
      refine ⟨R ++ [v], by simp [h1], fun i hi => ?_⟩; rw [ValAt_app hg R [v] i _ (by omega) (by omega)]
      by_cases e : i = n
      · subst e
        have : rd (R ++ [v]) i = v := by
          unfold rd; rw [Int.toNat_natCast, List.getD_eq_getElem?_getD, List.getElem?_append_right (by omega), h1]; simp
        rw [this]
        exact hv
      · rw [rd_app R [v] i (by omega)]
        exact h2 i (by omega)
  obtain ⟨R, h1, h2⟩ := this b.length (Nat.le_refl _); exact ⟨R, h1, h2⟩
/-- What stands at row p's handle when so many handles have been gone through (t: so many have been looked at). -/
def ex (b : List S32) (R : List Int) (h t p : Nat) : Int := if (rd_T32 b p).f1 < h then (if 0 < rd R p then rd R p else if p + 1 < t then -1 else 0) else 0
theorem ex_no {b : List S32} {R : List Int} {h t p : Nat} (c : ¬ (rd_T32 b p).f1 < h) : ex b R h t p = 0 := by unfold ex; rw [if_neg c]
theorem ex_yes {b : List S32} {R : List Int} {h t p : Nat} (c : (rd_T32 b p).f1 < h) (d : 0 < rd R p) : ex b R h t p = rd R p := by unfold ex; rw [if_pos c, if_pos d]
theorem ex_gone {b : List S32} {R : List Int} {h t p : Nat} (c : (rd_T32 b p).f1 < h) (d : ¬ 0 < rd R p) (e : p + 1 < t) : ex b R h t p = -1 := by unfold ex; rw [if_pos c, if_neg d, if_pos e]
theorem ex_wait {b : List S32} {R : List Int} {h t p : Nat} (c : (rd_T32 b p).f1 < h) (d : ¬ 0 < rd R p) (e : ¬ p + 1 < t) : ex b R h t p = 0 := by unfold ex; rw [if_pos c, if_neg d, if_neg e]
theorem ex_congr {b : List S32} {R : List Int} {h h' t t' p : Nat} (c : (rd_T32 b p).f1 < h ↔ (rd_T32 b p).f1 < h') (e : p + 1 < t ↔ p + 1 < t') : ex b R h t p = ex b R h' t' p := by unfold ex; simp only [c, e]
structure PS (b : List S32) (R : List Int) (h t : Nat) (out : List Int) : Prop where
  len : out.length = b.length + 1
  z : rd out 0 = 0
  at_ : ∀ p : Nat, p < b.length → rd out ((p + 1 : Nat) : Int) = ex b R h t p
theorem PS.mark {b : List S32} (hg : GoodTo b b.length) {R : List Int} {h : Nat} {out : List Int} (P : PS b R h h out) (hh : h ≤ b.length) : PS b R h (h + 1) (markH out h) := by
  have hl := P.len; refine ⟨by rw [markH_len]; exact P.len, ?_, fun p hp => ?_⟩
  · unfold markH
    split
    · next c =>
      have := rdI_set out h 0 (-1) (by omega); rw [if_neg (by omega)] at this; rw [show ((0 : Nat) : Int) = 0 from rfl] at this; rw [this]; exact P.z
    · exact P.z
  · have e := P.at_ p hp
    have hu := up_of hg p hp
    by_cases c : p + 1 = h
    · subst c
      have hlt : (rd_T32 b p).f1 < ((p + 1 : Nat) : Int) := by omega
      by_cases q : 0 < rd R p
      · rw [ex_yes hlt q] at e ⊢
        unfold markH
        rw [if_neg (fun g => by omega)]
        exact e
      · rw [ex_wait hlt q (by omega)] at e
        rw [ex_gone hlt q (by omega)]
        unfold markH
        rw [if_pos ⟨by omega, e⟩, rdI_set _ _ _ _ (by omega), if_pos rfl]
    · have e2 : rd (markH out h) ((p + 1 : Nat) : Int) = rd out ((p + 1 : Nat) : Int) := by
        unfold markH
        split
        · rw [rdI_set _ _ _ _ (by omega), if_neg c]
        · rfl
      rw [e2, e]
      exact ex_congr Iff.rfl (by omega)
/-- Where no row right below the handle is matched, nothing is to be done. -/
theorem PS.idle {b : List S32} (hg : GoodTo b b.length) {R : List Int} {h : Nat} {out : List Int} (P : PS b R h (h + 1) out) (hno : ∀ p : Nat, p < b.length → (rd_T32 b p).f1 = h → rd R p = 0) : PS b R (h + 1) (h + 1) out := by
  refine ⟨P.len, P.z, fun p hp => ?_⟩; rw [P.at_ p hp]; have hu := up_of hg p hp
  by_cases q : (rd_T32 b p).f1 = h
  (rw [ex_no (by omega), ex_wait (by omega) (by rw [hno p hp q]; omega) (by omega)]); (exact ex_congr (by omega) Iff.rfl)
/-- So many of the rows right below a handle are matched. -/
structure PJ (b : List S32) (R : List Int) (h j : Nat) (out : List Int) : Prop where
  len : out.length = b.length + 1
  z : rd out 0 = 0
  at_ : ∀ p : Nat, p < b.length → rd out ((p + 1 : Nat) : Int) = if (rd_T32 b p).f1 = h then (if jOf b h p < j then rd R p else 0) else ex b R h (h + 1) p
theorem PS.toJ {b : List S32} {R : List Int} {h : Nat} {out : List Int} (P : PS b R h (h + 1) out) : PJ b R h 0 out := by
  refine ⟨P.len, P.z, fun p hp => ?_⟩; rw [P.at_ p hp]
  by_cases q : (rd_T32 b p).f1 = h
  (rw [if_pos q, if_neg (Nat.not_lt_zero _), ex_no (by omega)]); (rw [if_neg q])
theorem PJ.toS {a b : List S32} (hg : GoodTo b b.length) {R : List Int} (hR : RS a b R) {h : Nat} {out : List Int} (P : PJ b R h (kidsIdx b 0 h).length out) : PS b R (h + 1) (h + 1) out := by
  refine ⟨P.len, P.z, fun p hp => ?_⟩; rw [P.at_ p hp]; have hu := up_of hg p hp; have hr := (hR.at_ p hp).rng
  by_cases q : (rd_T32 b p).f1 = h
  · rw [if_pos q, if_pos (jOf_lt b h p hp q)]
    by_cases q2 : 0 < rd R p
    · rw [ex_yes (by omega) q2]
    · rw [ex_wait (by omega) q2 (by omega)]; omega
  · rw [if_neg q]
    exact ex_congr (by omega) Iff.rfl
theorem PJ.step {b : List S32} {R : List Int} {h j : Nat} {out : List Int} (P : PJ b R h j out) (q : Nat) (hq : q < b.length) (hf : (rd_T32 b q).f1 = h) (hj : jOf b h q = j) (out' : List Int)
    (h1 : out' = out.set (q + 1) (rd R q) ∨ (out' = out ∧ rd R q = 0)) : PJ b R h (j + 1) out' := by
  have other (p : Nat) (hp : p < b.length) (hne : p ≠ q) (hfp : (rd_T32 b p).f1 = h) : (jOf b h p < j + 1) = (jOf b h p < j) := by
    apply propext; constructor
    · intro e
      by_cases e2 : jOf b h p = j
      · exfalso
        have g1 := kids_at b h p hp hfp
        have g2 := kids_at b h q hq hf
        rw [e2] at g1
        rw [hj, g1] at g2
        have := Option.some.inj g2
        omega
      · omega
    · omega
  have hlen := P.len
  rcases h1 with rfl | ⟨rfl, h0⟩
  · refine ⟨by rw [List.length_set]; exact P.len, ?_, fun p hp => ?_⟩
    · have := rdI_set out (q + 1) 0 (rd R q) (by omega)
      rw [if_neg (by omega)] at this
      rw [show ((0 : Nat) : Int) = 0 from rfl] at this
      rw [this]; exact P.z
    · rw [rdI_set _ _ _ _ (by omega)]
      by_cases e : p = q
      · subst e
        rw [if_pos rfl, if_pos hf, if_pos (by omega)]
      · rw [if_neg (by omega), P.at_ p hp]
        by_cases c : (rd_T32 b p).f1 = h
        · rw [if_pos c, if_pos c]
          simp only [other p hp e c]
        · rw [if_neg c, if_neg c]
  · refine ⟨P.len, P.z, fun p hp => ?_⟩
    rw [P.at_ p hp]
    by_cases e : p = q
    · subst e
      rw [if_pos hf, if_pos hf, if_neg (by omega), if_pos (by omega), h0]
    · by_cases c : (rd_T32 b p).f1 = h
      · rw [if_pos c, if_pos c]
        simp only [other p hp e c]
      · rw [if_neg c, if_neg c]
theorem upM_of {b : List S32} {R : List Int} {p h : Nat} (hf : (rd_T32 b p).f1 = h) : upM b R p = if h = 0 then 0 else rd R (h - 1) := by
  unfold upM
  by_cases c : h = 0
  (subst c; rw [if_neg (by omega), if_pos rfl]); (rw [if_pos (by omega), if_neg c, hf])
/-- Looking up a row's label among the kids of the row that its parent is matched with. -/
theorem fnd_val {a b : List S32} (Ra : Rt a) {R : List Int} (hR : RS a b R) {q : Nat} (hq : q < b.length) (z : Int) (hz : upM b R q = z) (hz0 : (rd_T32 b q).f1 = 0 ∨ 0 < z) :
    fndL (labsR a a.length) (kidsIdx a 0 z) (labR b q) = if rd R q = 0 then none else some (rd R q) := by
  have hkey : ∀ k : Int, k ∈ kidsIdx a 0 z → ∃ p : Nat, p < a.length ∧ k = ((p + 1 : Nat) : Int) ∧ (rd_T32 a p).f1 = z := by
    intro k hk; obtain ⟨j, hj, rfl⟩ := List.mem_iff_getElem.1 hk; obtain ⟨p, p1, p2, p3, _⟩ := kids_get a z j hj; refine ⟨p, p1, ?_, p3⟩; rw [← p2]; unfold rd; rw [Int.toNat_natCast, List.getD_eq_getElem?_getD, List.getElem?_eq_getElem hj]; rfl
  have hlab : ∀ p : Nat, p < a.length → rd_T37 (labsR a a.length) (((p + 1 : Nat) : Int) - 1) = labR a p := fun p hp => by
    rw [show ((p + 1 : Nat) : Int) - 1 = (p : Int) by omega]; exact labsR_at a _ p hp
  have hv := hR.at_ q hq
  cases hfd : fndL (labsR a a.length) (kidsIdx a 0 z) (labR b q) with
  | none =>
    rcases hv with ⟨h0, _⟩ | ⟨k, k1, k2, k3⟩
    (rw [if_pos h0]); (exfalso; unfold fndL at hfd; rw [List.find?_eq_none] at hfd; have hm : ((k + 1 : Nat) : Int) ∈ kidsIdx a 0 z := List.mem_of_getElem? (kids_at a z k k1 (k2.1.trans hz)); exact hfd _ hm (by rw [hlab k k1]; exact (eqL_iff _ _).2 k2.2.1))
  | some n =>
    have hm := fndL_mem hfd; obtain ⟨p, p1, rfl, p3⟩ := hkey n hm; have he := List.find?_some hfd; rw [hlab p p1] at he; have hM : Mt a b R q p := ⟨p3.trans hz.symm, (eqL_iff _ _).1 he, hz0.imp id (fun h => by rw [hz]; exact h)⟩; have := hv.uniq Ra (.inr ⟨p, p1, hM, rfl⟩); rw [this, if_neg (by omega)]
theorem put_all {a b : List S32} (Ra : Rt a) (Rb : Rt b) {R : List Int} (hR : RS a b R) (h : Nat) (z : Int) (hz : z = if h = 0 then 0 else rd R (h - 1)) (hz0 : h = 0 ∨ 0 < z) (out : List Int) (hP : PJ b R h 0 out) :
    ∀ j, j ≤ (kidsIdx b 0 h).length → PJ b R h j (putK (labsR a a.length) (labsR b b.length) (kidsIdx a 0 z) (kidsIdx b 0 h) out j)
  | 0, _ => hP
  | j + 1, hj => by
    have ih := put_all Ra Rb hR h z hz hz0 out hP j (by omega)
    obtain ⟨q, q1, q2, q3, q4⟩ := kids_get b h j (by omega)
    have hu := upM_of (R := R) q3
    rw [← hz] at hu
    have hfv := fnd_val Ra hR q1 z hu (hz0.imp (fun e => by rw [q3, e]; rfl) id)
    refine ih.step q q1 q3 q4 _ ?_
    rw [putK, q2]
    unfold put1
    rw [show ((q + 1 : Nat) : Int) - 1 = (q : Int) by omega, labsR_at b _ q q1, hfv]
    by_cases c : rd R q = 0
    · rw [if_pos c]; exact .inr ⟨rfl, c⟩
    · rw [if_neg c]; exact .inl (by simp only [Int.toNat_natCast])
theorem step_all {a b : List S32} (Ra : Rt a) (Rb : Rt b) {R : List Int} (hR : RS a b R) {ka kb : List (List Int)} (Ka : KL a ka) (Kb : KL b kb) (h : Nat) (hh : h ≤ b.length) (out : List Int) (hP : PS b R h h out) :
    PS b R (h + 1) (h + 1) (stepH ka kb (labsR a a.length) (labsR b b.length) out h) := by
  have hM := hP.mark Rb.good hh; obtain ⟨ys, hys⟩ : ∃ ys, markH out h = ys := ⟨_, rfl⟩; unfold stepH; rw [hys] at hM ⊢; obtain ⟨z, hz⟩ : ∃ z, rd ys h = z := ⟨_, rfl⟩; rw [hz]
  have hzv : (h = 0 ∧ z = 0) ∨ (0 < h ∧ 0 < rd R (h - 1) ∧ z = rd R (h - 1)) ∨ (0 < h ∧ rd R (h - 1) = 0 ∧ z < 0) := by
    by_cases c : h = 0
    · subst c; exact .inl ⟨rfl, hz.symm.trans hM.z⟩
    · obtain ⟨p, rfl⟩ : ∃ p, h = p + 1 := ⟨h - 1, by omega⟩
      have := hM.at_ p (by omega)
      rw [hz] at this
      have hu := up_of Rb.good p (by omega)
      have hr := (hR.at_ p (by omega)).rng
      rw [show ((p + 1 : Nat) : Int) - 1 = (p : Int) by omega]
      by_cases q : 0 < rd R p
      · rw [ex_yes (by omega) q] at this
        exact .inr (.inl ⟨by omega, q, this⟩)
      · rw [ex_gone (by omega) q (by omega)] at this
        exact .inr (.inr ⟨by omega, by omega, by omega⟩)
  have hkb := Kb.at_ h (by omega) (by omega); rw [hkb]
  by_cases c1 : z < 0
  · rw [if_pos (.inl c1)]
    refine hM.idle Rb.good (fun p hp hf => ?_)
    rcases hzv with ⟨_, e⟩ | ⟨_, _, _⟩ | ⟨e1, e2, _⟩
    · omega
    · omega
    · rcases hR.at_ p hp with ⟨h0, _⟩ | ⟨k, k1, k2, k3⟩
      · exact h0
      · exfalso
        have hu := upM_of (R := R) hf
        rw [if_neg (by omega), e2] at hu
        rcases k2.2.2 with g | g <;> omega
  have hz2 : z = if h = 0 then 0 else rd R (h - 1) := by
    rcases hzv with ⟨e1, e2⟩ | ⟨e1, _, e3⟩ | ⟨_, _, e3⟩
    (rw [if_pos e1]; exact e2); (rw [if_neg (by omega)]; exact e3); (omega)
  have hz3 : h = 0 ∨ 0 < z := by
    rcases hzv with ⟨e1, _⟩ | ⟨_, e2, e3⟩ | ⟨_, _, e3⟩
    (exact .inl e1); (exact .inr (by omega)); (omega)
  have hzr : 0 ≤ z ∧ z ≤ a.length := by
    rcases hzv with ⟨_, e⟩ | ⟨e1, _, e3⟩ | ⟨_, _, e3⟩
    (omega); (have := (hR.at_ (h - 1) (by omega)).rng; rw [show (((h - 1 : Nat) : Nat) : Int) = (h : Int) - 1 by omega] at this; omega); (omega)
  have hka := Ka.at_ z hzr.1 hzr.2; rw [hka]
  by_cases c2 : (kidsIdx b 0 h).length = 0
  · rw [if_pos (.inr (.inl c2))]
    refine hM.idle Rb.good (fun p hp hf => ?_); have := jOf_lt b h p hp hf; omega
  by_cases c3 : (kidsIdx a 0 z).length = 0
  · rw [if_pos (.inr (.inr c3))]
    refine hM.idle Rb.good (fun p hp hf => ?_)
    rcases hR.at_ p hp with ⟨h0, _⟩ | ⟨k, k1, k2, k3⟩
    · exact h0
    · exfalso
      have hu := upM_of (R := R) hf
      rw [← hz2] at hu
      have := jOf_lt a z k k1 (k2.1.trans hu)
      omega
  rw [if_neg (by rintro (q | q | q); exact c1 q; exact c2 q; exact c3 q)]; exact (put_all Ra Rb hR h z hz2 hz3 ys hM.toJ _ (Nat.le_refl _)).toS Rb.good hR
theorem go_all {a b : List S32} (Ra : Rt a) (Rb : Rt b) {R : List Int} (hR : RS a b R) {ka kb : List (List Int)} (Ka : KL a ka) (Kb : KL b kb) : ∀ h, h ≤ b.length + 1 → PS b R h h (goH ka kb (labsR a a.length) (labsR b b.length) (b.length + 1) h)
  | 0, _ => by
    have hr : ∀ i : Int, rd (List.replicate (b.length + 1) 0) i = 0 := fun i => by
      unfold rd
      rw [List.getD_eq_getElem?_getD, List.getElem?_replicate]
      split <;> rfl
    refine ⟨by simp [goH], hr 0, fun p hp => ?_⟩
    rw [goH, hr]
    have := up_of Rb.good p hp
    rw [ex_no (by omega)]
  | h + 1, hh => step_all Ra Rb hR Ka Kb h (by omega) _ (go_all Ra Rb hR Ka Kb h (by omega))
/-- What match.pairs tells, by the reference's pairs: from 0 on; -1: none. -/
def prsOf (R : List Int) : List Int := 0 :: R.map (fun v => if 0 < v then v else -1)
theorem prs_eq {a b : List S32} (Rb : Rt b) {R out : List Int} (hR : RS a b R) (hP : PS b R (b.length + 1) (b.length + 1) out) : out = prsOf R := by
  refine List.ext_getElem (by rw [hP.len]; simp [prsOf, hR.len]) (fun i h1 h2 => ?_); have hl := hP.len
  cases i with
  | zero =>
    have := hP.z; unfold rd at this; rw [List.getD_eq_getElem?_getD, show (0 : Int).toNat = 0 from rfl, List.getElem?_eq_getElem h1] at this; exact this
  | succ p =>
    have hp : p < b.length := by omega
    have := hP.at_ p hp; have hu := up_of Rb.good p hp
    have hx : ex b R (b.length + 1) (b.length + 1) p = if 0 < rd R p then rd R p else -1 := by
      split
      · next q => exact ex_yes (by omega) q
      · next q => exact ex_gone (by omega) q (by omega)
    rw [hx] at this; unfold rd at this; rw [Int.toNat_natCast, Int.toNat_natCast, List.getD_eq_getElem?_getD, List.getD_eq_getElem?_getD, List.getElem?_eq_getElem h1, List.getElem?_eq_getElem (by rw [hR.len]; exact hp)] at this; simp only [Option.getD_some] at this; rw [this]; simp [prsOf]
theorem fit_labs {l : List S32} (hs : ∀ y ∈ l, Sm32 y) : fitL (labsR l l.length) = true := by
  unfold fitL; rw [List.all_eq_true]; intro x hx; unfold labsR at hx; obtain ⟨p, hp, rfl⟩ := List.mem_map.1 hx; have hp := List.mem_range.1 hp; have := hs (rd_T32 l p) (rd32_mem l p (by omega) (by omega)); have h2 := this.h2; have h3 := this.h3; simp only [Bool.and_eq_true, decide_eq_true_eq]; exact ⟨h2, h3⟩
theorem kids_ok {l : List S32} {kids : List (List Int)} (K : KL l kids) (ks : List Int) (hk : ks ∈ kids) : ks.length ≤ 1000000 ∧ ∀ k ∈ ks, 1 ≤ k ∧ k ≤ l.length := by
  obtain ⟨j, hj, rfl⟩ := List.mem_iff_getElem.1 hk; have hn := K.n
  have e : kids[j] = kidsIdx l 0 j := by
    rw [← K.at_ j (by omega) (by omega)]; unfold rd_L7; rw [Int.toNat_natCast, List.getD_eq_getElem?_getD, List.getElem?_eq_getElem hj]; rfl
  rw [e]; refine ⟨by have := kidsIdx_len l 0 j; have := K.hl; omega, fun k hk => ?_⟩; obtain ⟨i, hi, rfl⟩ := List.mem_iff_getElem.1 hk; obtain ⟨q, q1, q2, _⟩ := kids_get l j i hi; unfold rd at q2; rw [Int.toNat_natCast, List.getD_eq_getElem?_getD, List.getElem?_eq_getElem hi] at q2; simp only [Option.getD_some] at q2; omega
theorem ok_all {a b : List S32} {ka kb : List (List Int)} (Ka : KL a ka) (Kb : KL b kb) : okH ka kb (labsR a a.length) (labsR b b.length) (b.length + 1) = true := by
  have h1 := Ka.n; have h2 := Kb.n; have h3 := Ka.hl; have h4 := Kb.hl; unfold okH; rw [fit_labs Ka.sm, fit_labs Kb.sm, labsR_len, labsR_len]; simp only [Bool.and_eq_true, decide_eq_true_eq, List.all_eq_true]; refine ⟨⟨⟨⟨⟨⟨⟨by omega, by omega⟩, by omega⟩, by omega⟩, trivial⟩, trivial⟩, fun ks hk => ?_⟩, fun ks hk => ?_⟩; (obtain ⟨g1, g2⟩ := kids_ok Ka ks hk; exact ⟨g1, fun k hk => by have := g2 k hk; exact ⟨⟨this.1, this.2⟩, by omega⟩⟩); (obtain ⟨g1, g2⟩ := kids_ok Kb ks hk; exact ⟨g1, fun k hk => by have := g2 k hk; exact ⟨⟨this.1, this.2⟩, by omega⟩⟩)
/-- Right rows, and that the program takes them. -/
structure Rc (l : List S32) : Prop extends Rt l where
  chk : Ev (fun k => flat_Check.f k l) 0
theorem pairs_ev {a b : List S32} (Ra : Rc a) (Rb : Rc b) {R : List Int} (hR : RS a b R) : Ev (fun k => match_pairs.f k a b) (prsOf R) := by
  obtain ⟨ka, e1, Ka⟩ := right_kids Ra.hl Ra.sm Ra.good Ra.chk; obtain ⟨kb, e2, Kb⟩ := right_kids Rb.hl Rb.sm Rb.good Rb.chk; unfold match_pairs.f; refine Ev.bind e1 (Ev.bind e2 ?_); have h1 := Ka.n; have h2 := Kb.n
  have hno : ¬ (ka.length = 0 ∨ kb.length = 0) := by rintro (q | q) <;> omega
  refine Ev.eq (Ev.bind (labels_ev Ka) (Ev.bind (labels_ev Kb) ?_)) (fun k => if_neg hno); rw [if_pos (ok_all Ka Kb), prs_eq Rb.toRt hR (go_all Ra.toRt Rb.toRt hR Ka Kb (b.length + 1) (Nat.le_refl _))]; exact Ev.pure _
theorem RS.nn {a b : List S32} {R : List Int} (h : RS a b R) : ∀ v ∈ R, 0 ≤ v ∧ v ≤ a.length := by
  intro v hv; obtain ⟨i, hi, rfl⟩ := List.mem_iff_getElem.1 hv; have := (h.at_ i (by rw [← h.len]; exact hi)).rng; unfold rd at this; rw [Int.toNat_natCast, List.getD_eq_getElem?_getD, List.getElem?_eq_getElem hi] at this; exact this
theorem prsOf_len (R : List Int) : (prsOf R).length = R.length + 1 := by simp [prsOf]
theorem Pairs_ev {a b : List S32} (Ra : Rc a) (Rb : Rc b) {R : List Int} (hR : RS a b R) : Ev (fun k => match_Pairs.f k a b) R := by
  unfold match_Pairs.f; refine Ev.bind (pairs_ev Ra Rb hR) ?_; have h1 := Rb.hl; have h2 := hR.len; rw [prsOf_len, if_neg (by omega), if_pos ⟨by omega, by omega⟩]
  have e : ((prsOf R).drop 1).map pos0 = R := by
    unfold prsOf; rw [List.drop_one, List.tail_cons, List.map_map]
    have : ∀ v ∈ R, (pos0 ∘ fun v => if 0 < v then v else -1) v = v := by
      intro v hv; have := hR.nn v hv; simp only [Function.comp, pos0]; split <;> split <;> omega
    rw [List.map_congr_left this]; simp
  rw [e]; exact Ev.pure _
def freshN (R : List Int) : Nat → List Int
  | 0 => []
  | i + 1 => if rd R i = 0 then freshN R i ++ [((i + 1 : Nat) : Int)] else freshN R i
theorem freshN_succ (R : List Int) (i : Nat) : freshN R (i + 1) = if rd R i = 0 then freshN R i ++ [((i + 1 : Nat) : Int)] else freshN R i := rfl
theorem freshN_len (R : List Int) : ∀ i, (freshN R i).length ≤ i
  | 0 => Nat.le_refl _
  | i + 1 => by
    have := freshN_len R i
    unfold freshN
    split
    · simp; omega
    · omega
theorem prsOf_at (R : List Int) (i : Nat) (hi : i < R.length) : rd (prsOf R) ((i + 1 : Nat) : Int) = if 0 < rd R i then rd R i else -1 := by
  unfold prsOf rd; rw [Int.toNat_natCast, Int.toNat_natCast, List.getD_eq_getElem?_getD, List.getD_eq_getElem?_getD, List.getElem?_cons_succ, List.getElem?_map, List.getElem?_eq_getElem hi]; rfl
theorem Fresh_l0 (R : List Int) (hl : R.length ≤ 4096) (hn : ∀ v ∈ R, 0 ≤ v) (d : Nat) : ∀ i : Nat, R.length - i = d → i ≤ R.length → Ev (fun k => match_Fresh.l0 k (freshN R i) (prsOf R) (prsOf R).length ((i + 1 : Nat) : Int)) (freshN R R.length) := by
  have hp := prsOf_len R
  induction d with
  | zero =>
    intro i hd hi
    obtain rfl : i = R.length := by omega
    exact (Ev.pure _).step (fun k => by rw [match_Fresh.l0, if_neg (by omega)])
  | succ d ih =>
    intro i hd hi; have h := ih (i + 1) (by omega) (by omega); have hf := freshN_len R i; have hat := prsOf_at R i (by omega); have hnn : 0 ≤ rd R i := hn _ (getD_mem' R 0 i (by omega) (by omega)); rw [freshN_succ R i] at h
    by_cases c : rd R i = 0
    (rw [if_pos c] at h; rw [if_neg (by omega)] at hat; exact h.step (fun k => by rw [match_Fresh.l0, if_pos (by omega), if_pos (by omega), if_pos (by omega), hat, if_pos (by decide), if_pos (by omega), wn (by omega)])); (rw [if_neg c] at h; rw [if_pos (by omega)] at hat; exact h.step (fun k => by rw [match_Fresh.l0, if_pos (by omega), if_pos (by omega), if_pos (by omega), hat, if_neg (by omega), wn (by omega)]))
theorem Fresh_ev {a b : List S32} (Ra : Rc a) (Rb : Rc b) {R : List Int} (hR : RS a b R) : Ev (fun k => match_Fresh.f k a b) (freshN R R.length) := by
  unfold match_Fresh.f; refine Ev.bind (pairs_ev Ra Rb hR) ?_; have hp := prsOf_len R; have h1 := Rb.hl; have h2 := hR.len; have := Fresh_l0 R (by omega) (fun v hv => (hR.nn v hv).1) _ 0 rfl (by omega); refine this.step (fun k => ?_); have h0 : rd (prsOf R) 0 = 0 := rfl; rw [match_Fresh.l0, if_pos (by omega), if_pos (by omega), if_pos (by omega), h0, if_neg (by decide), show wrap64 (0 + 1) = ((0 + 1 : Nat) : Int) from (by unfold wrap64; omega)]; rfl
theorem RS.back {a b : List S32} (Ra : Rt a) (Rb : Rt b) {R S : List Int} (hR : RS a b R) (hS : RS b a S) : ∀ (n : Nat) (i q : Nat), i ≤ n → i < a.length → q < b.length → rd R q = ((i + 1 : Nat) : Int) → rd S i = ((q + 1 : Nat) : Int) := by
  intro n
  induction n with
  | zero =>
    intro i q hi ha hb h
    obtain rfl : i = 0 := by omega
    rcases hR.at_ q hb with ⟨h0, _⟩ | ⟨k, k1, k2, k3⟩
    · omega
    · obtain rfl : k = 0 := by omega
      have hu := up_of Ra.good 0 ha
      have hf : (rd_T32 a (0 : Nat)).f1 = 0 := by omega
      have hb0 : (rd_T32 b q).f1 = 0 := by
        rcases k2.2.2 with g | g
        (exact g); (have := k2.1; omega)
      have hm : Mt b a S 0 q := ⟨by unfold upM; rw [if_neg (by omega)]; exact hb0, k2.2.1.symm, .inl hf⟩
      exact (hS.at_ 0 ha).uniq Rb (.inr ⟨q, hb, hm, rfl⟩)
  | succ n ih =>
    intro i q hi ha hb h
    rcases hR.at_ q hb with ⟨h0, _⟩ | ⟨k, k1, k2, k3⟩
    · omega
    · obtain rfl : k = i := by omega
      have hu := up_of Ra.good k ha
      have hub := up_of Rb.good q hb
      by_cases hf : (rd_T32 a k).f1 = 0
      · have hb0 : (rd_T32 b q).f1 = 0 := by
          rcases k2.2.2 with g | g
          · exact g
          · have := k2.1; omega
        have hm : Mt b a S k q := ⟨by unfold upM; rw [if_neg (by omega)]; exact hb0, k2.2.1.symm, .inl hf⟩
        exact (hS.at_ k ha).uniq Rb (.inr ⟨q, hb, hm, rfl⟩)
      · have hbp : 0 < (rd_T32 b q).f1 := by
          have h1 := k2.1
          unfold upM at h1
          split at h1
          · next g => exact g
          · omega
        obtain ⟨u, hu2⟩ : ∃ u : Nat, (rd_T32 b q).f1 = ((u + 1 : Nat) : Int) := ⟨((rd_T32 b q).f1 - 1).toNat, by omega⟩
        obtain ⟨v, hv2⟩ : ∃ v : Nat, (rd_T32 a k).f1 = ((v + 1 : Nat) : Int) := ⟨((rd_T32 a k).f1 - 1).toNat, by omega⟩
        have h1 := k2.1
        unfold upM at h1
        rw [if_pos hbp, hu2, hv2, show ((u + 1 : Nat) : Int) - 1 = (u : Int) by omega] at h1
        have hS2 := ih v u (by omega) (by omega) (by omega) h1.symm
        have hum : upM a S k = ((u + 1 : Nat) : Int) := by
          unfold upM; rw [if_pos (by omega), hv2, show ((v + 1 : Nat) : Int) - 1 = (v : Int) by omega]; exact hS2
        have hm : Mt b a S k q := ⟨by rw [hum]; exact hu2, k2.2.1.symm, .inr (by rw [hum]; omega)⟩
        exact (hS.at_ k ha).uniq Rb (.inr ⟨q, hb, hm, rfl⟩)
theorem RS.sym {a b : List S32} (Ra : Rt a) (Rb : Rt b) {R S : List Int} (hR : RS a b R) (hS : RS b a S) (i q : Nat) (ha : i < a.length) (hb : q < b.length) : rd R q = ((i + 1 : Nat) : Int) ↔ rd S i = ((q + 1 : Nat) : Int) :=
  ⟨hR.back Ra Rb hS i i q (Nat.le_refl _) ha hb, hS.back Rb Ra hR q q i (Nat.le_refl _) hb ha⟩
def gone2 (a : List S32) (S : List Int) : Nat → List Int
  | 0 => []
  | i + 1 => if rd S i = 0 ∧ ((rd_T32 a i).f1 = 0 ∨ 0 < rd S ((rd_T32 a i).f1 - 1)) then gone2 a S i ++ [((i + 1 : Nat) : Int)] else gone2 a S i
theorem gone2_succ (a : List S32) (S : List Int) (i : Nat) : gone2 a S (i + 1) = if rd S i = 0 ∧ ((rd_T32 a i).f1 = 0 ∨ 0 < rd S ((rd_T32 a i).f1 - 1)) then gone2 a S i ++ [((i + 1 : Nat) : Int)] else gone2 a S i := rfl
theorem metN_iff (n : Nat) (p : List Int) (hp : ∀ i : Nat, i < p.length → rd p i < n) (v : Nat) (hv : v < n) : ∀ m, m ≤ p.length → (rdOf false (metN n p m) (v : Int) = true ↔ ∃ i : Nat, i < m ∧ rd p i = (v : Int))
  | 0, _ => by
    constructor
    · intro h
      exfalso
      unfold rdOf metN at h
      rw [Int.toNat_natCast, List.getD_eq_getElem?_getD, List.getElem?_replicate, if_pos hv] at h
      cases h
    · rintro ⟨i, hi, _⟩; omega
  | m + 1, hm => by
    have ih := metN_iff n p hp v hv m (by omega)
    have hx := hp m (by omega)
    have hl := metN_len n p m
    unfold metN setM
    by_cases c : 0 ≤ rd p m
    · rw [if_pos c]
      by_cases e : rd p m = (v : Int)
      · have : rdOf false ((metN n p m).set (rd p m).toNat true) (v : Int) = true := by
          unfold rdOf
          rw [e, Int.toNat_natCast, List.getD_eq_getElem?_getD, List.getElem?_set, if_pos rfl, if_pos (by omega)]
          rfl
        rw [this]
        exact ⟨fun _ => ⟨m, by omega, e⟩, fun _ => rfl⟩
      · have : rdOf false ((metN n p m).set (rd p m).toNat true) (v : Int) = rdOf false (metN n p m) (v : Int) := by
          unfold rdOf
          rw [Int.toNat_natCast, List.getD_eq_getElem?_getD, List.getD_eq_getElem?_getD, List.getElem?_set, if_neg (by omega)]
        rw [this, ih]
        exact ⟨fun ⟨i, h1, h2⟩ => ⟨i, by omega, h2⟩, fun ⟨i, h1, h2⟩ => ⟨i, by by_cases g : i = m; (subst g; exact absurd h2 e); omega, h2⟩⟩
    · rw [if_neg c, ih]
      exact ⟨fun ⟨i, h1, h2⟩ => ⟨i, by omega, h2⟩, fun ⟨i, h1, h2⟩ => ⟨i, by by_cases g : i = m; (subst g; omega); omega, h2⟩⟩
theorem met_pairs {a b : List S32} (Ra : Rt a) (Rb : Rt b) {R S : List Int} (hR : RS a b R) (hS : RS b a S) (v : Nat) (hv : v ≤ a.length) :
    rdOf false (metN (a.length + 1) (prsOf R) (prsOf R).length) (v : Int) = true ↔ v = 0 ∨ 0 < rd S ((v : Int) - 1) := by
  have hlen := hR.len; have hpl := prsOf_len R
  have hat : ∀ i : Nat, i < (prsOf R).length → i = 0 ∧ rd (prsOf R) i = 0 ∨ ∃ q : Nat, i = q + 1 ∧ q < b.length ∧ rd (prsOf R) i = if 0 < rd R q then rd R q else -1 := by
    intro i hi
    cases i with
    | zero => exact .inl ⟨rfl, rfl⟩
    | succ q => exact .inr ⟨q, rfl, by omega, prsOf_at R q (by omega)⟩
  rw [metN_iff (a.length + 1) (prsOf R) (fun i hi => by
    rcases hat i hi with ⟨_, e⟩ | ⟨q, _, hq, e⟩
    · rw [e]; omega
    · rw [e]
      have := (hR.at_ q hq).rng
      split <;> omega) v (by omega) _ (Nat.le_refl _)]
  constructor
  · rintro ⟨i, hi, hv2⟩
    rcases hat i hi with ⟨_, e⟩ | ⟨q, _, hq, e⟩
    · exact .inl (by omega)
    · rw [e] at hv2
      split at hv2
      · next g =>
        obtain ⟨w, rfl⟩ : ∃ w, v = w + 1 := ⟨v - 1, by omega⟩; have := (hR.sym Ra Rb hS w q (by omega) hq).1 hv2; exact .inr (by rw [show ((w + 1 : Nat) : Int) - 1 = (w : Int) by omega, this]; omega)
      · omega
  · rintro (rfl | h)
    · exact ⟨0, by omega, rfl⟩
    · by_cases hz : v = 0
      · subst hz; exact ⟨0, by omega, rfl⟩
      · obtain ⟨w, rfl⟩ : ∃ w, v = w + 1 := ⟨v - 1, by omega⟩
        rw [show ((w + 1 : Nat) : Int) - 1 = (w : Int) by omega] at h
        have hr := (hS.at_ w (by omega)).rng
        obtain ⟨q, hq⟩ : ∃ q : Nat, rd S w = ((q + 1 : Nat) : Int) := ⟨(rd S w - 1).toNat, by omega⟩
        have := (hR.sym Ra Rb hS w q (by omega) (by omega)).2 hq
        refine ⟨q + 1, by omega, ?_⟩
        rw [prsOf_at R q (by omega), this, if_pos (by omega)]
theorem gone_eq {a b : List S32} (Ra : Rt a) (Rb : Rt b) {R S : List Int} (hR : RS a b R) (hS : RS b a S) : ∀ i, i ≤ a.length → goneN a (metN (a.length + 1) (prsOf R) (prsOf R).length) i = gone2 a S i
  | 0, _ => rfl
  | i + 1, hi => by
    have ih := gone_eq Ra Rb hR hS i (by omega)
    have hu := up_of Ra.good i (by omega)
    have hr := (hS.at_ i (by omega)).rng
    have m1 := met_pairs Ra Rb hR hS (i + 1) (by omega)
    have m2 := met_pairs Ra Rb hR hS (rd_T32 a i).f1.toNat (by omega)
    rw [show (((rd_T32 a i).f1.toNat : Nat) : Int) = (rd_T32 a i).f1 by omega] at m2
    rw [show ((i + 1 : Nat) : Int) - 1 = (i : Int) by omega] at m1
    unfold goneN gone2
    rw [ih]
    have e : ((!rdOf false (metN (a.length + 1) (prsOf R) (prsOf R).length) ((i + 1 : Nat) : Int) && rdOf false (metN (a.length + 1) (prsOf R) (prsOf R).length) (rd_T32 a i).f1) = true) ↔ (rd S i = 0 ∧ ((rd_T32 a i).f1 = 0 ∨ 0 < rd S ((rd_T32 a i).f1 - 1))) := by
      rw [Bool.and_eq_true, m2, Bool.not_eq_true', ← Bool.not_eq_true, m1]
      constructor
      · rintro ⟨h1, h2⟩
        exact ⟨by have : ¬ 0 < rd S i := fun g => h1 (.inr g)
                  omega, h2.imp (fun g => by omega) id⟩
      · rintro ⟨h1, h2⟩
        exact ⟨by rintro (g | g) <;> omega, h2.imp (fun g => by omega) id⟩
    by_cases c : (rd S i = 0 ∧ ((rd_T32 a i).f1 = 0 ∨ 0 < rd S ((rd_T32 a i).f1 - 1)))
    · rw [if_pos (e.2 c), if_pos c]
    · rw [if_neg (fun g => c (e.1 g)), if_neg c]
theorem Gone_ev {a b : List S32} (Ra : Rc a) (Rb : Rc b) {R S : List Int} (hR : RS a b R) (hS : RS b a S) : Ev (fun k => match_Gone.f k a b) (gone2 a S a.length) := by
  unfold match_Gone.f; refine Ev.bind (pairs_ev Ra Rb hR) ?_; have h1 := Ra.hl; have h2 := hR.len; have h3 := Rb.hl; have hpl := prsOf_len R
  have hok : okG a (prsOf R) = true := by
    unfold okG; simp only [Bool.and_eq_true, decide_eq_true_eq, List.all_eq_true]; refine ⟨⟨⟨by omega, by omega⟩, fun v hv => ?_⟩, fun x hx => ?_⟩
    · unfold prsOf at hv
      rcases List.mem_cons.1 hv with rfl | hv
      · omega
      · obtain ⟨u, hu, rfl⟩ := List.mem_map.1 hv
        have := hR.nn u hu
        split <;> omega
    · obtain ⟨i, hi, rfl⟩ := List.mem_iff_getElem.1 hx
      have := up_of Ra.good i hi; unfold rd_T32 at this; rw [Int.toNat_natCast, List.getD_eq_getElem?_getD, List.getElem?_eq_getElem hi] at this; simp only [Option.getD_some] at this; exact ⟨this.1, by omega⟩
  rw [if_neg (by omega), if_pos hok, gone_eq Ra.toRt Rb.toRt hR hS a.length (Nat.le_refl _)]; exact Ev.pure _
set_option maxRecDepth 100000
theorem same_ev : Ev (fun k => lw_same.f k) true := Ev.of (fun k => lw_same.mono k) (k := 60) (by decide +kernel)
/-- Few rows: right, or wrong by an error. -/
theorem few_cases (l : List S32) (hl : l.length * 88 ≤ 140737488351232) (hs : ∀ y ∈ l, Sm32 y) :
    Ev (fun k => pl_FewRows.f k l 200) false ∨
    (Ev (fun k => pl_FewRows.f k l 200) true ∧ l.length ≤ 200 ∧ ((Rc l ∧ Ev (fun k => lw_right.f k l) true) ∨ ∃ e, e ≠ 0 ∧ Ev (fun k => flat_Check.f k l) e ∧ Ev (fun k => lw_right.f k l) false)) := by
  obtain ⟨b, hb, hbi⟩ := fewR l hl hs 200 (by omega) (by omega)
  cases b with
  | false => exact .inl hb
  | true =>
    have hn := hbi rfl; refine .inr ⟨hb, by omega, ?_⟩; obtain ⟨e, h1, h2, h3⟩ := chk_any l (by omega) hs
    by_cases c : e = 0
    · subst c
      obtain ⟨g1, g2⟩ := h3 rfl; refine .inl ⟨⟨⟨by omega, hs, g1, g2⟩, h2⟩, ?_⟩; unfold lw_right.f; refine Ev.bind hb ?_; exact Ev.eq (Ev.bind h1 (Ev.pure _)) (fun k => if_pos rfl)
    · refine .inr ⟨e, c, h2, ?_⟩
      unfold lw_right.f
      refine Ev.bind hb ?_
      have : (e == 0) = false := by simp [c]
      rw [← this]
      exact Ev.eq (Ev.bind h1 (g := fun k t => some (t == 0)) (Ev.pure _)) (fun k => if_pos rfl)
theorem own_at {a : List S32} (Ra : Rt a) {O : List Int} (hO : RS a a O) : ∀ (n i : Nat), i ≤ n → i < a.length → rd O i = ((i + 1 : Nat) : Int) := by
  intro n
  induction n with
  | zero =>
    intro i hi ha
    obtain rfl : i = 0 := by omega
    have hu := up_of Ra.good 0 ha
    have hf : (rd_T32 a (0 : Nat)).f1 = 0 := by omega
    have hm : Mt a a O 0 0 := ⟨by unfold upM; rw [if_neg (by omega)]; exact hf, rfl, .inl hf⟩; exact (hO.at_ 0 ha).uniq Ra (.inr ⟨0, ha, hm, rfl⟩)
  | succ n ih =>
    intro i hi ha; have hu := up_of Ra.good i ha
    by_cases hf : (rd_T32 a i).f1 = 0
    · have hm : Mt a a O i i := ⟨by unfold upM; rw [if_neg (by omega)]; exact hf, rfl, .inl hf⟩
      exact (hO.at_ i ha).uniq Ra (.inr ⟨i, ha, hm, rfl⟩)
    · obtain ⟨v, hv⟩ : ∃ v : Nat, (rd_T32 a i).f1 = ((v + 1 : Nat) : Int) := ⟨((rd_T32 a i).f1 - 1).toNat, by omega⟩
      have hi2 := ih v (by omega) (by omega)
      have hum : upM a O i = ((v + 1 : Nat) : Int) := by
        unfold upM; rw [if_pos (by omega), hv, show ((v + 1 : Nat) : Int) - 1 = (v : Int) by omega]; exact hi2
      have hm : Mt a a O i i := ⟨by rw [hum]; exact hv, rfl, .inr (by rw [hum]; omega)⟩
      exact (hO.at_ i ha).uniq Ra (.inr ⟨i, ha, hm, rfl⟩)
theorem tw_at {a b : List S32} (Ra : Rt a) (Rb : Rt b) {R S : List Int} (hR : RS a b R) (hS : RS b a S) (i : Nat) (hi : i < b.length) : TwR a b R S i := by
  have hv := hR.at_ i hi; have hu := up_of Rb.good i hi
  have key (h : 0 < rd R i) : ∃ k : Nat, k < a.length ∧ Mt a b R i k ∧ rd R i - 1 = (k : Int) ∧ rd R i = ((k + 1 : Nat) : Int) := by
    rcases hv with ⟨h0, _⟩ | ⟨k, k1, k2, k3⟩
    (omega); (exact ⟨k, k1, k2, by omega, k3⟩)
  refine ⟨hv.rng, hu, fun h => ?_, fun h => ?_, fun h => ?_, fun h h0 => ?_, fun h h0 => ?_⟩; (obtain ⟨k, k1, k2, k3, k4⟩ := key h; rw [k3]; exact (hR.sym Ra Rb hS k i k1 hi).1 k4); (obtain ⟨k, k1, k2, k3, k4⟩ := key h; rw [k3]; exact congrArg S37.f0 k2.2.1); (obtain ⟨k, k1, k2, k3, k4⟩ := key h; rw [k3]; exact congrArg S37.f1 k2.2.1); (obtain ⟨k, k1, k2, k3, k4⟩ := key h; rw [k3]; have := k2.1; unfold upM at this; rw [if_neg (by omega)] at this; exact this); (obtain ⟨k, k1, k2, k3, k4⟩ := key h; rw [k3]; have := k2.1; unfold upM at this; rw [if_pos h0] at this; exact this.symm)
theorem freshN_own (O : List Int) (n : Nat) (h : ∀ i : Nat, i < n → rd O i = ((i + 1 : Nat) : Int)) : ∀ i, i ≤ n → freshN O i = []
  | 0, _ => rfl
  | i + 1, hi => by rw [freshN_succ, if_neg (by rw [h i (by omega)]; omega)]; exact freshN_own O n h i (by omega)
theorem gone2_own (a : List S32) (O : List Int) (n : Nat) (h : ∀ i : Nat, i < n → rd O i = ((i + 1 : Nat) : Int)) : ∀ i, i ≤ n → gone2 a O i = []
  | 0, _ => rfl
  | i + 1, hi => by rw [gone2_succ, if_neg (fun e => by have := e.1; rw [h i (by omega)] at this; omega)]; exact gone2_own a O n h i (by omega)
theorem right_cases (l : List S32) (hl : l.length * 88 ≤ 140737488351232) (hs : ∀ y ∈ l, Sm32 y) : Ev (fun k => lw_right.f k l) false ∨ (Rc l ∧ l.length ≤ 200 ∧ Ev (fun k => lw_right.f k l) true) := by
  rcases few_cases l hl hs with h | ⟨_, h1, ⟨h2, h3⟩ | ⟨e, _, _, h3⟩⟩
  (refine .inl ?_; unfold lw_right.f; refine Ev.bind h ?_; exact (Ev.pure _).eq (fun k => if_neg (by decide))); (exact .inr ⟨h2, h1, h3⟩); (exact .inl h3)
theorem MatchTwice : ∀ (x0 : List (S32)) (x1 : List (S32)), (x0.length * 88 ≤ 140737488351232 ∧ ∀ y ∈ x0, Sm32 y) → (x1.length * 88 ≤ 140737488351232 ∧ ∀ y ∈ x1, Sm32 y) → ∃ k, TwC k x0 x1 := by
  rintro a b ⟨hla, hsa⟩ ⟨hlb, hsb⟩; obtain ⟨ks, hs⟩ := same_ev
  rcases right_cases a hla hsa with ⟨k1, ha⟩ | ⟨Ra, la, ⟨k1, ha⟩⟩
  · exact ⟨ks + k1, .notA (ha _ (by omega)) (hs _ (by omega))⟩
  rcases right_cases b hlb hsb with ⟨k2, hb⟩ | ⟨Rb, lb, ⟨k2, hb⟩⟩
  (exact ⟨ks + k1 + k2, .notB (ha _ (by omega)) (hb _ (by omega)) (hs _ (by omega))⟩); obtain ⟨R, hR⟩ := RS.exists_ a b Rb.good; obtain ⟨S, hS⟩ := RS.exists_ b a Ra.good; obtain ⟨O, hO⟩ := RS.exists_ a a Ra.good
  have hown := fun (i : Nat) (hi : i < a.length) => own_at Ra.toRt hO i i (Nat.le_refl _) hi
  obtain ⟨k3, h3⟩ := Pairs_ev Ra Rb hR; obtain ⟨k4, h4⟩ := Pairs_ev Rb Ra hS; obtain ⟨k5, h5⟩ := Pairs_ev Ra Ra hO; have hF := Fresh_ev Ra Ra hO; have hG := Gone_ev Ra Ra hO hO; rw [freshN_own O a.length hown O.length (by rw [hO.len]; exact Nat.le_refl _)] at hF; rw [gone2_own a O a.length hown a.length (Nat.le_refl _)] at hG; obtain ⟨k6, h6⟩ := hF; obtain ⟨k7, h7⟩ := hG; exact ⟨ks + k1 + k2 + k3 + k4 + k5 + k6 + k7, .both (ha _ (by omega)) (hb _ (by omega)) (hs _ (by omega)) R S O (h3 _ (by omega)) (h4 _ (by omega)) (h5 _ (by omega)) (h6 _ (by omega)) (h7 _ (by omega)) (by omega) (by omega) hR.len hS.len hO.len (tw_at Ra.toRt Rb.toRt hR hS) hown⟩
end Go.Proofs.Ytelacebdmmanhaa.Pure
