import Derived.Test.YtahjlbbliihgpaaH4
/-! The plain law of the piles: what playN keeps. -/
namespace Go.Proofs.Ytahjlbbliihgpaa.G
open Go.RowKit Go.Proofs.YtahjlbbliihgpaaW.PrintWords

/-- A pile: places rise, members don't. -/
def Down (l : List Int) (p : List Int) : Prop := p.Pairwise fun x y => x < y ∧ rd l y ≤ rd l x

theorem Down.last {l p : List Int} (h : Down l p) (hp : 0 < p.length) (x : Int) (hx : x ∈ p) : x ≤ rd p (p.length - 1) ∧ rd l (rd p (p.length - 1)) ≤ rd l x := by
  obtain ⟨j, hj, rfl⟩ := List.getElem_of_mem hx
  have e : rd p (p.length - 1) = p[p.length - 1] := by
    unfold rd
    rw [List.getD_eq_getElem?_getD, List.getElem?_eq_getElem (by omega)]
    simp only [Option.getD_some]
    congr 1
    omega
  rw [e]
  by_cases hjl : j = p.length - 1
  · subst hjl; exact ⟨Int.le_refl _, Int.le_refl _⟩
  · have := List.pairwise_iff_getElem.1 h j (p.length - 1) hj (by omega) (by omega)
    exact ⟨by omega, this.2⟩

theorem topAt_eq {ps : List (List Int)} {k : Nat} (hk : k < ps.length) : topAt ps k = rd (ps.getD k []) ((ps.getD k []).length - 1) := by
  unfold topAt topOf rd_L1
  rw [if_neg (by omega), if_neg (by omega)]
  rfl

structure Pat (l : List Int) (i : Nat) (ps : List (List Int)) (ah : List Int) : Prop where
  inv : PInv l i ps ah
  down : ∀ k, Down l (ps.getD k [])
  pos : ∀ k x, x ∈ ps.getD k [] → 0 ≤ rd l x
  tops : ∀ j k : Nat, j < k → k < ps.length → rd l (topAt ps j) < rd l (topAt ps k)
  all : ∀ x : Int, 0 ≤ x → x < i → 0 ≤ rd l x → ∃ k, x ∈ ps.getD k []
  cross : ∀ j k x y, x ∈ ps.getD j [] → y ∈ ps.getD k [] → x < y → rd l x < rd l y → j < k
  back0 : ∀ x, x ∈ ps.getD 0 [] → rd ah x = -1
  back : ∀ k x, x ∈ ps.getD (k + 1) [] → rd ah x ∈ ps.getD k [] ∧ rd ah x < x ∧ rd l (rd ah x) < rd l x ∧ ∀ y, y ∈ ps.getD k [] → y < x → y ≤ rd ah x
  one : ∀ j k x, x ∈ ps.getD j [] → x ∈ ps.getD k [] → j = k

theorem mem_lt {ps : List (List Int)} {k : Nat} {x : Int} (h : x ∈ ps.getD k []) : k < ps.length := by
  rcases Nat.lt_or_ge k ps.length with hk | hk
  · exact hk
  · rw [List.getD_eq_getElem?_getD, List.getElem?_eq_none hk] at h; simp at h

theorem Pat.nonempty {l : List Int} {i : Nat} {ps : List (List Int)} {ah : List Int} (h : Pat l i ps ah) {k : Nat} (hk : k < ps.length) : 0 < (ps.getD k []).length := by
  have hm : ps.getD k [] ∈ ps := by rw [List.getD_eq_getElem?_getD, List.getElem?_eq_getElem hk]; exact List.getElem_mem _
  exact (h.inv.pile _ hm).1
theorem Pat.range {l : List Int} {i : Nat} {ps : List (List Int)} {ah : List Int} (h : Pat l i ps ah) {k : Nat} {x : Int} (hx : x ∈ ps.getD k []) : 0 ≤ x ∧ x < i := by
  have hk := mem_lt hx
  have hm : ps.getD k [] ∈ ps := by rw [List.getD_eq_getElem?_getD, List.getElem?_eq_getElem hk]; exact List.getElem_mem _
  exact (h.inv.pile _ hm).2.2 x hx
theorem Pat.top {l : List Int} {i : Nat} {ps : List (List Int)} {ah : List Int} (h : Pat l i ps ah) {k : Nat} {x : Int} (hx : x ∈ ps.getD k []) : x ≤ topAt ps k ∧ rd l (topAt ps k) ≤ rd l x := by
  rw [topAt_eq (mem_lt hx)]
  exact (h.down k).last (h.nonempty (mem_lt hx)) x hx

/-- The halving finds the first pile whose top is not less. -/
theorem findL_first (l : List Int) (ps : List (List Int)) (n : Int) (ht : ∀ j k : Nat, j < k → k < ps.length → rd l (topAt ps j) < rd l (topAt ps k)) :
    ∀ (f : Nat) (lo hi : Nat), lo ≤ hi → hi ≤ ps.length → hi - lo ≤ f → (∀ j, j < lo → rd l (topAt ps j) < n) → (∀ j, hi ≤ j → j < ps.length → n ≤ rd l (topAt ps j)) →
      ∃ k : Nat, findL f l ps n lo hi = k ∧ k ≤ ps.length ∧ (∀ j, j < k → rd l (topAt ps j) < n) ∧ (∀ j, k ≤ j → j < ps.length → n ≤ rd l (topAt ps j)) := by
  intro f
  induction f with
  | zero =>
    intro lo hi h1 h2 h3 h4 h5
    obtain rfl : lo = hi := by omega
    exact ⟨lo, rfl, h2, h4, h5⟩
  | succ f ih =>
    intro lo hi h1 h2 h3 h4 h5
    rw [findL]
    by_cases hlt : (lo : Int) < hi
    · rw [if_pos hlt]
      have em : ((lo : Int) + hi) / 2 = (((lo + hi) / 2 : Nat) : Int) := by omega
      rw [em]
      have et : topOf ps (((lo + hi) / 2 : Nat) : Int) = topAt ps (((lo + hi) / 2 : Nat) : Int) := by
        unfold topAt; rw [if_neg (by omega), if_neg (by omega)]
      rw [et]
      split
      · rename_i hge
        refine ih lo ((lo + hi) / 2) (by omega) (by omega) (by omega) h4 (fun j hj hjl => ?_)
        rcases Nat.lt_or_ge ((lo + hi) / 2) j with h | h
        · have := ht _ _ h hjl; omega
        · obtain rfl : j = (lo + hi) / 2 := by omega
          exact hge
      · rename_i hge
        have e1 : (((lo + hi) / 2 : Nat) : Int) + 1 = (((lo + hi) / 2 + 1 : Nat) : Int) := by omega
        rw [e1]
        refine ih ((lo + hi) / 2 + 1) hi (by omega) h2 (by omega) (fun j hj => ?_) h5
        rcases Nat.lt_or_ge j ((lo + hi) / 2) with h | h
        · have := ht _ _ h (show (lo + hi) / 2 < ps.length by omega); omega
        · obtain rfl : j = (lo + hi) / 2 := by omega
          omega
    · rw [if_neg hlt]
      obtain rfl : lo = hi := by omega
      exact ⟨lo, rfl, h2, h4, h5⟩

theorem Pat.step {l : List Int} {i : Nat} {st : List (List Int) × List Int} (h : Pat l i st.1 st.2) (hi : i < l.length) : Pat l (i + 1) (playStep l st i).1 (playStep l st i).2 := by
  have hinv := h.inv.step hi
  by_cases hneg : rd l i < 0
  · have e : playStep l st i = st := by unfold playStep; rw [if_pos hneg]
    rw [e] at hinv ⊢
    refine { h with inv := hinv, all := fun x h0 h1 h2 => ?_ }
    by_cases hx : x = i
    · subst hx; omega
    · exact h.all x h0 (by omega) h2
  · obtain ⟨k, hk, hkl, hbelow, habove⟩ := findL_first l st.1 (rd l i) h.tops st.1.length 0 st.1.length (by omega) (by omega) (by omega) (fun j hj => by omega) (fun j hj hj2 => by omega)
    have e : playStep l st i = ((if (k : Int) = st.1.length then st.1 ++ [[]] else st.1).set k ((if (k : Int) = st.1.length then st.1 ++ [[]] else st.1).getD k [] ++ [(i : Int)]), st.2.set i (topAt st.1 (k - 1))) := by
      unfold playStep
      rw [if_neg hneg]
      simp only [show ((0 : Nat) : Int) = 0 from rfl] at hk
      rw [hk]
      rfl
    rw [e] at hinv ⊢
    have hg := getD_stepped st.1 k hkl (i : Int)
    generalize hps : (if (k : Int) = st.1.length then st.1 ++ [[]] else st.1).set k ((if (k : Int) = st.1.length then st.1 ++ [[]] else st.1).getD k [] ++ [(i : Int)]) = ps2 at hg hinv ⊢
    have hlen : ps2.length = if k = st.1.length then st.1.length + 1 else st.1.length := by
      rw [← hps, List.length_set]
      by_cases hc : k = st.1.length
      · rw [if_pos (by omega), if_pos hc]; simp
      · rw [if_neg (by omega), if_neg hc]
    clear hps
    have hmem : ∀ j x, x ∈ ps2.getD j [] ↔ x ∈ st.1.getD j [] ∨ (j = k ∧ x = i) := by
      intro j x
      rw [hg]
      split
      · rename_i hj; subst hj; simp
      · rename_i hj; simp [hj]
    have hold : ∀ j x, x ∈ st.1.getD j [] → 0 ≤ x ∧ x < i := fun j x hx => h.range hx
    have hah : ∀ j x, x ∈ st.1.getD j [] → rd (st.2.set i (topAt st.1 (k - 1))) x = rd st.2 x := fun j x hx => by
      have := hold j x hx
      rw [rd_set this.1, if_neg (by omega)]
    have hai : rd (st.2.set i (topAt st.1 ((k : Int) - 1))) i = topAt st.1 (k - 1) := by
      rw [rd_set (by omega), if_pos rfl, if_pos (by rw [h.inv.ahl]; exact hi)]
    have htop : ∀ j : Nat, j < ps2.length → topAt ps2 j = if j = k then (i : Int) else topAt st.1 j := by
      intro j hj
      rw [topAt_eq hj, hg]
      by_cases hjk : j = k
      · subst hjk
        rw [if_pos rfl, if_pos rfl]
        unfold rd
        rw [List.getD_eq_getElem?_getD, List.getElem?_append_right (by simp)]
        simp
      · rw [if_neg hjk, if_neg hjk, ← topAt_eq]
        split at hlen <;> omega
    show Pat l (i + 1) ps2 (st.2.set i (topAt st.1 (k - 1)))
    refine { inv := hinv, down := fun j => ?_, pos := fun j x hx => ?_, tops := fun a b hab hb => ?_, all := fun x h0 h1 h2 => ?_, cross := fun a b x y hx hy hxy hv => ?_, back0 := fun x hx => ?_, back := fun a x hx => ?_, one := fun a b x hx hy => ?_ }
    · rw [hg]
      split
      · rename_i hj
        subst hj
        refine List.pairwise_append.2 ⟨h.down j, by simp, fun x hx y hy => ?_⟩
        obtain rfl : y = i := by simpa using hy
        have h1 := h.range hx
        have h2 := h.top hx
        have h3 := habove j (Nat.le_refl _) (mem_lt hx)
        exact ⟨h1.2, by omega⟩
      · exact h.down j
    · rcases (hmem j x).1 hx with hx | ⟨_, rfl⟩
      · exact h.pos j x hx
      · omega
    · rw [htop a (by omega), htop b hb]
      have hbl : b ≠ k → b < st.1.length := fun hbk => by split at hlen <;> omega
      by_cases hbk : b = k
      · rw [if_pos hbk, if_neg (by omega)]
        exact hbelow a (by omega)
      · rw [if_neg hbk]
        by_cases hak : a = k
        · rw [if_pos hak]
          have h1 := habove k (Nat.le_refl _) (by have := hbl hbk; omega)
          have h2 := h.tops k b (by omega) (hbl hbk)
          omega
        · rw [if_neg hak]
          exact h.tops a b hab (hbl hbk)
    · by_cases hx : x = i
      · exact ⟨k, (hmem k x).2 (.inr ⟨rfl, hx⟩)⟩
      · obtain ⟨j, hj⟩ := h.all x h0 (by omega) h2
        exact ⟨j, (hmem j x).2 (.inl hj)⟩
    · rcases (hmem b y).1 hy with hy | ⟨rfl, rfl⟩
      · rcases (hmem a x).1 hx with hx | ⟨_, rfl⟩
        · exact h.cross a b x y hx hy hxy hv
        · have := hold b y hy; omega
      · rcases (hmem a x).1 hx with hx | ⟨_, rfl⟩
        · rcases Nat.lt_or_ge a b with hab | hab
          · exact hab
          · have h1 := habove a hab (mem_lt hx)
            have h2 := h.top hx
            omega
        · omega
    · rcases (hmem 0 x).1 hx with hx | ⟨hk0, rfl⟩
      · rw [hah 0 x hx]; exact h.back0 x hx
      · rw [hai, ← hk0]; rfl
    · rcases (hmem (a + 1) x).1 hx with hx | ⟨hk0, rfl⟩
      · rw [hah _ x hx]
        obtain ⟨b1, b2, b3, b4⟩ := h.back a x hx
        refine ⟨(hmem a _).2 (.inl b1), b2, b3, fun y hy hyx => ?_⟩
        rcases (hmem a y).1 hy with hy | ⟨_, rfl⟩
        · exact b4 y hy hyx
        · have := hold _ x hx; omega
      · rw [hai, ← hk0]
        have e1 : ((a + 1 : Nat) : Int) - 1 = (a : Int) := by omega
        rw [e1]
        have hal : a < st.1.length := by omega
        have hin : topAt st.1 a ∈ st.1.getD a [] := by rw [topAt_eq hal]; exact rd_last_mem _ (h.nonempty hal)
        refine ⟨(hmem a _).2 (.inl hin), (hold a _ hin).2, hbelow a (by omega), fun y hy hyx => ?_⟩
        rcases (hmem a y).1 hy with hy | ⟨h1, _⟩
        · exact (h.top hy).1
        · omega
    · rcases (hmem a x).1 hx with hx | ⟨h1, rfl⟩
      · rcases (hmem b x).1 hy with hy | ⟨_, rfl⟩
        · exact h.one a b x hx hy
        · have := hold a _ hx; omega
      · rcases (hmem b _).1 hy with hy | ⟨h2, _⟩
        · have := hold b _ hy; omega
        · omega

theorem playN_pat (l : List Int) : ∀ i, i ≤ l.length → Pat l i (playN l i).1 (playN l i).2
  | 0, _ => { inv := playN_inv l 0 (by omega), down := fun k => by simp [playN, Down], pos := fun k x hx => by simp [playN] at hx, tops := fun j k _ hk => by simp [playN] at hk,
              all := fun x h0 h1 => by omega, cross := fun j k x y hx => by simp [playN] at hx, back0 := fun x hx => by simp [playN] at hx, back := fun k x hx => by simp [playN] at hx, one := fun j k x hx => by simp [playN] at hx }
  | i + 1, h => (playN_pat l i (by omega)).step (by omega)
end Go.Proofs.Ytahjlbbliihgpaa.G
