/- For any list and any list of places of it (if both are short): if the places are an increasing choice, they are at most as many as Length tells; and the fixed example holds. -/
import Derived.Test.YtahjlbbliihgpaaGx2
import Derived.Test.YtahjlbbliihgpaaH7
namespace Go.Proofs.Ytahjlbbliihgpaa.Pure
open Go.RowKit Go.Proofs.Ytahjlbbliihgpaa.G Go.Proofs.YtahjlbbliihgpaaW.PrintWords Go.Proofs.YtahjlbbliihgpaaW.PrintLast

theorem w1 {i : Int} (h0 : 0 ≤ i) (h : i ≤ 1000000) : wrap64 (i + 1) = i + 1 := by unfold wrap64; omega
theorem w0 {i : Int} (h0 : 0 < i) (h : i ≤ 1000000) : wrap64 (i - 1) = i - 1 := by unfold wrap64; omega

theorem same_true : tendrillaw06_same.f 20 = some true := by decide +kernel

/-- Place j of the choice is right. -/
def StepOk (l at_ : List Int) (j : Int) : Prop :=
  0 ≤ rd at_ j ∧ rd at_ j < l.length ∧ 0 ≤ rd l (rd at_ j) ∧ (0 < j → rd at_ (j - 1) < rd at_ j ∧ rd l (rd at_ (j - 1)) < rd l (rd at_ j))
/-- An increasing choice. -/
def Choice (l at_ : List Int) : Prop := ∀ j : Int, 0 ≤ j → j < at_.length → StepOk l at_ j

theorem rising_l0 (l at_ : List Int) (hn : at_.length ≤ 1000000) (d : Nat) : ∀ (k : Nat) (i : Int), 0 ≤ i → (at_.length : Int) - i = d → 2 * d < k →
    (0 < i → 0 ≤ rd at_ (i - 1) ∧ rd at_ (i - 1) < l.length) →
    ∃ b, tendrilref06_Rising.l0 k l at_ at_.length i = some b ∧ (b = true ↔ ∀ j : Int, i ≤ j → j < at_.length → StepOk l at_ j) := by
  induction d with
  | zero =>
    intro k i h0 hd hk hp
    obtain ⟨k, rfl⟩ : ∃ m, k = m + 1 := ⟨k - 1, by omega⟩
    exact ⟨true, by rw [tendrilref06_Rising.l0, if_neg (by omega)], by simp; intro j h1 h2; omega⟩
  | succ d ih =>
    intro k i h0 hd hk hp
    obtain ⟨k, rfl⟩ : ∃ m, k = m + 2 := ⟨k - 2, by omega⟩
    have hlt : i < (at_.length : Int) := by omega
    rw [tendrilref06_Rising.l0, if_pos hlt, if_pos h0, if_pos hlt]
    have bad : ¬ StepOk l at_ i → (∃ b, some false = some b ∧ (b = true ↔ ∀ j : Int, i ≤ j → j < at_.length → StepOk l at_ j)) := fun hb => ⟨false, rfl, by simp; exact ⟨i, by omega, hlt, hb⟩⟩
    by_cases c1 : rd at_ i < 0
    · rw [if_pos c1, tendrilref06_Rising.j1, if_pos rfl]
      exact bad (fun h => by have := h.1; omega)
    rw [if_neg c1]
    by_cases c2 : rd at_ i ≥ (l.length : Int)
    · rw [if_pos c2, tendrilref06_Rising.j1, if_pos rfl]
      exact bad (fun h => by have := h.2.1; omega)
    rw [if_neg c2, if_pos (by omega), if_pos (by omega), tendrilref06_Rising.j1]
    by_cases c3 : rd l (rd at_ i) < 0
    · rw [if_pos (decide_eq_true c3)]
      exact bad (fun h => by have := h.2.2.1; omega)
    rw [if_neg (by simpa using c3)]
    by_cases c4 : i > 0
    · rw [if_pos c4, if_pos h0, if_pos hlt, w0 c4 (by omega), if_pos (by omega), if_pos (by omega)]
      by_cases c5 : rd at_ i ≤ rd at_ (i - 1)
      · rw [if_pos c5]
        exact bad (fun h => by have := (h.2.2.2 c4).1; omega)
      rw [if_neg c5, if_pos (by omega), if_pos (by omega), if_pos (hp c4).1, if_pos (hp c4).2]
      by_cases c6 : rd l (rd at_ i) ≤ rd l (rd at_ (i - 1))
      · rw [if_pos c6]
        exact bad (fun h => by have := (h.2.2.2 c4).2; omega)
      rw [if_neg c6, w1 h0 (by omega)]
      obtain ⟨b, hb, hbi⟩ := ih k (i + 1) (by omega) (by omega) (by omega) (fun _ => by rw [show i + 1 - 1 = i by omega]; omega)
      refine ⟨b, hb, hbi.trans ⟨fun h j h1 h2 => ?_, fun h j h1 h2 => h j (by omega) h2⟩⟩
      by_cases hj : j = i
      · subst hj; exact ⟨by omega, by omega, by omega, fun _ => ⟨by omega, by omega⟩⟩
      · exact h j (by omega) h2
    · rw [if_neg c4, w1 h0 (by omega)]
      obtain ⟨b, hb, hbi⟩ := ih k (i + 1) (by omega) (by omega) (by omega) (fun _ => by rw [show i + 1 - 1 = i by omega]; omega)
      refine ⟨b, hb, hbi.trans ⟨fun h j h1 h2 => ?_, fun h j h1 h2 => h j (by omega) h2⟩⟩
      by_cases hj : j = i
      · subst hj; exact ⟨by omega, by omega, by omega, fun h => absurd h c4⟩
      · exact h j (by omega) h2

theorem rising_f (l at_ : List Int) (hn : at_.length ≤ 1000000) : ∃ b, tendrilref06_Rising.f (2 * at_.length + 1) l at_ = some b ∧ (b = true ↔ Choice l at_) := by
  obtain ⟨b, hb, hi⟩ := rising_l0 l at_ hn at_.length (2 * at_.length + 1) 0 (by omega) (by omega) (by omega) (fun h => by omega)
  exact ⟨b, hb, hi⟩

/-- Along an increasing choice the piles rise. -/
theorem choice_le {l at_ : List Int} (h : Choice l at_) : at_.length ≤ (pilesOf l).length := by
  have hp := playN_pat l l.length (Nat.le_refl _)
  have key : ∀ j : Nat, j < at_.length → ∃ k, j ≤ k ∧ rd at_ j ∈ (pilesOf l).getD k [] := by
    intro j
    induction j with
    | zero =>
      intro hj
      obtain ⟨a, b, c, _⟩ := h 0 (by omega) (by omega)
      obtain ⟨k, hk⟩ := hp.all _ a b c
      exact ⟨k, by omega, hk⟩
    | succ j ih =>
      intro hj
      obtain ⟨k, hk, hm⟩ := ih (by omega)
      obtain ⟨a, b, c, d⟩ := h ((j + 1 : Nat) : Int) (by omega) (by omega)
      obtain ⟨k2, hk2⟩ := hp.all _ a b c
      have e : (((j + 1 : Nat) : Int) - 1) = (j : Int) := by omega
      rw [e] at d
      have := hp.cross k k2 _ _ hm hk2 (d (by omega)).1 (d (by omega)).2
      exact ⟨k2, by omega, hk2⟩
  rcases Nat.eq_zero_or_pos at_.length with h0 | h0
  · omega
  · obtain ⟨k, hk, hm⟩ := key (at_.length - 1) (by omega)
    have := mem_lt hm
    omega

theorem LisAny : tendrillaw06_LisAny.Pure := by
  intro l at_ h1 h2 h3 h4 h5 h6
  refine ⟨2 * at_.length + 21 + 1, ?_⟩
  have hs : tendrillaw06_same.f (2 * at_.length + 21) = some true := at_rounds tendrillaw06_same.mono (by omega) same_true
  have ht : tendrillaw06_LisAny.j0 (2 * at_.length + 21 + 1) l at_ true = some true := by
    rw [tendrillaw06_LisAny.j0, if_pos rfl, hs]; rfl
  unfold tendrillaw06_LisAny.f
  by_cases c1 : (l.length : Int) > 300
  · rw [if_pos c1, ht]
  rw [if_neg c1]
  by_cases c2 : (at_.length : Int) > 300
  · rw [decide_eq_true c2, ht]
  rw [decide_eq_false c2, tendrillaw06_LisAny.j0, if_neg (by simp)]
  obtain ⟨b, hb, hi⟩ := rising_f l at_ (by omega)
  rw [at_rounds (tendrilref06_Rising.mono _ _) (show 2 * at_.length + 1 ≤ 2 * at_.length + 21 by omega) hb]
  simp only [Option.bind_some]
  cases b with
  | false => rw [if_neg (by simp), hs]; rfl
  | true =>
    have hc := choice_le (hi.1 rfl)
    have hl : lis_Length.f l = some ((pilesOf l).length : Int) := by unfold lis_Length.f; rw [if_pos (by omega)]
    rw [if_pos rfl, hl]
    simp only [Option.bind_some]
    rw [if_pos (by omega), hs]
    rfl

end Go.Proofs.Ytahjlbbliihgpaa.Pure
