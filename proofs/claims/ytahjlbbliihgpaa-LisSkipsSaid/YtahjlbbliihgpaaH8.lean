import Derived.Test.YtahjlbbliihgpaaH7
/-! The plain law of the ends and of the chain. -/
namespace Go.Proofs.Ytahjlbbliihgpaa.G
open Go.RowKit Go.Proofs.YtahjlbbliihgpaaW.PrintWords

theorem endsIn_len (k : Int) : ∀ (p out : List Int), (endsIn k out p).length = out.length
  | [], out => rfl
  | x :: p, out => by rw [endsIn, endsIn_len k p, List.length_set]
theorem endsIn_rd (k : Int) : ∀ (p out : List Int) (x : Int), 0 ≤ x → (∀ y ∈ p, 0 ≤ y ∧ y < out.length) → rd (endsIn k out p) x = if x ∈ p then k + 1 else rd out x
  | [], out, x, h0, h => by simp [endsIn]
  | y :: p, out, x, h0, h => by
    obtain ⟨a, b⟩ := h y (by simp)
    rw [endsIn, endsIn_rd k p _ x h0 (fun z hz => by rw [List.length_set]; exact h z (by simp [hz])), rd_set h0]
    by_cases hx : x ∈ p
    · rw [if_pos hx, if_pos (by simp [hx])]
    · rw [if_neg hx]
      by_cases hxy : x = y
      · subst hxy
        rw [if_pos (by omega), if_pos (by omega), if_pos (by simp)]
      · rw [if_neg (by omega), if_neg (by simp [hx, hxy])]
theorem endsFrom_len : ∀ (ps : List (List Int)) (k : Nat) (out : List Int), (endsFrom k out ps).length = out.length
  | [], _, _ => rfl
  | p :: ps, k, out => by rw [endsFrom, endsFrom_len ps, endsIn_len]
theorem endsFrom_not : ∀ (ps : List (List Int)) (k : Nat) (out : List Int) (x : Int), 0 ≤ x → (∀ p ∈ ps, ∀ y ∈ p, 0 ≤ y ∧ y < out.length) → (∀ j, x ∉ ps.getD j []) → rd (endsFrom k out ps) x = rd out x
  | [], k, out, x, h0, h, hn => rfl
  | p :: ps, k, out, x, h0, h, hn => by
    rw [endsFrom, endsFrom_not ps (k + 1) _ x h0 (fun q hq y hy => by rw [endsIn_len]; exact h q (by simp [hq]) y hy) (fun j => by have := hn (j + 1); simpa using this),
      endsIn_rd _ _ _ _ h0 (fun y hy => h p (by simp) y hy), if_neg (by have := hn 0; simpa using this)]
theorem endsFrom_mem : ∀ (ps : List (List Int)) (k : Nat) (out : List Int) (x : Int) (j : Nat), 0 ≤ x → (∀ p ∈ ps, ∀ y ∈ p, 0 ≤ y ∧ y < out.length) → (∀ i j x, x ∈ ps.getD i [] → x ∈ ps.getD j [] → i = j) → x ∈ ps.getD j [] →
    rd (endsFrom k out ps) x = (k : Int) + j + 1
  | [], k, out, x, j, h0, h, h1, hx => by simp at hx
  | p :: ps, k, out, x, j, h0, h, h1, hx => by
    rw [endsFrom]
    cases j with
    | zero =>
      have hx0 : x ∈ p := by simpa using hx
      rw [endsFrom_not ps (k + 1) _ x h0 (fun q hq y hy => by rw [endsIn_len]; exact h q (by simp [hq]) y hy) (fun i hi => by have := h1 0 (i + 1) x (by simpa using hx0) (by simpa using hi); omega),
        endsIn_rd _ _ _ _ h0 (fun y hy => h p (by simp) y hy), if_pos hx0]
      simp
    | succ j =>
      rw [endsFrom_mem ps (k + 1) _ x j h0 (fun q hq y hy => by rw [endsIn_len]; exact h q (by simp [hq]) y hy) (fun a b y ha hb => by have := h1 (a + 1) (b + 1) y (by simpa using ha) (by simpa using hb); omega) (by simpa using hx)]
      omega

theorem pat (l : List Int) : Pat l l.length (pilesOf l) (playN l l.length).2 := playN_pat l l.length (Nat.le_refl _)

theorem ends_len (l : List Int) : (endsOf l).length = l.length := by unfold endsOf; rw [endsFrom_len]; simp
theorem piles_in (l : List Int) : ∀ p ∈ pilesOf l, ∀ y ∈ p, 0 ≤ y ∧ y < ((List.replicate l.length (0 : Int)).length : Int) := fun p hp y hy => by
  have := ((pat l).inv.pile p hp).2.2 y hy
  rw [List.length_replicate]
  exact this
theorem ends_mem {l : List Int} {k : Nat} {x : Int} (hx : x ∈ (pilesOf l).getD k []) : rd (endsOf l) x = (k : Int) + 1 := by
  unfold endsOf
  rw [endsFrom_mem _ 0 _ x k ((pat l).range hx).1 (piles_in l) (pat l).one hx]
  simp
theorem ends_neg {l : List Int} {x : Int} (h0 : 0 ≤ x) (hx : rd l x < 0) : rd (endsOf l) x = 0 := by
  unfold endsOf
  rw [endsFrom_not _ 0 _ x h0 (piles_in l) (fun j hj => by have := (pat l).pos j x hj; omega)]
  unfold rd
  rw [List.getD_eq_getElem?_getD, List.getElem?_replicate]
  split <;> rfl

/-- The chain goes from pile to pile. -/
theorem chain_mem {l : List Int} {i : Nat} {ps : List (List Int)} {ah : List Int} (h : Pat l i ps ah) : ∀ (n : Nat) (x : Int), (∀ m, n = m + 1 → x ∈ ps.getD m []) →
    ∀ j : Nat, j < n → rd (chainOf ah n x) j ∈ ps.getD j [] ∧ (j + 1 = n → rd (chainOf ah n x) j = x) ∧ (j + 1 < n → rd (chainOf ah n x) j = rd ah (rd (chainOf ah n x) ((j : Int) + 1)))
  | 0, _, _, _, hj => by omega
  | n + 1, x, hx, j, hj => by
    have hx0 := hx n rfl
    have ih := chain_mem h n (rd ah x) (fun m hm => by subst hm; exact (h.back m x hx0).1)
    have hl := chainOf_length ah n (rd ah x)
    obtain ⟨y, hy⟩ : ∃ y, rd ah x = y := ⟨_, rfl⟩
    rw [chainOf, hy]
    rw [hy] at ih hl
    have low : ∀ i : Nat, i < n → rd (chainOf ah n y ++ [x]) i = rd (chainOf ah n y) i := fun i hi => by
      unfold rd
      rw [List.getD_eq_getElem?_getD, List.getD_eq_getElem?_getD, List.getElem?_append_left (by omega)]
    have top : rd (chainOf ah n y ++ [x]) (n : Int) = x := by
      unfold rd
      rw [List.getD_eq_getElem?_getD, List.getElem?_append_right (by omega)]
      simp [hl]
    by_cases hjn : j = n
    · subst hjn
      rw [top]
      exact ⟨hx0, fun _ => rfl, fun h => by omega⟩
    · rw [low j (by omega)]
      obtain ⟨a, b, c⟩ := ih j (by omega)
      refine ⟨a, fun h => by omega, fun _ => ?_⟩
      by_cases hj1 : j + 1 = n
      · rw [show (j : Int) + 1 = (n : Int) by omega, top]
        rw [hy]; exact b hj1
      · rw [show (j : Int) + 1 = ((j + 1 : Nat) : Int) by omega, low (j + 1) (by omega)]
        have := c (by omega)
        rwa [show (j : Int) + 1 = ((j + 1 : Nat) : Int) by omega] at this

theorem longest_len (l : List Int) : (longestOf l).length = (pilesOf l).length := chainOf_length _ _ _
theorem longest_at (l : List Int) (j : Nat) (hj : j < (pilesOf l).length) : rd (longestOf l) j ∈ (pilesOf l).getD j [] ∧ (j + 1 = (pilesOf l).length → rd (longestOf l) j = topAt (pilesOf l) j) ∧
    (j + 1 < (pilesOf l).length → rd (longestOf l) j = rd (playN l l.length).2 (rd (longestOf l) ((j : Int) + 1))) := by
  obtain ⟨a, b, c⟩ := chain_mem (pat l) (pilesOf l).length (topAt (pilesOf l) ((pilesOf l).length - 1)) (fun m hm => by
    rw [hm, show ((m + 1 : Nat) : Int) - 1 = (m : Int) by omega, topAt_eq (by omega)]
    exact rd_last_mem _ ((pat l).nonempty (by omega))) j hj
  exact ⟨a, fun h => (b h).trans (by rw [show ((pilesOf l).length : Int) - 1 = (j : Int) by omega]), c⟩
end Go.Proofs.Ytahjlbbliihgpaa.G
