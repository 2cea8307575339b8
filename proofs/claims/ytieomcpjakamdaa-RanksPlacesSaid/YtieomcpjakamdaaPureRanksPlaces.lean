/- Whether any numbers are an order, that order turned, the ranks of any numbers, and their places by rising numbers: for all lists. -/
import Derived.Test.YtieomcpjakamdaaGx3
import Derived.Test.YtieomcpjakamdaaPb
namespace Go.Proofs.Ytieomcpjakamdaa.Pure
open Go.RowKit Go.Proofs.Ytieomcpjakamdaa.G Go.Proofs.YtieomcpjakamdaaW.PrintWords Go.Proofs.YtieomcpjakamdaaW.PrintLast
set_option linter.unusedVariables false

theorem places_same (l0 l1 : List Int) : Ev (fun k => tendrillaw05_RanksPlaces.j0 k l0 l1 true) true :=
  same_ev.via (Ev.pure _) (fun k hk => by rw [tendrillaw05_RanksPlaces.j0, if_pos rfl, hk, Option.bind_some])
theorem is_both (p : List Int) (hp : p.length ≤ 10000000000) : ∃ b, Ev (fun k => ranks_Is.f k p) b ∧ Ev (fun k => tendrilref05_Is.f k p) b := by
  by_cases h : IsP p
  · exact ⟨true, (is_ev p (by omega)).1 h, (ref_is_ev p (by omega)).1 h⟩
  · exact ⟨false, (is_ev p (by omega)).2 h, (ref_is_ev p (by omega)).2 h⟩
theorem turn_both (p : List Int) (hp : p.length ≤ 10000000000) : ∃ t, t.length ≤ p.length ∧ Ev (fun k => ranks_Turn.f k p) t ∧ Ev (fun k => tendrilref05_Turn.f k p) t := by
  by_cases h : IsP p
  · obtain ⟨t, h1, h2⟩ := turn_ev p hp h
    obtain ⟨u, h3, h4⟩ := ref_turn_ev p hp h
    have e := Tu.uniq h h1 h3
    subst e
    exact ⟨t, by rw [h1.len]; exact Nat.le_refl _, h2, h4⟩
  · exact ⟨[], Nat.zero_le _, turn_no p hp h, ref_turn_no p hp h⟩
theorem places_main (l0 l1 : List Int) (h0 : l0.length ≤ 200) (h1 : l1.length ≤ 200) : Ev (fun k => tendrillaw05_RanksPlaces.j0 k l0 l1 false) true := by
  obtain ⟨b, a1, a2⟩ := is_both l0 (by omega)
  obtain ⟨t, ht, a3, a4⟩ := turn_both l0 (by omega)
  have a5 := ref_ranks_ev l1 (by omega)
  have a6 := ranks_ev l1 (by omega)
  have a7 := sorted_ev l1 (by omega)
  obtain ⟨u, hu, a8⟩ := ref_turn_ev (rks l1) (by rw [rks_len]; omega) (rks_isP l1)
  have e := Tu.uniq (rks_isP l1) hu (tu_rks l1)
  subst e
  obtain ⟨k1, b1⟩ := a1
  obtain ⟨k2, b2⟩ := a2
  obtain ⟨k3, b3⟩ := a3
  obtain ⟨k4, b4⟩ := a4
  obtain ⟨k5, b5⟩ := a5
  obtain ⟨k6, b6⟩ := a6
  obtain ⟨k8, b8⟩ := a8
  obtain ⟨k9, b9⟩ := ints_ev t (by omega)
  obtain ⟨k10, b10⟩ := ints_ev (rks l1) (by rw [rks_len]; omega)
  obtain ⟨k11, b11⟩ := ints_ev (sortedIx l1) (by rw [sortedIx_len]; omega)
  obtain ⟨k12, b12⟩ := same_ev
  refine ⟨k1 + k2 + k3 + k4 + k5 + k6 + k8 + k9 + k10 + k11 + k12 + 1, fun K hK => ?_⟩
  obtain ⟨k, rfl⟩ : ∃ k, K = k + 1 := ⟨K - 1, by omega⟩
  dsimp only at b1 b2 b3 b4 b5 b6 b8 b9 b10 b11 b12 ⊢
  rw [tendrillaw05_RanksPlaces.j0, if_neg (by decide), b5 k (by omega), Option.bind_some, b1 k (by omega), Option.bind_some, b2 k (by omega), Option.bind_some, if_pos (by simp), b3 k (by omega), Option.bind_some, b4 k (by omega), Option.bind_some,
    b9 k (by omega), Option.bind_some, if_pos rfl, b6 k (by omega), Option.bind_some, b10 k (by omega), Option.bind_some, if_pos rfl, a7, Option.bind_some, b8 k (by omega), Option.bind_some, b11 k (by omega), Option.bind_some, if_pos rfl, b12 k (by omega), Option.bind_some]
theorem RanksPlaces : ∀ (l0 l1 : List Int), (l0.length * 8 ≤ 140737488351232 ∧ ∀ y ∈ l0, (Lit.int .i64 y).wf = true) → (l1.length * 8 ≤ 140737488351232 ∧ ∀ y ∈ l1, (Lit.int .i64 y).wf = true) → ∃ k, tendrillaw05_RanksPlaces.f k l0 l1 = some true := by
  intro l0 l1 _ _
  by_cases h0 : (l0.length : Int) > 200
  · obtain ⟨k, hk⟩ := (places_same l0 l1).ex
    exact ⟨k, by rw [tendrillaw05_RanksPlaces.f, if_pos h0]; exact hk⟩
  · by_cases h1 : (l1.length : Int) > 200
    · obtain ⟨k, hk⟩ := (places_same l0 l1).ex
      exact ⟨k, by rw [tendrillaw05_RanksPlaces.f, if_neg h0, decide_eq_true h1]; exact hk⟩
    · obtain ⟨k, hk⟩ := (places_main l0 l1 (by omega) (by omega)).ex
      exact ⟨k, by rw [tendrillaw05_RanksPlaces.f, if_neg h0, decide_eq_false h1]; exact hk⟩

end Go.Proofs.Ytieomcpjakamdaa.Pure
