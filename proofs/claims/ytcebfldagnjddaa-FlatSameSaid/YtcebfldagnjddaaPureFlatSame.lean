import Derived.Test.YtcebfldagnjddaaOpk
import Derived.Test.YtcebfldagnjddaaPf
namespace Go.Proofs.Ytcebfldagnjddaa.Pure
open Go.RowKit Go.Proofs.Ytcebfldagnjddaa.G Go.Proofs.YtcebfldagnjddaaW.PrintWords Go.Proofs.YtcebfldagnjddaaW.PrintLast

theorem FlatSame : ∀ (x0 : List (S53)) (x1 : List (S53)), (x0.length * 88 ≤ 140737488351232 ∧ ∀ y ∈ x0, Sm53 y) → (x1.length * 88 ≤ 140737488351232 ∧ ∀ y ∈ x1, Sm53 y) → ∃ k, tendrillaw13_FlatSame.f k x0 x1 = some true := by
  intro x0 x1 h0 h1
  obtain ⟨b0, hb0, _⟩ := fewR x0 h0.1 h0.2 400 (by decide) (by decide)
  obtain ⟨b1, hb1, _⟩ := fewR x1 h1.1 h1.2 400 (by decide) (by decide)
  have jt : Ev (fun k => tendrillaw13_FlatSame.j0 k x0 x1 true) true := same_ev.via (Ev.pure true) (fun k hk => by rw [tendrillaw13_FlatSame.j0, if_pos rfl, hk]; rfl)
  have jf : Ev (fun k => tendrillaw13_FlatSame.j0 k x0 x1 false) true := by
    have e1 := flatSame_ev x0 x1 h0.1 h0.2
    have e2 := shapes_ev x0 x1 h0.1 h0.2
    have e3 := flatSame_ev x0 x0 h0.1 h0.2
    rw [rowsEq_refl] at e3
    have E : Ev (fun k => (flat_Same.f k x0 x1).bind fun t454 => ((tendrilplain_Shapes.f k x0 x1).bind fun t455 => (if (t454 == t455) = true then ((flat_Same.f k x0 x0).bind fun t456 => (if t456 = true then ((tendrillaw13_same.f k).bind fun t457 => (some t457)) else (some false))) else (some false)))) true := by
      refine Ev.bind e1 (Ev.bind e2 ?_)
      refine Ev.eq (g := fun k => ((flat_Same.f k x0 x0).bind fun t456 => (if t456 = true then ((tendrillaw13_same.f k).bind fun t457 => (some t457)) else (some false)))) (Ev.bind e3 ?_) (fun k => by rw [if_pos (beq_self_eq_true _)])
      exact (Ev.bind same_ev (Ev.pure true)).eq (fun k => by rw [if_pos rfl])
    exact E.step (fun k => by rw [tendrillaw13_FlatSame.j0, if_neg (by decide)])
  unfold tendrillaw13_FlatSame.f
  refine Ev.ex (r := true) (Ev.bind hb0 ?_)
  cases b0
  · exact jt.eq (fun k => by rw [if_neg (by decide)])
  · refine (Ev.bind hb1 (r := true) ?_).eq (fun k => by rw [if_pos rfl])
    cases b1
    · exact jt
    · exact jf
end Go.Proofs.Ytcebfldagnjddaa.Pure
