/- The pure side of the law KeysOf: it holds for any labels. -/
import Derived.Test.YtmndedahkodibaaH19
import Derived.Test.YtmndedahkodibaaOpk
namespace Go.Proofs.Ytmndedahkodibaa.Pure
open Go.RowKit Go.Proofs.Ytmndedahkodibaa.G Go.Proofs.YtmndedahkodibaaW.PrintWords Go.Proofs.YtmndedahkodibaaW.PrintLast

theorem KeysOf : ∀ (x0 : List (S28)), (x0.length * 40 ≤ 140737488351232 ∧ ∀ y ∈ x0, Sm28 y) → tendrillaw07_KeysOf.f x0 = some true := by
  intro x0 _
  rfl

end Go.Proofs.Ytmndedahkodibaa.Pure
