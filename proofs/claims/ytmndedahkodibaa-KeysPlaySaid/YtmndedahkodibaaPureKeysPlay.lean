/- The pure side of the law KeysPlay: it holds for any acts. -/
import Derived.Test.YtmndedahkodibaaH21
import Derived.Test.YtmndedahkodibaaOpk
namespace Go.Proofs.Ytmndedahkodibaa.Pure
open Go.RowKit Go.Proofs.Ytmndedahkodibaa.G Go.Proofs.YtmndedahkodibaaW.PrintWords Go.Proofs.YtmndedahkodibaaW.PrintLast

theorem KeysPlay : ∀ (x0 : Int) (x1 : List (S46)), (Lit.int .i64 x0).wf = true → (x1.length * 56 ≤ 140737488351232 ∧ ∀ y ∈ x1, Sm46 y) → tendrillaw07_KeysPlay.f x0 x1 = some true := by
  intros
  rfl

end Go.Proofs.Ytmndedahkodibaa.Pure
