import Derived.Test.YtmndedahkodibaaH12
import Derived.Test.YtmndedahkodibaaOpk
namespace Go.Proofs.Ytmndedahkodibaa.Pure
open Go.RowKit Go.Proofs.Ytmndedahkodibaa.G Go.Proofs.YtmndedahkodibaaW.PrintWords Go.Proofs.YtmndedahkodibaaW.PrintLast

theorem KeysMany : ∀ (x0 : Int) (x1 : Int), (Lit.int .i64 x0).wf = true → (Lit.int .i64 x1).wf = true → tendrillaw07_KeysMany.f x0 x1 = some true := by
  intro x0 x1 _ _
  rfl

end Go.Proofs.Ytmndedahkodibaa.Pure
