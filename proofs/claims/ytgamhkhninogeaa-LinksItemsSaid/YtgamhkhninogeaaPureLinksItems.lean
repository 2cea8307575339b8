/- The pure side of the law LinksItems: it holds for any acts. -/
import Derived.Test.YtgamhkhninogeaaH18
import Derived.Test.YtgamhkhninogeaaOpk
namespace Go.Proofs.Ytgamhkhninogeaa.Pure
open Go.RowKit Go.Proofs.Ytgamhkhninogeaa.G Go.Proofs.YtgamhkhninogeaaW.PrintWords Go.Proofs.YtgamhkhninogeaaW.PrintLast

theorem LinksItems : ∀ (x0 : Int) (x1 : List (S39)), (Lit.int .i64 x0).wf = true → (x1.length * 32 ≤ 140737488351232 ∧ ∀ y ∈ x1, Sm39 y) → tendrillaw19_LinksItems.f x0 x1 = some true := by
  intros
  rfl

end Go.Proofs.Ytgamhkhninogeaa.Pure
