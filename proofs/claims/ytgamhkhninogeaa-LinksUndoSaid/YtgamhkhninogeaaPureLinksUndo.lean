/- The pure side of the law LinksUndo: it holds for any acts. -/
import Derived.Test.YtgamhkhninogeaaH14
import Derived.Test.YtgamhkhninogeaaOpk
namespace Go.Proofs.Ytgamhkhninogeaa.Pure
open Go.RowKit Go.Proofs.Ytgamhkhninogeaa.G Go.Proofs.YtgamhkhninogeaaW.PrintWords Go.Proofs.YtgamhkhninogeaaW.PrintLast

theorem LinksUndo : ∀ (x0 : Int) (x1 : List (S39)) (x2 : S39), (Lit.int .i64 x0).wf = true → (x1.length * 32 ≤ 140737488351232 ∧ ∀ y ∈ x1, Sm39 y) → Sm39 x2 → tendrillaw19_LinksUndo.f x0 x1 x2.f0 x2.f1 x2.f2 x2.f3 = some true := by
  intros
  rfl

end Go.Proofs.Ytgamhkhninogeaa.Pure
