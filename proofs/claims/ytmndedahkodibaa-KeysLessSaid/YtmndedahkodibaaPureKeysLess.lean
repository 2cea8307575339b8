/- The pure side of the law KeysLess: it holds for all labels whose strings are at most 2^47 bytes long. -/
import Derived.Test.YtmndedahkodibaaH14
import Derived.Test.YtmndedahkodibaaOpk
namespace Go.Proofs.Ytmndedahkodibaa.Pure
open Go.RowKit Go.Proofs.Ytmndedahkodibaa.G Go.Proofs.YtmndedahkodibaaW.PrintWords Go.Proofs.YtmndedahkodibaaW.PrintLast

theorem KeysLess : ∀ (x0 : S28) (x1 : S28) (x2 : S28), Sm28 x0 → Sm28 x1 → Sm28 x2 → tendrillaw07_KeysLess.f x0.f0 x0.f1 x0.f2 x1.f0 x1.f1 x1.f2 x2.f0 x2.f1 x2.f2 = some true := by
  intro x0 x1 x2 h0 h1 h2
  unfold tendrillaw07_KeysLess.f
  rw [if_pos ⟨⟨h0.h0, h0.h1⟩, ⟨h1.h0, h1.h1⟩, h2.h0, h2.h1⟩]

end Go.Proofs.Ytmndedahkodibaa.Pure
