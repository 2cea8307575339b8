-- Written by gp.py (wip/gen) for this claim: pure functions and contracts, out of the translation; not trusted: Lean checks it.
import Derived.Test.YtcebfldagnjddaaGx0
import Derived.Test.YtcebfldagnjddaaGx1
import Derived.Test.YtcebfldagnjddaaGx2
import Derived.Test.YtcebfldagnjddaaGx3
import Derived.Test.YtcebfldagnjddaaGx4
import Derived.Test.YtcebfldagnjddaaGx5
import Derived.Test.YtcebfldagnjddaaGx6
import Derived.Test.YtcebfldagnjddaaGx7
import Derived.Test.YtcebfldagnjddaaGx8
import Derived.Test.YtcebfldagnjddaaGx9
import Derived.Test.YtcebfldagnjddaaGx10
import Derived.Test.YtcebfldagnjddaaGx11
import Derived.Test.YtcebfldagnjddaaGx12
import Derived.Test.YtcebfldagnjddaaGx13
namespace Go.Proofs.Ytcebfldagnjddaa.G
open Go.RowKit Go.Proofs.YtcebfldagnjddaaW.PrintWords Go.Proofs.YtcebfldagnjddaaW.PrintLast Go.Proofs.YtcebfldagnjddaaW.PrintMore
attribute [local go_sem] max2_int min2_int max_two min_two max_three min_three max_four min_four   -- for this text's walks alone
set_option linter.unusedVariables false
set_option linter.unusedSimpArgs false
end Go.Proofs.Ytcebfldagnjddaa.G
