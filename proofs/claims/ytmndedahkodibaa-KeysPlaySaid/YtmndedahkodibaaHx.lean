/- The printed texts that the hand-walked ones lean on. -/
import Derived.Test.YtmndedahkodibaaGx0
import Derived.Test.YtmndedahkodibaaGx1
import Derived.Test.YtmndedahkodibaaGx2
import Derived.Test.YtmndedahkodibaaGx3
import Derived.Test.YtmndedahkodibaaGx4
import Derived.Test.YtmndedahkodibaaGx5
