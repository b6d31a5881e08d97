/-
  The readings, together. No condition.
-/
import Derived.Test.YtgcpljghnlohbaaM0
import Derived.Test.YtgcpljghnlohbaaM1
import Derived.Test.YtgcpljghnlohbaaM2
import Derived.Test.YtgcpljghnlohbaaM3

