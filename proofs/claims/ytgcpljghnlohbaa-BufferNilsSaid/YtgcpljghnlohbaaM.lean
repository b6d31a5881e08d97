/-
  The readings, together. No condition.
-/
import Derived.Test.YtgcpljghnlohbaaM0
import Derived.Test.YtgcpljghnlohbaaM1
import Derived.Test.YtgcpljghnlohbaaM2
import Derived.Test.YtgcpljghnlohbaaM3
import Derived.Test.YtgcpljghnlohbaaM4
import Derived.Test.YtgcpljghnlohbaaM5
import Derived.Test.YtgcpljghnlohbaaM6
import Derived.Test.YtgcpljghnlohbaaM7
import Derived.Test.YtgcpljghnlohbaaM8
import Derived.Test.YtgcpljghnlohbaaM9
import Derived.Test.YtgcpljghnlohbaaM10
import Derived.Test.YtgcpljghnlohbaaM11
import Derived.Test.YtgcpljghnlohbaaM12
