/-
  The readings, together. No condition.
-/
import Derived.Test.YtfnhoaemapheoaaGreatM0
import Derived.Test.YtfnhoaemapheoaaGreatM1
import Derived.Test.YtfnhoaemapheoaaGreatM2
import Derived.Test.YtfnhoaemapheoaaGreatM3
import Derived.Test.YtfnhoaemapheoaaGreatM4
import Derived.Test.YtfnhoaemapheoaaGreatM5
import Derived.Test.YtfnhoaemapheoaaGreatM6
import Derived.Test.YtfnhoaemapheoaaGreatM7
import Derived.Test.YtfnhoaemapheoaaGreatM8
import Derived.Test.YtfnhoaemapheoaaGreatM9
import Derived.Test.YtfnhoaemapheoaaGreatM10
import Derived.Test.YtfnhoaemapheoaaGreatM11
import Derived.Test.YtfnhoaemapheoaaGreatM12
import Derived.Test.YtfnhoaemapheoaaGreatM13
import Derived.Test.YtfnhoaemapheoaaGreatM14
import Derived.Test.YtfnhoaemapheoaaGreatM15
import Derived.Test.YtfnhoaemapheoaaGreatM16

