/-
  The readings, together. No condition.
-/
import Derived.Test.YtbcamfheaonbaaaM0
import Derived.Test.YtbcamfheaonbaaaM1
import Derived.Test.YtbcamfheaonbaaaM2
import Derived.Test.YtbcamfheaonbaaaM3

