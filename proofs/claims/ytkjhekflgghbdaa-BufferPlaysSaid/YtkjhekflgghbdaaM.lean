/-
  The readings, together. No condition.
-/
import Derived.Test.YtkjhekflgghbdaaM0
import Derived.Test.YtkjhekflgghbdaaM1
import Derived.Test.YtkjhekflgghbdaaM2
import Derived.Test.YtkjhekflgghbdaaM3

