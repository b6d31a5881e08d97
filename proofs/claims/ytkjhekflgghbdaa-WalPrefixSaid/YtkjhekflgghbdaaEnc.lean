/-
  Bytes and members: their cells. No condition.
-/
import Derived.Test.YtkjhekflgghbdaaZEngSimp
namespace Go.Proofs.Ytkjhekflgghbdaa
open Go.Eng
def encB (x : Int) : List Value := [.int .u8 x]
theorem encB_len (x : Int) : (encB x).length = 1 := rfl
theorem encB_one (x : Int) : ∀ u ∈ encB x, oneC u = true := fun u hu => by simp [encB] at hu; subst hu; rfl
structure Mem where
  id : Int
  inc : Int
  st : Int
  deriving DecidableEq
def encM (m : Mem) : List Value := [.int .u64 m.id, .int .u64 m.inc, .int .i64 m.st]
theorem encM_len (m : Mem) : (encM m).length = 3 := rfl
theorem encM_one (m : Mem) : ∀ u ∈ encM m, oneC u = true := fun u hu => by simp [encM] at hu; rcases hu with rfl | rfl | rfl <;> rfl
end Go.Proofs.Ytkjhekflgghbdaa
