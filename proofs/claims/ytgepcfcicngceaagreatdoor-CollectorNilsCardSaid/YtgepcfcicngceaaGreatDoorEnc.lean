/-
  Bytes and members: their cells. No condition.
-/
import Derived.Test.YtgepcfcicngceaaGreatDoorZEngSl
namespace Go.Proofs.YtgepcfcicngceaaGreatDoor
open Go.Eng
def aii (x : Int) : List Value := [.int .u8 x]
theorem pd (x : Int) : (aii x).length = 1 := rfl
theorem zp (x : Int) : ∀ u ∈ aii x, kq u = true := fun u hu => by simp [aii] at hu; subst hu; rfl
structure Mem where
 id : Int
 inc : Int
 st : Int
 deriving DecidableEq
def yf (m : Mem) : List Value := [.int .u64 m.id, .int .u64 m.inc, .int .i64 m.st]
theorem xz (m : Mem) : (yf m).length = 3 := rfl
theorem bdu (m : Mem) : ∀ u ∈ yf m, kq u = true := fun u hu => by simp [yf] at hu; rcases hu with rfl | rfl | rfl <;> rfl
end Go.Proofs.YtgepcfcicngceaaGreatDoor
