/-
  Bytes and members: their cells. No condition.
-/
import Derived.Test.YtgepcfcicngceaaGreatDoorZEngSl
namespace Go.Proofs.YtgepcfcicngceaaGreatDoor
open Go.Eng
def aej(x:Int):List Value:=[.int .u8 x]
theorem pe(x:Int):(aej x).length=1:=rfl
theorem abw(x:Int): ∀u∈aej x,lc u=true:=fun u hu=>by simp[aej] at hu;subst hu;rfl
structure Mem where
 id:Int
 inc:Int
 st:Int
 deriving DecidableEq
def xf(m:Mem):List Value:=[.int .u64 m.id,.int .u64 m.inc,.int .i64 m.st]
theorem pd(m:Mem):(xf m).length=3:=rfl
theorem alu(m:Mem): ∀u∈xf m,lc u=true:=fun u hu=>by simp[xf] at hu;rcases hu with rfl|rfl|rfl <;>rfl
end Go.Proofs.YtgepcfcicngceaaGreatDoor
