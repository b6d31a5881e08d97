/-
  Bytes and members: their cells. No condition.
-/
import Derived.Test.YtgepcfcicngceaaGreatDoorZEngSl
namespace Go.Proofs.YtgepcfcicngceaaGreatDoor
open Go.Eng
def aim(x:Int):List Value:=[.int .u8 x]
theorem pc(x:Int):(aim x).length=1:=rfl
theorem zl(x:Int): ∀u∈aim x,kq u=true:=fun u hu=>by simp[aim] at hu;subst hu;rfl
structure Mem where
 id:Int
 inc:Int
 st:Int
 deriving DecidableEq
def yg(m:Mem):List Value:=[.int .u64 m.id,.int .u64 m.inc,.int .i64 m.st]
theorem xw(m:Mem):(yg m).length=3:=rfl
theorem bdi(m:Mem): ∀u∈yg m,kq u=true:=fun u hu=>by simp[yg] at hu;rcases hu with rfl|rfl|rfl <;>rfl
end Go.Proofs.YtgepcfcicngceaaGreatDoor
