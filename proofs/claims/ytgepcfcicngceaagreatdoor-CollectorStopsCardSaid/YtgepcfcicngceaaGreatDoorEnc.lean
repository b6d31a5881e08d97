/-
  Bytes and members: their cells. No condition.
-/
import Derived.Test.YtgepcfcicngceaaGreatDoorZEngSl
namespace Go.Proofs.YtgepcfcicngceaaGreatDoor
open Go.Eng
def ack(x:Int):List Value:=[.int .u8 x]
theorem ny(x:Int):(ack x).length=1:=rfl
theorem zv(x:Int): ∀u∈ack x,kt u=true:=fun u hu=>by simp[ack] at hu;subst hu;rfl
structure Mem where
 id:Int
 inc:Int
 st:Int
 deriving DecidableEq
def acn(m:Mem):List Value:=[.int .u64 m.id,.int .u64 m.inc,.int .i64 m.st]
theorem yj(m:Mem):(acn m).length=3:=rfl
theorem bdd(m:Mem): ∀u∈acn m,kt u=true:=fun u hu=>by simp[acn] at hu;rcases hu with rfl|rfl|rfl <;>rfl
end Go.Proofs.YtgepcfcicngceaaGreatDoor
