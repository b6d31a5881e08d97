/-
  Bytes and members: their cells. No condition.
-/
import Derived.Test.YtgepcfcicngceaaGreatDoorZEngSl
namespace Go.Proofs.YtgepcfcicngceaaGreatDoor
open Go.Eng
def ww(x:Int):List Value:=[.int .u8 x]
theorem oh(x:Int):(ww x).length=1:=rfl
theorem aad(x:Int): ∀u∈ww x,kw u=true:=fun u hu=>by simp[ww] at hu;subst hu;rfl
structure Mem where
 id:Int
 inc:Int
 st:Int
 deriving DecidableEq
def acw(m:Mem):List Value:=[.int .u64 m.id,.int .u64 m.inc,.int .i64 m.st]
theorem yo(m:Mem):(acw m).length=3:=rfl
theorem bci(m:Mem): ∀u∈acw m,kw u=true:=fun u hu=>by simp[acw] at hu;rcases hu with rfl|rfl|rfl <;>rfl
end Go.Proofs.YtgepcfcicngceaaGreatDoor
