/-
  Printed by wip/Shallow.lean: functions of the program, read shallow; each is what its code does. No condition.
-/
import Derived.Test.YtgepcfcicngceaaGreatDoorN
set_option maxRecDepth 1000000
namespace Go.Proofs.YtgepcfcicngceaaGreatDoor
open Go.Eng
def M.ak.j2(c:Value)(a:List Value)(d:Value)(e:KL):QQ:=fun w K=>ij (fun f=>iaT P T.h c (gv a 2) w fun g w=>ldT P T.a g w fun h w=>ku P d [h] w fun i w=>ii i (K (gv a 2) w) (f [(gv a 2),(gv a 1)] w)) fun b w=>bK .add T.d 8 (gv a 2) i1 w fun j w=>e [(gv b 0),(gv b 1),j] w
def M.ak(b d:Value):QQ:=fun w K=>ij (fun e=>biT P .len #[T.h] T.d [false] [b] w fun c w=>jm [undef,i0,i0] w fun f a w=>bT .lss T.d 8 7 (gv a 2) c w fun g w=>ij (fun h=>ii g (h [] w) (e [c,(gv a 2),(gv a 0),(gv a 1)] w)) fun i w=>M.ak.j2 b a d f w K) fun j w=>K (.int .i64 (-1)) w
theorem M.ak.calls:C2 F.ck M.ak:=mk2 [0,1,4,5,8,7] pN Tryz.func212
theorem M.ak.fcall:fC F.ck:=fcN Tryz.func212
end Go.Proofs.YtgepcfcicngceaaGreatDoor
