/-
  Printed by wip/Shallow.lean: functions of the program, read shallow; each is what its code does. No condition.
-/
import Derived.Test.YtgepcfcicngceaaGreatDoorN
set_option maxRecDepth 1000000
namespace Go.Proofs.YtgepcfcicngceaaGreatDoor
open Go.Eng
def M.al.j2(c:Value)(a:List Value)(d:Value)(e:KL):QQ:=fun w K=>ii (fun f=>iaT P T.g c (gv a 2) w fun g w=>ldT P T.a g w fun h w=>ku P d [h] w fun i w=>ig i (K (gv a 2) w) (f [(gv a 2),(gv a 1)] w)) fun b w=>bK .add T.d 8 (gv a 2) i1 w fun j w=>e [(gv b 0),(gv b 1),j] w
def M.al(b d:Value):QQ:=fun w K=>ii (fun e=>biT P .len #[T.g] T.d [false] [b] w fun c w=>jl [undef,i0,i0] w fun f a w=>bT .lss T.d 8 7 (gv a 2) c w fun g w=>ii (fun h=>ig g (h [] w) (e [c,(gv a 2),(gv a 0),(gv a 1)] w)) fun i w=>M.al.j2 b a d f w K) fun j w=>K (.int .i64 (-1)) w
theorem M.al.calls:C2 F.cj M.al:=mk2 [0,1,4,5,8,7] pN Tryz.func212
theorem M.al.fcall:fC F.cj:=fcN Tryz.func212
end Go.Proofs.YtgepcfcicngceaaGreatDoor
