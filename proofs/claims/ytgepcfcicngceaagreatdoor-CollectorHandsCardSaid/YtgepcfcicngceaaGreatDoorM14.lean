/-
  Printed by wip/Shallow.lean: functions of the program, read shallow; each is what its code does. No condition.
-/
import Derived.Test.YtgepcfcicngceaaGreatDoorN
set_option maxRecDepth 1000000
namespace Go.Proofs.YtgepcfcicngceaaGreatDoor
open Go.Eng
def M.dk.j2(a b:Value)(c:List Value):QQ:=fun w K=>im (fun d=>bT .lss T.d 14 15 a b w fun e w=>il e (K (.int .i64 (-1)) w) (d [(gv c 0)] w)) fun f w=>im (fun g=>bT .gtr T.d 17 18 a b w fun h w=>il h (K i1 w) (g [(gv f 0)] w)) fun i w=>K i0 w
def M.dk(a b:Value):QQ:=fun w K=>ik P F.ff [a] w fun d w=>ik P F.ff [b] w fun c w=>im (fun e=>il d (im (fun f=>il c (K i0 w) (f [i0] w)) fun j w=>K (.int .i64 (-1)) w) (e [i0] w)) fun g w=>im (fun h=>il c (K i1 w) (h [(gv g 0)] w)) fun i w=>M.dk.j2 a b i w K
theorem M.dk.calls:C2 F.fo M.dk:=mk2 [0,1,4,5,6] pN Tryz.func210
theorem M.dk.fcall:fC F.fo:=fcN Tryz.func210
def M.v.j0(a c:Value)(d:KL):QQ:=fun w K=>nxT P a false T.cc w fun e w=>exT P e 0 w fun f w=>im (fun g=>il f (g [] w) (K (.tuple #[]) w)) fun l w=>enT P a w fun h w=>exT P h 0 w fun b w=>lh P c [b] w fun i w=>unT P .not i w fun j w=>il j (K (.tuple #[]) w) (d [b] w)
def M.v(a b:Value):QQ:=fun w K=>ldT P T.ak b w fun c w=>rgT P T.ak c w fun d w=>jo [undef] w fun e f w=>M.v.j0 d a e w K
theorem M.v.calls:C2 F.b M.v:=mk2 [0,1,3,5] pN Tryz.func211
def M.aq.j2(c:Value)(a:List Value)(d:Value)(e:KL):QQ:=fun w K=>im (fun f=>iaT P T.g c (gv a 2) w fun g w=>ldT P T.a g w fun h w=>lh P d [h] w fun i w=>il i (K (gv a 2) w) (f [(gv a 2),(gv a 1)] w)) fun b w=>bK .add T.d 8 (gv a 2) i1 w fun j w=>e [(gv b 0),(gv b 1),j] w
def M.aq(b d:Value):QQ:=fun w K=>im (fun e=>biT P .len #[T.g] T.d [false] [b] w fun c w=>jo [undef,i0,i0] w fun f a w=>bT .lss T.d 8 7 (gv a 2) c w fun g w=>im (fun h=>il g (h [] w) (e [c,(gv a 2),(gv a 0),(gv a 1)] w)) fun i w=>M.aq.j2 b a d f w K) fun j w=>K (.int .i64 (-1)) w
theorem M.aq.calls:C2 F.co M.aq:=mk2 [0,1,4,5,8,7] pN Tryz.func212
theorem M.aq.fcall:fC F.co:=fcN Tryz.func212
end Go.Proofs.YtgepcfcicngceaaGreatDoor
