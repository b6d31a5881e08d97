/-
  Printed by wip/Shallow.lean: functions of the program, read shallow; each is what its code does. No condition.
-/
import Derived.Test.YtgepcfcicngceaaGreatDoorN
set_option maxRecDepth 1000000
namespace Go.Proofs.YtgepcfcicngceaaGreatDoor
open Go.Eng
def M.bt.j3(d:Value)(c:List Value)(e:KL):QQ:=fun w K=>im (fun f=>iaT P T.bt d (gv c 1) w fun g w=>ldT P T.bk g w fun h w=>bK .lss T.bk 28 h (.int .i32 32) w fun a w=>ij (isB a false) (fun K'=>K' d w) w fun i w=>ij (isB a false) (fun K'=>K' (gv c 1) w) w fun j w=>ij (isB a false) (iaT P T.bt i j w) w fun l w=>ij (isB a false) (ldT P T.bk l w) w fun m w=>ij (isB a false) (bK .geq T.bk 34 m (.int .i32 127) w) w fun n w=>ij (isB a false) (fun K'=>K' n w) w fun b w=>ij (isB b true) (fun K'=>K' d w) w fun o w=>ij (isB b true) (fun K'=>K' (gv c 1) w) w fun p w=>ij (isB b true) (iaT P T.bt o p w) w fun q w=>ij (isB b true) (ldT P T.bk q w) w fun r w=>ij (isB b true) (bK .leq T.bk 40 r (.int .i32 159) w) w fun s w=>ij (isB a false) (jb b s bF w) w fun t w=>jb a bY t w fun u w=>il u (K (.int .i64 5) w) (f [(gv c 0)] w)) fun v w=>bK .add T.d 23 (gv c 1) i1 w fun x w=>e [(gv v 0),x] w
def M.bt.j0(d:Value)(e:List Value):QQ:=fun w K=>ik P F.ek [d] w fun b w=>exT P b 0 w fun c w=>exT P b 1 w fun f w=>im (fun g=>jo [(gv e 0),i0] w fun h a w=>im (fun i=>biT P .len #[T.bt] T.d [false] [c] w fun j w=>bT .lss T.d 19 21 (gv a 1) j w fun l w=>il l (i [] w) (g [(gv a 1),(gv a 0)] w)) fun p w=>M.bt.j3 c a h w K) fun m w=>im (fun n=>unT P .not f w fun o w=>il o (K (.int .i64 5) w) (n [(gv m 1)] w)) fun q w=>K i0 w
def M.bt(b:Value):QQ:=fun w K=>im (fun c=>biT P .len #[T.n] T.d [false] [b] w fun d w=>bK .lss T.d 7 d i1 w fun a w=>ij (isB a false) (fun K'=>K' b w) w fun e w=>ij (isB a false) (biT P .len #[T.n] T.d [false] [e] w) w fun f w=>ij (isB a false) (bK .gtr T.d 11 f (.int .i64 32) w) w fun g w=>jb a bY g w fun h w=>il h (K (.int .i64 5) w) (c [i0] w)) fun i w=>M.bt.j0 b i w K
theorem M.bt.calls:C1 F.dj M.bt:=mk1 [0,2,3,4,5] pN Tryz.func75
theorem M.bt.fcall:fC F.dj:=fcN Tryz.func75
def M.cu.j2(a:List Value)(b:Value)(c:KL):QQ:=fun w K=>im (fun d=>iy P .mul T.d (.const (.int .i64 8)) (.tmp 11) (.int .i64 8) (gv a 1) w fun e w=>cvT P T.d T.bu e w fun f w=>iy P .shr T.a (.tmp 10) (.tmp 13) b f w fun g w=>iy P .and T.a (.tmp 14) (.const (.int .u64 255)) g (.int .u64 255) w fun h w=>cvT P T.a T.be h w fun i w=>bsT P T.t 1 #[(0,i)] w fun j w=>biT P .append #[T.t,T.t] T.t [false,false] [(gv a 0),j] w fun l w=>d [l] w) fun m w=>bK .sub T.d 7 (gv a 1) i1 w fun n w=>c [(gv m 0),n] w
def M.cu(b:Value):QQ:=fun w K=>im (fun c=>jo [nS,(.int .i64 7)] w fun d a w=>im (fun e=>bK .geq T.d 5 (gv a 1) i0 w fun f w=>il f (e [] w) (c [(gv a 1),(gv a 0)] w)) fun h w=>M.cu.j2 a b d w K) fun g w=>K (gv g 1) w
theorem M.cu.calls:C1 F.ei M.cu:=mk1 [0,2,3,4] pN Tryz.func76
theorem M.cu.fcall:fC F.ei:=fcN Tryz.func76
def M.em(b a:Value):QQ:=fun w K=>biT P .len #[T.n] T.d [false] [a] w fun c w=>cvT P T.d T.be c w fun d w=>bsT P T.t 1 #[(0,d)] w fun e w=>biT P .append #[T.t,T.t] T.t [false,false] [b,e] w fun f w=>biT P .append #[T.t,T.n] T.t [false,false] [f,a] w fun g w=>K g w
theorem M.em.calls:C2 F.dk M.em:=mk2 [0,1,4] pN Tryz.func77
theorem M.em.fcall:fC F.dk:=fcN Tryz.func77
end Go.Proofs.YtgepcfcicngceaaGreatDoor
