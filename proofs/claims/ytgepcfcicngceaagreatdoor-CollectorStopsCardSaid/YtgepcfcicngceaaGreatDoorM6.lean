/-
  Printed by wip/Shallow.lean: functions of the program, read shallow; each is what its code does. No condition.
-/
import Derived.Test.YtgepcfcicngceaaGreatDoorN
set_option maxRecDepth 1000000
namespace Go.Proofs.YtgepcfcicngceaaGreatDoor
open Go.Eng
def M.bn.j3(d:Value)(c:List Value)(e:KL):QQ:=fun w K=>ii (fun f=>iaT P T.bq d (gv c 1) w fun g w=>ldT P T.bi g w fun h w=>bK .lss T.bi 28 h (.int .i32 32) w fun a w=>ic (isB a false) (fun K'=>K' d w) w fun i w=>ic (isB a false) (fun K'=>K' (gv c 1) w) w fun j w=>ic (isB a false) (iaT P T.bq i j w) w fun l w=>ic (isB a false) (ldT P T.bi l w) w fun m w=>ic (isB a false) (bK .geq T.bi 34 m (.int .i32 127) w) w fun n w=>ic (isB a false) (fun K'=>K' n w) w fun b w=>ic (isB b true) (fun K'=>K' d w) w fun o w=>ic (isB b true) (fun K'=>K' (gv c 1) w) w fun p w=>ic (isB b true) (iaT P T.bq o p w) w fun q w=>ic (isB b true) (ldT P T.bi q w) w fun r w=>ic (isB b true) (bK .leq T.bi 40 r (.int .i32 159) w) w fun s w=>ic (isB a false) (iu b s bF w) w fun t w=>iu a bY t w fun u w=>ig u (K (.int .i64 5) w) (f [(gv c 0)] w)) fun v w=>bK .add T.d 23 (gv c 1) i1 w fun x w=>e [(gv v 0),x] w
def M.bn.j0(d:Value)(e:List Value):QQ:=fun w K=>ie P F.ec [d] w fun b w=>exT P b 0 w fun c w=>exT P b 1 w fun f w=>ii (fun g=>jl [(gv e 0),i0] w fun h a w=>ii (fun i=>biT P .len #[T.bq] T.d [false] [c] w fun j w=>bT .lss T.d 19 21 (gv a 1) j w fun l w=>ig l (i [] w) (g [(gv a 1),(gv a 0)] w)) fun p w=>M.bn.j3 c a h w K) fun m w=>ii (fun n=>unT P .not f w fun o w=>ig o (K (.int .i64 5) w) (n [(gv m 1)] w)) fun q w=>K i0 w
def M.bn(b:Value):QQ:=fun w K=>ii (fun c=>biT P .len #[T.l] T.d [false] [b] w fun d w=>bK .lss T.d 7 d i1 w fun a w=>ic (isB a false) (fun K'=>K' b w) w fun e w=>ic (isB a false) (biT P .len #[T.l] T.d [false] [e] w) w fun f w=>ic (isB a false) (bK .gtr T.d 11 f (.int .i64 32) w) w fun g w=>iu a bY g w fun h w=>ig h (K (.int .i64 5) w) (c [i0] w)) fun i w=>M.bn.j0 b i w K
theorem M.bn.calls:C1 F.de M.bn:=mk1 [0,2,3,4,5] pN Tryz.func75
theorem M.bn.fcall:fC F.de:=fcN Tryz.func75
def M.cm.j2(a:List Value)(b:Value)(c:KL):QQ:=fun w K=>ii (fun d=>ip P .mul T.d (.const (.int .i64 8)) (.tmp 11) (.int .i64 8) (gv a 1) w fun e w=>cvT P T.d T.bs e w fun f w=>ip P .shr T.a (.tmp 10) (.tmp 13) b f w fun g w=>ip P .and T.a (.tmp 14) (.const (.int .u64 255)) g (.int .u64 255) w fun h w=>cvT P T.a T.ba h w fun i w=>bsT P T.q 1 #[(0,i)] w fun j w=>biT P .append #[T.q,T.q] T.q [false,false] [(gv a 0),j] w fun l w=>d [l] w) fun m w=>bK .sub T.d 7 (gv a 1) i1 w fun n w=>c [(gv m 0),n] w
def M.cm(b:Value):QQ:=fun w K=>ii (fun c=>jl [nS,(.int .i64 7)] w fun d a w=>ii (fun e=>bK .geq T.d 5 (gv a 1) i0 w fun f w=>ig f (e [] w) (c [(gv a 1),(gv a 0)] w)) fun h w=>M.cm.j2 a b d w K) fun g w=>K (gv g 1) w
theorem M.cm.calls:C1 F.ea M.cm:=mk1 [0,2,3,4] pN Tryz.func76
theorem M.cm.fcall:fC F.ea:=fcN Tryz.func76
def M.ed(b a:Value):QQ:=fun w K=>biT P .len #[T.l] T.d [false] [a] w fun c w=>cvT P T.d T.ba c w fun d w=>bsT P T.q 1 #[(0,d)] w fun e w=>biT P .append #[T.q,T.q] T.q [false,false] [b,e] w fun f w=>biT P .append #[T.q,T.l] T.q [false,false] [f,a] w fun g w=>K g w
theorem M.ed.calls:C2 F.df M.ed:=mk2 [0,1,4] pN Tryz.func77
theorem M.ed.fcall:fC F.df:=fcN Tryz.func77
end Go.Proofs.YtgepcfcicngceaaGreatDoor
