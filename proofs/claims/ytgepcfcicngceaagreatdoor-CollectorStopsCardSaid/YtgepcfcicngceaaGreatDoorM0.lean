/-
  Printed by wip/Shallow.lean: functions of the program, read shallow; each is what its code does. No condition.
-/
import Derived.Test.YtgepcfcicngceaaGreatDoorN
set_option maxRecDepth 1000000
namespace Go.Proofs.YtgepcfcicngceaaGreatDoor
open Go.Eng
def M.c.j4(b:Value)(a:List Value)(c:Value)(d:KL):QQ:=fun w K=>ii (fun e=>ii (fun f=>iaT P T.bp b (gv a 1) w fun g w=>ldT P T.q g w fun h w=>biT P .len #[T.q] T.d [false] [h] w fun i w=>bK .gtr T.d 44 i (.int .i64 500) w fun j w=>ig j (ie P F.br [] w fun l w=>K l w) (f [(gv a 0)] w)) fun m w=>iaT P T.bp b (gv a 1) w fun n w=>ldT P T.q n w fun o w=>ie P F.aa [c,o,u0] w fun r w=>e [(gv m 0)] w) fun p w=>bK .add T.d 38 (gv a 1) i1 w fun q w=>d [(gv p 0),q] w
def M.c.j3(b:Value)(a:List Value)(c:KL)(d:Value)(e:KL):QQ:=fun w K=>ii (fun f=>biT P .len #[T.bp] T.d [false] [b] w fun g w=>bT .lss T.d 34 36 (gv a 1) g w fun h w=>ig h (f [] w) (c [(gv a 1),(gv a 0)] w)) fun i w=>M.c.j4 b a d e w K
def M.c.j8(a:List Value)(b:KL)(c:Value)(d:KL):QQ:=fun w K=>ii (fun e=>bK .lss T.a 56 (gv a 0) (.int .u64 100) w fun f w=>ig f (e [] w) (b [(gv a 0)] w)) fun i w=>ii (fun g=>ie P F.an [c,(gv a 0),u0] w fun j w=>g [] w) fun l w=>bK .add T.a 58 (gv a 0) (.int .u64 9) w fun h w=>d [h] w
def M.c.j7(c e:Value):QQ:=fun w K=>ie P F.bm [c] w fun f w=>biT P .len #[T.ap] T.d [false] [f] w fun g w=>bK .eql T.d 65 g i0 w fun a w=>ic (isB a true) (fun K'=>K' c w) w fun h w=>ic (isB a true) (ie P F.ap [h] w) w fun i w=>ic (isB a true) (biT P .len #[T.g] T.d [false] [i] w) w fun j w=>ic (isB a true) (fun K'=>K' e w) w fun l w=>ic (isB a true) (bT .eql T.d 70 71 j l w) w fun m w=>iu a m bF w fun b w=>ic (isB b true) (fun K'=>K' c w) w fun n w=>ic (isB b true) (ie P F.ak [n] w) w fun o w=>ic (isB b true) (biT P .len #[T.g] T.d [false] [o] w) w fun p w=>ic (isB b true) (bK .eql T.d 77 p i0 w) w fun q w=>iu b q bF w fun d w=>ic (isB d true) (ie P F.br [] w) w fun r w=>iu d r bF w fun s w=>K s w
def M.c.j2(a:Value):QQ:=fun w K=>ie P F.ap [a] w fun b w=>biT P .len #[T.g] T.d [false] [b] w fun c w=>ii (fun d=>jl [u0] w fun e f w=>M.c.j8 f d a e w K) fun g w=>M.c.j7 a c w K
def M.c.j0(e:Value)(f:List Value)(g:Value):QQ:=fun w K=>ie P F.db [] w fun h w=>alT P T.m w fun a w=>stT P T.m a h w fun _ w=>faT P T.m a 1 w fun i w=>stT P T.a i e w fun _ w=>ldT P T.m a w fun j w=>ie P F.dn [j] w fun l w=>ie P F.eo [l,u0] w fun d w=>exT P d 0 w fun b w=>exT P d 1 w fun m w=>ii (fun n=>bK .neq T.ac 28 m i0 w fun c w=>ic (isB c false) (fun K'=>K' b w) w fun o w=>ic (isB c false) (ip P .eql T.an (.tmp 31) (.const nP) o nP w) w fun p w=>iu c bY p w fun q w=>ig q (K bF w) (n [(gv f 0)] w)) fun r w=>ii (fun s=>jl [(gv r 0),i0] w fun t u w=>M.c.j3 g u s b t w K) fun v w=>M.c.j2 b w K
def M.c(b c:Value):QQ:=fun w K=>ii (fun d=>biT P .len #[T.bp] T.d [false] [b] w fun e w=>bK .gtr T.d 12 e (.int .i64 12) w fun a w=>ic (isB a false) (fun K'=>K' c w) w fun f w=>ic (isB a false) (bK .lss T.a 15 f (.int .u64 6148914691236517206) w) w fun g w=>iu a bY g w fun h w=>ig h (ie P F.br [] w fun i w=>K i w) (d [bF] w)) fun j w=>M.c.j0 c j b w K
theorem M.c.calls:C2 F.cw M.c:=mk2 [0,1,4,6,7,8,9,10] pN Tryz.func5
end Go.Proofs.YtgepcfcicngceaaGreatDoor
