/-
  Printed by wip/Shallow.lean: functions of the program, read shallow; each is what its code does. No condition.
-/
import Derived.Test.YtgepcfcicngceaaGreatDoorN
set_option maxRecDepth 1000000
namespace Go.Proofs.YtgepcfcicngceaaGreatDoor
open Go.Eng
def M.aj.j6(b c:Value)(a:List Value)(d e:Value)(f:KL):QQ:=fun w K=>bT .add T.d 45 46 b c w fun g w=>slT P T.l (gv a 1) none (some g) none w fun h w=>iaT P T.bf d (gv a 2) w fun i w=>stT P T.l i h w fun _ w=>biT P .len #[T.l] T.d [false] [e] w fun j w=>bT .add T.d 51 53 b j w fun l w=>slT P T.l (gv a 1) (some l) none none w fun m w=>bK .add T.d 56 (gv a 2) i1 w fun n w=>f [b,m,n] w
def M.aj.j5(a:List Value)(c:Value)(d:KL)(e f:Value)(g:KL):QQ:=fun w K=>ie P F.dm [(gv a 1),c] w fun b w=>ii (fun h=>bK .lss T.d 40 b i0 w fun i w=>ig i (d [b,(gv a 1),(gv a 2)] w) (h [] w)) fun j w=>M.aj.j6 b e a f c g w K
def M.aj.j2(e:Value)(g:List Value)(h i:Value):QQ:=fun w K=>biT P .len #[T.l] T.d [false] [e] w fun j w=>bK .add T.d 27 j i1 w fun l w=>biT P .min #[T.d,T.d] T.d [false,false] [(gv g 0),l] w fun b w=>aqy P T.bf b b w fun c w=>bK .sub T.d 32 b i1 w fun m w=>ii (fun f=>jl [undef,e,i0] w fun n a w=>ii (fun o=>bT .lss T.d 34 35 (gv a 2) m w fun p w=>ig p (o [] w) (f [(gv a 0),(gv a 1),(gv a 2)] w)) fun t w=>M.aj.j5 a h f i c n w K) fun d w=>iaT P T.bf c (gv d 2) w fun q w=>stT P T.l q (gv d 1) w fun _ w=>bK .add T.d 63 (gv d 2) i1 w fun r w=>slT P T.bf c none (some r) none w fun s w=>K s w
def M.aj.j1(a b c e:Value):QQ:=fun w K=>ii (fun d=>bK .lss T.d 19 a i0 w fun f w=>ig f (ie P F.ep [b,c] w fun g w=>bK .add T.d 23 g i1 w fun h w=>d [h] w) (d [a] w)) fun i w=>M.aj.j2 b i c e w K
def M.aj(b c d a:Value):QQ:=fun w K=>ii (fun e=>bK .eql T.d 12 a i0 w fun f w=>ig f (K nS w) (e [nS] w)) fun g w=>ii (fun h=>ip P .eql T.l (.tmp 14) (.const (.string ⟨#[]⟩)) c (.string ⟨#[]⟩) w fun i w=>ig i (ie P F.ha [b,a] w fun j w=>K j w) (h [(gv g 0)] w)) fun l w=>M.aj.j1 a b c d w K
theorem M.aj.calls:C4 F.fs M.aj:=mk4 [0,1,2,3,8,9,10,11] pN Tryz.func235
theorem M.aj.fcall:fC F.fs:=fcN Tryz.func235
def M.fr(a b:Value):QQ:=fun w K=>ldT P T.h b w fun c w=>ie P F.o [c,a] w fun d w=>K d w
theorem M.fr.calls:C2 F.cq M.fr:=mk2 [0,1,3] pN Tryz.func241
def M.ew(a:Value):QQ:=fun w K=>lh P T.i a w fun b w=>faT P T.i b 7 w fun c w=>ldT P T.br c w fun d w=>K d w
theorem M.ew.calls:C1 F.eh M.ew:=mk1 [0,2] pN Tryz.func242
theorem M.ew.rcall:rC F.eh:=rcN Tryz.func242
def M.bq(c b:Value):QQ:=fun w K=>biT P .len #[T.l] T.d [false] [c] w fun d w=>biT P .len #[T.l] T.d [false] [b] w fun e w=>bT .geq T.d 6 8 d e w fun a w=>ic (isB a true) (fun K'=>K' c w) w fun f w=>ic (isB a true) (fun K'=>K' b w) w fun g w=>ic (isB a true) (biT P .len #[T.l] T.d [false] [g] w) w fun h w=>ic (isB a true) (slT P T.l f none (some h) none w) w fun i w=>ic (isB a true) (fun K'=>K' b w) w fun j w=>ic (isB a true) (ip P .eql T.l (.tmp 14) (.tmp 15) i j w) w fun l w=>iu a l bF w fun m w=>K m w
theorem M.bq.calls:C2 F.ck M.bq:=mk2 [0,1,4] pN Tryz.func249
theorem M.bq.fcall:fC F.ck:=fcN Tryz.func249
end Go.Proofs.YtgepcfcicngceaaGreatDoor
