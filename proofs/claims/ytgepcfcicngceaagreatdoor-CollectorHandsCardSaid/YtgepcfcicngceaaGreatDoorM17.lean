/-
  Printed by wip/Shallow.lean: functions of the program, read shallow; each is what its code does. No condition.
-/
import Derived.Test.YtgepcfcicngceaaGreatDoorN
set_option maxRecDepth 1000000
namespace Go.Proofs.YtgepcfcicngceaaGreatDoor
open Go.Eng
def M.ao.j6(b c:Value)(a:List Value)(d e:Value)(f:KL):QQ:=fun w K=>bT .add T.d 45 46 b c w fun g w=>slT P T.n (gv a 1) none (some g) none w fun h w=>iaT P T.bi d (gv a 2) w fun i w=>stT P T.n i h w fun _ w=>biT P .len #[T.n] T.d [false] [e] w fun j w=>bT .add T.d 51 53 b j w fun l w=>slT P T.n (gv a 1) (some l) none none w fun m w=>bK .add T.d 56 (gv a 2) i1 w fun n w=>f [b,m,n] w
def M.ao.j5(a:List Value)(c:Value)(d:KL)(e f:Value)(g:KL):QQ:=fun w K=>ik P F.ds [(gv a 1),c] w fun b w=>im (fun h=>bK .lss T.d 40 b i0 w fun i w=>il i (d [b,(gv a 1),(gv a 2)] w) (h [] w)) fun j w=>M.ao.j6 b e a f c g w K
def M.ao.j2(e:Value)(g:List Value)(h i:Value):QQ:=fun w K=>biT P .len #[T.n] T.d [false] [e] w fun j w=>bK .add T.d 27 j i1 w fun l w=>biT P .min #[T.d,T.d] T.d [false,false] [(gv g 0),l] w fun b w=>atr P T.bi b b w fun c w=>bK .sub T.d 32 b i1 w fun m w=>im (fun f=>jo [undef,e,i0] w fun n a w=>im (fun o=>bT .lss T.d 34 35 (gv a 2) m w fun p w=>il p (o [] w) (f [(gv a 0),(gv a 1),(gv a 2)] w)) fun t w=>M.ao.j5 a h f i c n w K) fun d w=>iaT P T.bi c (gv d 2) w fun q w=>stT P T.n q (gv d 1) w fun _ w=>bK .add T.d 63 (gv d 2) i1 w fun r w=>slT P T.bi c none (some r) none w fun s w=>K s w
def M.ao.j1(a b c e:Value):QQ:=fun w K=>im (fun d=>bK .lss T.d 19 a i0 w fun f w=>il f (ik P F.fb [b,c] w fun g w=>bK .add T.d 23 g i1 w fun h w=>d [h] w) (d [a] w)) fun i w=>M.ao.j2 b i c e w K
def M.ao(b c d a:Value):QQ:=fun w K=>im (fun e=>bK .eql T.d 12 a i0 w fun f w=>il f (K nS w) (e [nS] w)) fun g w=>im (fun h=>iy P .eql T.n (.tmp 14) (.const (.string ⟨#[]⟩)) c (.string ⟨#[]⟩) w fun i w=>il i (ik P F.hl [b,a] w fun j w=>K j w) (h [(gv g 0)] w)) fun l w=>M.ao.j1 a b c d w K
theorem M.ao.calls:C4 F.ge M.ao:=mk4 [0,1,2,3,8,9,10,11] pN Tryz.func235
theorem M.ao.fcall:fC F.ge:=fcN Tryz.func235
def M.gd(a b:Value):QQ:=fun w K=>ldT P T.h b w fun c w=>ik P F.p [c,a] w fun d w=>K d w
theorem M.gd.calls:C2 F.cw M.gd:=mk2 [0,1,3] pN Tryz.func241
def M.fh(a:Value):QQ:=fun w K=>lk P T.j a w fun b w=>faT P T.j b 7 w fun c w=>ldT P T.bs c w fun d w=>K d w
theorem M.fh.calls:C1 F.ep M.fh:=mk1 [0,2] pN Tryz.func242
theorem M.fh.rcall:rC F.ep:=rcN Tryz.func242
def M.bw(c b:Value):QQ:=fun w K=>biT P .len #[T.n] T.d [false] [c] w fun d w=>biT P .len #[T.n] T.d [false] [b] w fun e w=>bT .geq T.d 6 8 d e w fun a w=>ij (isB a true) (fun K'=>K' c w) w fun f w=>ij (isB a true) (fun K'=>K' b w) w fun g w=>ij (isB a true) (biT P .len #[T.n] T.d [false] [g] w) w fun h w=>ij (isB a true) (slT P T.n f none (some h) none w) w fun i w=>ij (isB a true) (fun K'=>K' b w) w fun j w=>ij (isB a true) (iy P .eql T.n (.tmp 14) (.tmp 15) i j w) w fun l w=>jb a l bF w fun m w=>K m w
theorem M.bw.calls:C2 F.cp M.bw:=mk2 [0,1,4] pN Tryz.func249
theorem M.bw.fcall:fC F.cp:=fcN Tryz.func249
def M.fk(a:Value):QQ:=fun w K=>bT .neq T.d 3 4 a a w fun b w=>K b w
theorem M.fk.calls:C1 F.ff M.fk:=mk1 [0,2] pN Tryz.func250
theorem M.fk.fcall:fC F.ff:=fcN Tryz.func250
end Go.Proofs.YtgepcfcicngceaaGreatDoor
