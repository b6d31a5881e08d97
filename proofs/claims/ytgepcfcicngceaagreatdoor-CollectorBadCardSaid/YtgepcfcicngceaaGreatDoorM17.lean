/-
  Printed by wip/Shallow.lean: functions of the program, read shallow; each is what its code does. No condition.
-/
import Derived.Test.YtgepcfcicngceaaGreatDoorN
set_option maxRecDepth 1000000
namespace Go.Proofs.YtgepcfcicngceaaGreatDoor
open Go.Eng
def M.al.j6(b c:Value)(a:List Value)(d e:Value)(f:KL):QQ:=fun w K=>bT .add T.d 45 46 b c w fun g w=>slT P T.m (gv a 1) none (some g) none w fun h w=>iaT P T.bg d (gv a 2) w fun i w=>stT P T.m i h w fun _ w=>biT P .len #[T.m] T.d [false] [e] w fun j w=>bT .add T.d 51 53 b j w fun l w=>slT P T.m (gv a 1) (some l) none none w fun m w=>bK .add T.d 56 (gv a 2) i1 w fun n w=>f [b,m,n] w
def M.al.j5(a:List Value)(c:Value)(d:KL)(e f:Value)(g:KL):QQ:=fun w K=>ig P F.dt [(gv a 1),c] w fun b w=>ik (fun h=>bK .lss T.d 40 b i0 w fun i w=>ij i (d [b,(gv a 1),(gv a 2)] w) (h [] w)) fun j w=>M.al.j6 b e a f c g w K
def M.al.j2(e:Value)(g:List Value)(h i:Value):QQ:=fun w K=>biT P .len #[T.m] T.d [false] [e] w fun j w=>bK .add T.d 27 j i1 w fun l w=>biT P .min #[T.d,T.d] T.d [false,false] [(gv g 0),l] w fun b w=>aqw P T.bg b b w fun c w=>bK .sub T.d 32 b i1 w fun m w=>ik (fun f=>jn [undef,e,i0] w fun n a w=>ik (fun o=>bT .lss T.d 34 35 (gv a 2) m w fun p w=>ij p (o [] w) (f [(gv a 0),(gv a 1),(gv a 2)] w)) fun t w=>M.al.j5 a h f i c n w K) fun d w=>iaT P T.bg c (gv d 2) w fun q w=>stT P T.m q (gv d 1) w fun _ w=>bK .add T.d 63 (gv d 2) i1 w fun r w=>slT P T.bg c none (some r) none w fun s w=>K s w
def M.al.j1(a b c e:Value):QQ:=fun w K=>ik (fun d=>bK .lss T.d 19 a i0 w fun f w=>ij f (ig P F.ev [b,c] w fun g w=>bK .add T.d 23 g i1 w fun h w=>d [h] w) (d [a] w)) fun i w=>M.al.j2 b i c e w K
def M.al(b c d a:Value):QQ:=fun w K=>ik (fun e=>bK .eql T.d 12 a i0 w fun f w=>ij f (K nS w) (e [nS] w)) fun g w=>ik (fun h=>iq P .eql T.m (.tmp 14) (.const (.string ⟨#[]⟩)) c (.string ⟨#[]⟩) w fun i w=>ij i (ig P F.hg [b,a] w fun j w=>K j w) (h [(gv g 0)] w)) fun l w=>M.al.j1 a b c d w K
theorem M.al.calls:C4 F.fy M.al:=mk4 [0,1,2,3,8,9,10,11] pN Tryz.func235
theorem M.al.fcall:fC F.fy:=fcN Tryz.func235
def M.fx(a b:Value):QQ:=fun w K=>ldT P T.j b w fun c w=>ig P F.p [c,a] w fun d w=>K d w
theorem M.fx.calls:C2 F.cv M.fx:=mk2 [0,1,3] pN Tryz.func241
def M.fc(a:Value):QQ:=fun w K=>lj P T.f a w fun b w=>faT P T.f b 7 w fun c w=>ldT P T.br c w fun d w=>K d w
theorem M.fc.calls:C1 F.em M.fc:=mk1 [0,2] pN Tryz.func242
theorem M.fc.rcall:rC F.em:=rcN Tryz.func242
def M.bu(c b:Value):QQ:=fun w K=>biT P .len #[T.m] T.d [false] [c] w fun d w=>biT P .len #[T.m] T.d [false] [b] w fun e w=>bT .geq T.d 6 8 d e w fun a w=>ie (isB a true) (fun K'=>K' c w) w fun f w=>ie (isB a true) (fun K'=>K' b w) w fun g w=>ie (isB a true) (biT P .len #[T.m] T.d [false] [g] w) w fun h w=>ie (isB a true) (slT P T.m f none (some h) none w) w fun i w=>ie (isB a true) (fun K'=>K' b w) w fun j w=>ie (isB a true) (iq P .eql T.m (.tmp 14) (.tmp 15) i j w) w fun l w=>iw a l bF w fun m w=>K m w
theorem M.bu.calls:C2 F.cn M.bu:=mk2 [0,1,4] pN Tryz.func249
theorem M.bu.fcall:fC F.cn:=fcN Tryz.func249
end Go.Proofs.YtgepcfcicngceaaGreatDoor
