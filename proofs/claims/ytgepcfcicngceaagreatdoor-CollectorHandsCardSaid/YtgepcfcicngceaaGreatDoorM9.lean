/-
  Printed by wip/Shallow.lean: functions of the program, read shallow; each is what its code does. No condition.
-/
import Derived.Test.YtgepcfcicngceaaGreatDoorN
set_option maxRecDepth 1000000
namespace Go.Proofs.YtgepcfcicngceaaGreatDoor
open Go.Eng
def M.ca(a b:Value):QQ:=fun w K=>ik P F.dd [a,b] w fun c w=>bK .geq T.d 7 c i0 w fun d w=>K d w
theorem M.ca.calls:C2 F.bq M.ca:=mk2 [0,1,4] pN Tryz.func115
theorem M.ca.fcall:fC F.bq:=fcN Tryz.func115
def M.dl(a:Value):QQ:=fun w K=>ik P F.n [nS,a] w fun b w=>K b w
theorem M.dl.calls:C1 F.cz M.dl:=mk1 [0,2] pN Tryz.func116
theorem M.dl.fcall:fC F.cz:=fcN Tryz.func116
theorem M.gm.fcall:fC F.h:=fcN Tryz.func117
def M.aa.j0(a c:Value)(d:KL):QQ:=fun w K=>nxT P a false T.cc w fun e w=>exT P e 0 w fun f w=>im (fun g=>il f (g [] w) (K (.tuple #[]) w)) fun l w=>enT P a w fun h w=>exT P h 0 w fun b w=>lh P c [b] w fun i w=>unT P .not i w fun j w=>il j (K (.tuple #[]) w) (d [b] w)
def M.aa(a b:Value):QQ:=fun w K=>ldT P T.y b w fun c w=>rgT P T.y c w fun d w=>jo [undef] w fun e f w=>M.aa.j0 d a e w K
theorem M.aa.calls:C2 F.c M.aa:=mk2 [0,1,3,5] pN Tryz.func118
def M.gn(a b:Value):QQ:=fun w K=>ik P F.fw [a] w fun c w=>cvT P T.d T.a b w fun d w=>bT .add T.a 6 8 c d w fun e w=>ik P F.fw [e] w fun f w=>K f w
theorem M.gn.calls:C2 F.hf M.gn:=mk2 [0,1,4] pN Tryz.func119
theorem M.gn.fcall:fC F.hf:=fcN Tryz.func119
def M.bd(a c:Value):QQ:=fun w K=>biT P .len #[T.an] T.d [false] [a] w fun b w=>cvT P T.d T.bu b w fun d w=>ik P F.dr [d] w fun e w=>ik P F.ay [a,i0,b,e,c] w fun f w=>K (.tuple #[]) w
theorem M.bd.calls:C2 F.am M.bd:=mk2 [0,1,4] pN Tryz.func120
theorem M.bd.fcall:fC F.am:=fcN Tryz.func120
def M.fp(g h:Value):QQ:=fun w K=>lk P T.au g w fun a w=>lk P T.au h w fun b w=>je w fun w=>ii (faT P T.au a 0 w) w fun i=>ii (ldT P T.a i w) w fun j=>ii (faT P T.au b 0 w) w fun l=>ii (ldT P T.a l w) w fun m=>ii (faT P T.au a 1 w) w fun c=>ii (ldT P T.a c w) w fun e=>ii (faT P T.au b 1 w) w fun d=>ii (ldT P T.a d w) w fun f=>ik P F.av [j,m] w fun n w=>ip (ldT P T.a d w) w f/\ip (faT P T.au b 1 w) w d/\ip (ldT P T.a c w) w e/\ip (faT P T.au a 1 w) w c/\ik P F.av [e,f] w fun o w=>bsT P T.bz 2 #[(0,n),(1,o)] w fun p w=>ik P F.ev [p] w fun q w=>K q w
theorem M.fp.calls:C2 F.ee M.fp:=mk2 [0,1,4] (fun id=>cond (Nat.beq id 1) ⟨(gS 0 4 (gS 5 4 (.eff 4 (.eff 9 (.eff 10 (.eff 11 (.eff 12 .nil .iz) .iz) .iz) .iz) .iz))),[4,9,10,11,12],false,[0,1,0,4,15,0,32,0,128,511,1023,2047,4095]⟩ p0) Tryz.func121
theorem M.fp.fcall:fC F.ee:=fcN Tryz.func121
def M.du.j2(d:Value)(a:List Value)(e:KL):QQ:=fun w K=>im (fun f=>iaT P T.bz d (gv a 2) w fun g w=>ldT P T.d g w fun b w=>bT .neq T.d 12 13 b i0 w fun h w=>il h (K b w) (f [b,(gv a 1)] w)) fun c w=>bK .add T.d 8 (gv a 2) i1 w fun i w=>e [(gv c 0),(gv c 1),i] w
def M.du(b:Value):QQ:=fun w K=>im (fun d=>biT P .len #[T.bz] T.d [false] [b] w fun c w=>jo [undef,i0,i0] w fun e a w=>bT .lss T.d 8 7 (gv a 2) c w fun f w=>im (fun g=>il f (g [] w) (d [b,c,(gv a 2),(gv a 0),(gv a 1)] w)) fun h w=>M.du.j2 b a e w K) fun i w=>K i0 w
theorem M.du.calls:C1 F.ev M.du:=mk1 [0,2,3,5,8,7,6] pN Tryz.func122
theorem M.du.fcall:fC F.ev:=fcN Tryz.func122
def M.bh.j2(a b:Value)(c:List Value):QQ:=fun w K=>im (fun d=>bT .lss T.a 14 15 a b w fun e w=>il e (K (.int .i64 (-1)) w) (d [(gv c 0)] w)) fun f w=>im (fun g=>bT .gtr T.a 17 18 a b w fun h w=>il h (K i1 w) (g [(gv f 0)] w)) fun i w=>K i0 w
def M.bh(a b:Value):QQ:=fun w K=>ik P F.ah [a] w fun d w=>ik P F.ah [b] w fun c w=>im (fun e=>il d (im (fun f=>il c (K i0 w) (f [i0] w)) fun j w=>K (.int .i64 (-1)) w) (e [i0] w)) fun g w=>im (fun h=>il c (K i1 w) (h [(gv g 0)] w)) fun i w=>M.bh.j2 a b i w K
theorem M.bh.calls:C2 F.av M.bh:=mk2 [0,1,4,5,6] pN Tryz.func123
theorem M.bh.fcall:fC F.av:=fcN Tryz.func123
def M.fy(a:Value):QQ:=fun w K=>im (fun b=>biT P .len #[T.k] T.d [false] [a] w fun c w=>bK .eql T.d 4 c i0 w fun d w=>il d (K i0 w) (b [i0] w)) fun g w=>jq P T.c #[(0,(.int .i64 3)),(7,a)] w fun e w=>ik P F.dq [e] w fun f w=>K f w
theorem M.fy.calls:C1 F.ew M.fy:=mk1 [0,2] pN Tryz.func124
theorem M.fy.fcall:fC F.ew:=fcN Tryz.func124
def M.fz.j0(a c:Value):QQ:=fun w K=>ik P F.y [a,c,(.func (.func F.gq) #[] #[])] w fun b w=>exT P b 0 w fun d w=>exT P b 1 w fun j w=>biT P .len #[T.an] T.d [false] [a] w fun e w=>iy P .rem T.d (.tmp 17) (.tmp 19) d e w fun f w=>iaT P T.an a f w fun g w=>faT P T.au g 1 w fun h w=>ldT P T.a h w fun i w=>K i w
def M.fz(a b:Value):QQ:=fun w K=>im (fun c=>biT P .len #[T.an] T.d [false] [a] w fun d w=>bK .eql T.d 8 d i0 w fun e w=>il e (K u0 w) (c [u0] w)) fun f w=>M.fz.j0 a b w K
theorem M.fz.calls:C2 F.hn M.fz:=mk2 [0,1,4,5,6] pN Tryz.func125
theorem M.fz.fcall:fC F.hn:=fcN Tryz.func125
def M.ga(d:Value):QQ:=fun w K=>bK .add T.a 3 d (.int .u64 11400714819323198485) w fun a w=>iy P .shr T.a (.tmp 6) (.const (.int .u64 30)) a (.int .u64 30) w fun e w=>iy P .xor T.a (.tmp 5) (.tmp 7) a e w fun f w=>iy P .mul T.a (.tmp 9) (.const (.int .u64 13787848793156543929)) f (.int .u64 13787848793156543929) w fun b w=>iy P .shr T.a (.tmp 12) (.const (.int .u64 27)) b (.int .u64 27) w fun g w=>iy P .xor T.a (.tmp 11) (.tmp 13) b g w fun h w=>iy P .mul T.a (.tmp 15) (.const (.int .u64 10723151780598845931)) h (.int .u64 10723151780598845931) w fun c w=>iy P .shr T.a (.tmp 18) (.const (.int .u64 31)) c (.int .u64 31) w fun i w=>iy P .xor T.a (.tmp 17) (.tmp 19) c i w fun j w=>K j w
theorem M.ga.calls:C1 F.fw M.ga:=mk1 [0,2] pN Tryz.func126
theorem M.ga.fcall:fC F.fw:=fcN Tryz.func126
def M.co.j3(a:List Value)(c b:Value)(d:KL)(e:List Value):QQ:=fun w K=>bK .add T.d 26 (gv a 2) i1 w fun f w=>biT P .len #[T.n] T.d [false] [c] w fun g w=>bT .add T.d 29 31 b g w fun h w=>slT P T.n (gv a 3) (some h) none none w fun i w=>d [b,(gv e 0),f,i] w
def M.co.j2(a:List Value)(b:Value)(d:KL):QQ:=fun w K=>ik P F.ds [(gv a 3),b] w fun c w=>im (fun e=>iy P .eql T.d (.tmp 23) (.const (.int .i64 (-1))) c (.int .i64 (-1)) w fun f w=>il f (K (gv a 2) w) (e [(gv a 1)] w)) fun g w=>M.co.j3 a b c d g w K
def M.co.j0(a b:Value)(c:List Value):QQ:=fun w K=>im (fun d=>biT P .len #[T.n] T.d [false] [a] w fun e w=>bK .eql T.d 14 e i1 w fun f w=>il f (ixT P T.n a i0 w fun g w=>ik P F.al [b,g] w fun h w=>K h w) (d [(gv c 0)] w)) fun i w=>jo [undef,(gv i 0),i0,b] w fun j l w=>M.co.j2 l a j w K
def M.co(a b:Value):QQ:=fun w K=>im (fun c=>biT P .len #[T.n] T.d [false] [b] w fun d w=>bK .eql T.d 8 d i0 w fun e w=>il e (ik P F.gi [a] w fun f w=>bK .add T.d 11 f i1 w fun g w=>K g w) (c [i0] w)) fun h w=>M.co.j0 b a h w K
theorem M.co.calls:C2 F.fb M.co:=mk2 [0,1,4,5,6] pN Tryz.func127
theorem M.co.fcall:fC F.fb:=fcN Tryz.func127
def M.eo(a b:Value):QQ:=fun w K=>ik P F.gd [a,b,i0] w fun c w=>K c w
theorem M.eo.calls:C2 F.gc M.eo:=mk2 [0,1,4] pN Tryz.func128
theorem M.eo.fcall:fC F.gc:=fcN Tryz.func128
def M.dq.j1(a:Value):QQ:=fun w K=>je w fun w=>ii (ldT P T.r a w) w fun b=>ii (ldT P T.r a w) w fun c=>ik P F.dh [c] w fun d w=>ip (ldT P T.r a w) w b/\stT P T.r a b w fun _ w=>ii (oy P T.r a w) w fun r0=>K (.tuple #[r0,d]) w
def M.dq.j0(b c:Value)(h:List Value):QQ:=fun w K=>je w fun w=>w=w/\ii (iaT P T.bi b i0 w) w fun u=>ii (ldT P T.n u w) w fun v=>ii (iy P .eql T.n (.tmp 30) (.const (.string ⟨#[107,101,101,112]⟩)) v (.string ⟨#[107,101,101,112]⟩) w) w fun x=>w=w/\ii (iaT P T.bi b i1 w) w fun y=>ii (ldT P T.n y w) w fun z=>ii (jq P T.r #[(0,x),(1,z)] w) w fun A=>stT P T.r c A w fun _ w=>faT P T.r c 1 w fun B w=>ldT P T.n B w fun C w=>ik P F.fz [C] w fun i w=>exT P i 0 w fun j w=>exT P i 1 w fun a5 w=>exT P i 2 w fun a6 w=>im (fun l=>bK .eql T.d 45 j i1 w fun d w=>ij (isB d true) (fun K'=>K' b w) w fun D w=>ij (isB d true) (biT P .len #[T.bi] T.d [false] [D] w) w fun E w=>ij (isB d true) (bK .eql T.d 49 E i2 w) w fun G w=>jb d G bF w fun e w=>il e (l [e,undef,undef,undef,(gv h 0),undef] w) (bK .eql T.d 53 j i2 w fun f w=>ij (isB f true) (fun K'=>K' b w) w fun H w=>ij (isB f true) (biT P .len #[T.bi] T.d [false] [H] w) w fun I w=>ij (isB f true) (bK .eql T.d 57 I (.int .i64 3) w) w fun J w=>jb f J bF w fun m w=>il m (iaT P T.bi b i2 w fun L w=>ldT P T.n L w fun N w=>ik P F.hi [N,(.int .i64 10),(.int .i64 64)] w fun q w=>exT P q 0 w fun n w=>exT P q 1 w fun r w=>im (fun O=>je w fun w=>w=w/\ii (iy P .neq T.ce (.tmp 67) (.const .nilIface) r .nilIface w) w fun a=>w=w/\ii (fun K'=>ij (isB a false) (fun K'=>K' n w) w K') w fun Q=>ii (fun K'=>ij (isB a false) (fun K'=>K' b w) w K') w fun o=>ii (ij (isB a false) (iaT P T.bi o i2 w) w) w fun p=>ii (ij (isB a false) (ldT P T.n p w) w) w fun s=>ij (isB a false) (ik P F.he [Q,(.int .i64 10)] w) w fun R w=>ip (ij (isB a false) (ldT P T.n p w) w) w s/\ip (ij (isB a false) (iaT P T.bi o i2 w) w) w p/\ip (fun K'=>ij (isB a false) (fun K'=>K' b w) w K') w o/\ii (ij (isB a false) (iy P .neq T.n (.tmp 71) (.tmp 74) R s w) w) w fun S=>ii (jb a bY S w) w fun U=>il U (jq P T.r #[] w fun V w=>stT P T.r c V w fun _ w=>ii (oy P T.r c w) w fun r0=>K (.tuple #[r0,bF]) w) (O [(gv h 0)] w)) fun W w=>faT P T.r c 2 w fun X w=>stT P T.a X n w fun _ w=>l [e,m,n,r,(gv W 0),undef] w) (bK .eql T.d 81 j (.int .i64 3) w fun g w=>ij (isB g true) (fun K'=>K' b w) w fun Y w=>ij (isB g true) (biT P .len #[T.bi] T.d [false] [Y] w) w fun Z w=>ij (isB g true) (bK .eql T.d 85 Z (.int .i64 3) w) w fun a0 w=>jb g a0 bF w fun t w=>il t (iaT P T.bi b i2 w fun a1 w=>ldT P T.n a1 w fun a2 w=>faT P T.r c 3 w fun a3 w=>stT P T.n a3 a2 w fun _ w=>l [e,m,undef,undef,(gv h 0),t] w) (jq P T.r #[] w fun a4 w=>stT P T.r c a4 w fun _ w=>ii (oy P T.r c w) w fun r0=>K (.tuple #[r0,bF]) w)))) fun a7 w=>M.dq.j1 c w K
def M.dq(e:Value):QQ:=fun w K=>alT P T.r w fun d w=>ik P F.gb [e,(.string ⟨#[32]⟩)] w fun c w=>im (fun f=>biT P .len #[T.bi] T.d [false] [c] w fun g w=>bK .lss T.d 13 g i2 w fun a w=>ij (isB a false) (fun K'=>K' c w) w fun h w=>ij (isB a false) (iaT P T.bi h i0 w) w fun i w=>ij (isB a false) (ldT P T.n i w) w fun j w=>ij (isB a false) (iy P .neq T.n (.tmp 18) (.const (.string ⟨#[107,101,101,112]⟩)) j (.string ⟨#[107,101,101,112]⟩) w) w fun l w=>ij (isB a false) (fun K'=>K' l w) w fun b w=>ij (isB b true) (fun K'=>K' c w) w fun m w=>ij (isB b true) (iaT P T.bi m i0 w) w fun n w=>ij (isB b true) (ldT P T.n n w) w fun o w=>ij (isB b true) (iy P .neq T.n (.tmp 23) (.const (.string ⟨#[100,114,111,112]⟩)) o (.string ⟨#[100,114,111,112]⟩) w) w fun p w=>ij (isB a false) (jb b p bF w) w fun q w=>jb a bY q w fun r w=>il r (jq P T.r #[] w fun s w=>stT P T.r d s w fun _ w=>ii (oy P T.r d w) w fun r0=>K (.tuple #[r0,bF]) w) (f [bF] w)) fun t w=>M.dq.j0 c d t w K
theorem M.dq.calls:C1 F.gl M.dq:=mk1 [0,2,3,4,5,6,7,44,52,8,9,80] (fun id=>cond (Nat.beq id 4) ⟨(gS 0 8 (.eff 8 .nil .iz)),[8],false,[0,1,3,7,0,16,48,127,255]⟩ (cond (Nat.beq id 10) ⟨(gS 0 4 (gS 5 3 (.eff 4 (.go 8 (.go 9 .nil)) .iz))),[4],false,[0,1,3,7,15,7,39,103,255,511]⟩ (cond (Nat.beq id 15) ⟨(.go 0 (.go 1 (.eff 2 (.eff 3 (.eff 4 .nil .iz) .iz) .iz))),[2,3,4],false,[0,0,2,7,15]⟩ p0))) Tryz.func129
theorem M.dq.fcall:fC F.gl:=fcN Tryz.func129
def M.ay.j3(a:Value)(b:List Value)(c:Value)(e:KL)(d:List Value):QQ:=fun w K=>bsT P T.bt 1 #[(0,a)] w fun f w=>biT P .append #[T.bt,T.bt] T.bt [false,false] [(gv b 4),f] w fun g w=>slT P T.n (gv b 5) (some c) none none w fun h w=>e [a,c,(gv d 0),(gv d 1),g,h] w
def M.ay.j2(a:List Value)(d:KL):QQ:=fun w K=>ik P F.ex [(gv a 5)] w fun b w=>exT P b 0 w fun e w=>exT P b 1 w fun c w=>im (fun f=>bK .eql T.d 15 c i0 w fun g w=>il g (K (.tuple #[nS,bF]) w) (f [(gv a 2),(gv a 3)] w)) fun h w=>M.ay.j3 e a c d h w K
def M.ay.j1(a:List Value)(b c:KL):QQ:=fun w K=>im (fun d=>biT P .len #[T.n] T.d [false] [(gv a 5)] w fun e w=>bK .gtr T.d 8 e i0 w fun f w=>il f (d [] w) (b [(gv a 0),(gv a 1),(gv a 2),(gv a 3),(gv a 4),(gv a 5)] w)) fun g w=>M.ay.j2 a c w K
def M.ay(a:Value):QQ:=fun w K=>im (fun b=>jo [undef,undef,nS,bF,nS,a] w fun c d w=>M.ay.j1 d b c w K) fun e w=>K (.tuple #[(gv e 4),bY]) w
theorem M.ay.calls:C1 F.ek M.ay:=mk1 [0,2,3,4,5,6] pN Tryz.func133
theorem M.ay.fcall:fC F.ek:=fcN Tryz.func133
end Go.Proofs.YtgepcfcicngceaaGreatDoor
