/-
  Printed by wip/Shallow.lean: functions of the program, read shallow; each is what its code does. No condition.
-/
import Derived.Test.YtgepcfcicngceaaGreatDoorN
set_option maxRecDepth 1000000
namespace Go.Proofs.YtgepcfcicngceaaGreatDoor
open Go.Eng
def M.bt(a b:Value):QQ:=fun w K=>ie P F.cy [a,b] w fun c w=>bK .geq T.d 7 c i0 w fun d w=>K d w
theorem M.bt.calls:C2 F.bk M.bt:=mk2 [0,1,4] pN Tryz.func115
theorem M.bt.fcall:fC F.bk:=fcN Tryz.func115
def M.dd(a:Value):QQ:=fun w K=>ie P F.m [nS,a] w fun b w=>K b w
theorem M.dd.calls:C1 F.ct M.dd:=mk1 [0,2] pN Tryz.func116
theorem M.dd.fcall:fC F.ct:=fcN Tryz.func116
theorem M.ga.fcall:fC F.g:=fcN Tryz.func117
def M.y.j0(a c:Value)(d:KL):QQ:=fun w K=>nxT P a false T.ca w fun e w=>exT P e 0 w fun f w=>ii (fun g=>ig f (g [] w) (K (.tuple #[]) w)) fun l w=>enT P a w fun h w=>exT P h 0 w fun b w=>ku P c [b] w fun i w=>unT P .not i w fun j w=>ig j (K (.tuple #[]) w) (d [b] w)
def M.y(a b:Value):QQ:=fun w K=>ldT P T.v b w fun c w=>rgT P T.v c w fun d w=>jl [undef] w fun e f w=>M.y.j0 d a e w K
theorem M.y.calls:C2 F.b M.y:=mk2 [0,1,3,5] pN Tryz.func118
def M.gb(a b:Value):QQ:=fun w K=>ie P F.fk [a] w fun c w=>cvT P T.d T.a b w fun d w=>bT .add T.a 6 8 c d w fun e w=>ie P F.fk [e] w fun f w=>K f w
theorem M.gb.calls:C2 F.gt M.gb:=mk2 [0,1,4] pN Tryz.func119
theorem M.gb.fcall:fC F.gt:=fcN Tryz.func119
def M.ay(a c:Value):QQ:=fun w K=>biT P .len #[T.al] T.d [false] [a] w fun b w=>cvT P T.d T.bs b w fun d w=>ie P F.dl [d] w fun e w=>ie P F.aq [a,i0,b,e,c] w fun f w=>K (.tuple #[]) w
theorem M.ay.calls:C2 F.ai M.ay:=mk2 [0,1,4] pN Tryz.func120
theorem M.ay.fcall:fC F.ai:=fcN Tryz.func120
def M.fd(g h:Value):QQ:=fun w K=>lh P T.aq g w fun a w=>lh P T.aq h w fun b w=>jb w fun w=>ib (faT P T.aq a 0 w) w fun i=>ib (ldT P T.a i w) w fun j=>ib (faT P T.aq b 0 w) w fun l=>ib (ldT P T.a l w) w fun m=>ib (faT P T.aq a 1 w) w fun c=>ib (ldT P T.a c w) w fun e=>ib (faT P T.aq b 1 w) w fun d=>ib (ldT P T.a d w) w fun f=>ie P F.ax [j,m] w fun n w=>ij (ldT P T.a d w) w f/\ij (faT P T.aq b 1 w) w d/\ij (ldT P T.a c w) w e/\ij (faT P T.aq a 1 w) w c/\ie P F.ax [e,f] w fun o w=>bsT P T.bx 2 #[(0,n),(1,o)] w fun p w=>ie P F.fj [p] w fun q w=>K q w
theorem M.fd.calls:C2 F.dx M.fd:=mk2 [0,1,4] (fun id=>cond (Nat.beq id 1) ⟨(gS 0 4 (gS 5 4 (.eff 4 (.eff 9 (.eff 10 (.eff 11 (.eff 12 .nil .ir) .ir) .ir) .ir) .ir))),[4,9,10,11,12],false,[0,1,0,4,15,0,32,0,128,511,1023,2047,4095]⟩ p0) Tryz.func121
theorem M.fd.fcall:fC F.dx:=fcN Tryz.func121
def M.dl.j2(d:Value)(a:List Value)(e:KL):QQ:=fun w K=>ii (fun f=>iaT P T.bx d (gv a 2) w fun g w=>ldT P T.d g w fun b w=>bT .neq T.d 12 13 b i0 w fun h w=>ig h (K b w) (f [b,(gv a 1)] w)) fun c w=>bK .add T.d 8 (gv a 2) i1 w fun i w=>e [(gv c 0),(gv c 1),i] w
def M.dl(b:Value):QQ:=fun w K=>ii (fun d=>biT P .len #[T.bx] T.d [false] [b] w fun c w=>jl [undef,i0,i0] w fun e a w=>bT .lss T.d 8 7 (gv a 2) c w fun f w=>ii (fun g=>ig f (g [] w) (d [b,c,(gv a 2),(gv a 0),(gv a 1)] w)) fun h w=>M.dl.j2 b a e w K) fun i w=>K i0 w
theorem M.dl.calls:C1 F.fj M.dl:=mk1 [0,2,3,5,8,7,6] pN Tryz.func122
theorem M.dl.fcall:fC F.fj:=fcN Tryz.func122
def M.bc.j2(a b:Value)(c:List Value):QQ:=fun w K=>ii (fun d=>bT .lss T.a 14 15 a b w fun e w=>ig e (K (.int .i64 (-1)) w) (d [(gv c 0)] w)) fun f w=>ii (fun g=>bT .gtr T.a 17 18 a b w fun h w=>ig h (K i1 w) (g [(gv f 0)] w)) fun i w=>K i0 w
def M.bc(a b:Value):QQ:=fun w K=>ie P F.ae [a] w fun d w=>ie P F.ae [b] w fun c w=>ii (fun e=>ig d (ii (fun f=>ig c (K i0 w) (f [i0] w)) fun j w=>K (.int .i64 (-1)) w) (e [i0] w)) fun g w=>ii (fun h=>ig c (K i1 w) (h [(gv g 0)] w)) fun i w=>M.bc.j2 a b i w K
theorem M.bc.calls:C2 F.ax M.bc:=mk2 [0,1,4,5,6] pN Tryz.func123
theorem M.bc.fcall:fC F.ax:=fcN Tryz.func123
def M.fn(a:Value):QQ:=fun w K=>ii (fun b=>biT P .len #[T.s] T.d [false] [a] w fun c w=>bK .eql T.d 4 c i0 w fun d w=>ig d (K i0 w) (b [i0] w)) fun g w=>jj P T.c #[(0,(.int .i64 3)),(7,a)] w fun e w=>ie P F.dk [e] w fun f w=>K f w
theorem M.fn.calls:C1 F.fw M.fn:=mk1 [0,2] pN Tryz.func124
theorem M.fn.fcall:fC F.fw:=fcN Tryz.func124
def M.fo.j0(a c:Value):QQ:=fun w K=>ie P F.w [a,c,(.func (.func F.gg) #[] #[])] w fun b w=>exT P b 0 w fun d w=>exT P b 1 w fun j w=>biT P .len #[T.al] T.d [false] [a] w fun e w=>ip P .rem T.d (.tmp 17) (.tmp 19) d e w fun f w=>iaT P T.al a f w fun g w=>faT P T.aq g 1 w fun h w=>ldT P T.a h w fun i w=>K i w
def M.fo(a b:Value):QQ:=fun w K=>ii (fun c=>biT P .len #[T.al] T.d [false] [a] w fun d w=>bK .eql T.d 8 d i0 w fun e w=>ig e (K u0 w) (c [u0] w)) fun f w=>M.fo.j0 a b w K
theorem M.fo.calls:C2 F.hc M.fo:=mk2 [0,1,4,5,6] pN Tryz.func125
theorem M.fo.fcall:fC F.hc:=fcN Tryz.func125
def M.fp(d:Value):QQ:=fun w K=>bK .add T.a 3 d (.int .u64 11400714819323198485) w fun a w=>ip P .shr T.a (.tmp 6) (.const (.int .u64 30)) a (.int .u64 30) w fun e w=>ip P .xor T.a (.tmp 5) (.tmp 7) a e w fun f w=>ip P .mul T.a (.tmp 9) (.const (.int .u64 13787848793156543929)) f (.int .u64 13787848793156543929) w fun b w=>ip P .shr T.a (.tmp 12) (.const (.int .u64 27)) b (.int .u64 27) w fun g w=>ip P .xor T.a (.tmp 11) (.tmp 13) b g w fun h w=>ip P .mul T.a (.tmp 15) (.const (.int .u64 10723151780598845931)) h (.int .u64 10723151780598845931) w fun c w=>ip P .shr T.a (.tmp 18) (.const (.int .u64 31)) c (.int .u64 31) w fun i w=>ip P .xor T.a (.tmp 17) (.tmp 19) c i w fun j w=>K j w
theorem M.fp.calls:C1 F.fk M.fp:=mk1 [0,2] pN Tryz.func126
theorem M.fp.fcall:fC F.fk:=fcN Tryz.func126
def M.ch.j3(a:List Value)(c b:Value)(d:KL)(e:List Value):QQ:=fun w K=>bK .add T.d 26 (gv a 2) i1 w fun f w=>biT P .len #[T.l] T.d [false] [c] w fun g w=>bT .add T.d 29 31 b g w fun h w=>slT P T.l (gv a 3) (some h) none none w fun i w=>d [b,(gv e 0),f,i] w
def M.ch.j2(a:List Value)(b:Value)(d:KL):QQ:=fun w K=>ie P F.dm [(gv a 3),b] w fun c w=>ii (fun e=>ip P .eql T.d (.tmp 23) (.const (.int .i64 (-1))) c (.int .i64 (-1)) w fun f w=>ig f (K (gv a 2) w) (e [(gv a 1)] w)) fun g w=>M.ch.j3 a b c d g w K
def M.ch.j0(a b:Value)(c:List Value):QQ:=fun w K=>ii (fun d=>biT P .len #[T.l] T.d [false] [a] w fun e w=>bK .eql T.d 14 e i1 w fun f w=>ig f (ixT P T.l a i0 w fun g w=>ie P F.ah [b,g] w fun h w=>K h w) (d [(gv c 0)] w)) fun i w=>jl [undef,(gv i 0),i0,b] w fun j l w=>M.ch.j2 l a j w K
def M.ch(a b:Value):QQ:=fun w K=>ii (fun c=>biT P .len #[T.l] T.d [false] [b] w fun d w=>bK .eql T.d 8 d i0 w fun e w=>ig e (ie P F.fy [a] w fun f w=>bK .add T.d 11 f i1 w fun g w=>K g w) (c [i0] w)) fun h w=>M.ch.j0 b a h w K
theorem M.ch.calls:C2 F.ep M.ch:=mk2 [0,1,4,5,6] pN Tryz.func127
theorem M.ch.fcall:fC F.ep:=fcN Tryz.func127
def M.ee(a b:Value):QQ:=fun w K=>ie P F.fr [a,b,i0] w fun c w=>K c w
theorem M.ee.calls:C2 F.fq M.ee:=mk2 [0,1,4] pN Tryz.func128
theorem M.ee.fcall:fC F.fq:=fcN Tryz.func128
def M.dh.j1(a:Value):QQ:=fun w K=>jb w fun w=>ib (ldT P T.p a w) w fun b=>ib (ldT P T.p a w) w fun c=>ie P F.dc [c] w fun d w=>ij (ldT P T.p a w) w b/\stT P T.p a b w fun _ w=>ib (ng P T.p a w) w fun r0=>K (.tuple #[r0,d]) w
def M.dh.j0(b c:Value)(h:List Value):QQ:=fun w K=>jb w fun w=>w=w/\ib (iaT P T.bf b i0 w) w fun u=>ib (ldT P T.l u w) w fun v=>ib (ip P .eql T.l (.tmp 30) (.const (.string ⟨#[107,101,101,112]⟩)) v (.string ⟨#[107,101,101,112]⟩) w) w fun x=>w=w/\ib (iaT P T.bf b i1 w) w fun y=>ib (ldT P T.l y w) w fun z=>ib (jj P T.p #[(0,x),(1,z)] w) w fun A=>stT P T.p c A w fun _ w=>faT P T.p c 1 w fun B w=>ldT P T.l B w fun C w=>ie P F.fn [C] w fun i w=>exT P i 0 w fun j w=>exT P i 1 w fun a5 w=>exT P i 2 w fun a6 w=>ii (fun l=>bK .eql T.d 45 j i1 w fun d w=>ic (isB d true) (fun K'=>K' b w) w fun D w=>ic (isB d true) (biT P .len #[T.bf] T.d [false] [D] w) w fun E w=>ic (isB d true) (bK .eql T.d 49 E i2 w) w fun G w=>iu d G bF w fun e w=>ig e (l [e,undef,undef,undef,(gv h 0),undef] w) (bK .eql T.d 53 j i2 w fun f w=>ic (isB f true) (fun K'=>K' b w) w fun H w=>ic (isB f true) (biT P .len #[T.bf] T.d [false] [H] w) w fun I w=>ic (isB f true) (bK .eql T.d 57 I (.int .i64 3) w) w fun J w=>iu f J bF w fun m w=>ig m (iaT P T.bf b i2 w fun L w=>ldT P T.l L w fun N w=>ie P F.gx [N,(.int .i64 10),(.int .i64 64)] w fun q w=>exT P q 0 w fun n w=>exT P q 1 w fun r w=>ii (fun O=>jb w fun w=>w=w/\ib (ip P .neq T.cc (.tmp 67) (.const .nilIface) r .nilIface w) w fun a=>w=w/\ib (fun K'=>ic (isB a false) (fun K'=>K' n w) w K') w fun Q=>ib (fun K'=>ic (isB a false) (fun K'=>K' b w) w K') w fun o=>ib (ic (isB a false) (iaT P T.bf o i2 w) w) w fun p=>ib (ic (isB a false) (ldT P T.l p w) w) w fun s=>ic (isB a false) (ie P F.gs [Q,(.int .i64 10)] w) w fun R w=>ij (ic (isB a false) (ldT P T.l p w) w) w s/\ij (ic (isB a false) (iaT P T.bf o i2 w) w) w p/\ij (fun K'=>ic (isB a false) (fun K'=>K' b w) w K') w o/\ib (ic (isB a false) (ip P .neq T.l (.tmp 71) (.tmp 74) R s w) w) w fun S=>ib (iu a bY S w) w fun U=>ig U (jj P T.p #[] w fun V w=>stT P T.p c V w fun _ w=>ib (ng P T.p c w) w fun r0=>K (.tuple #[r0,bF]) w) (O [(gv h 0)] w)) fun W w=>faT P T.p c 2 w fun X w=>stT P T.a X n w fun _ w=>l [e,m,n,r,(gv W 0),undef] w) (bK .eql T.d 81 j (.int .i64 3) w fun g w=>ic (isB g true) (fun K'=>K' b w) w fun Y w=>ic (isB g true) (biT P .len #[T.bf] T.d [false] [Y] w) w fun Z w=>ic (isB g true) (bK .eql T.d 85 Z (.int .i64 3) w) w fun a0 w=>iu g a0 bF w fun t w=>ig t (iaT P T.bf b i2 w fun a1 w=>ldT P T.l a1 w fun a2 w=>faT P T.p c 3 w fun a3 w=>stT P T.l a3 a2 w fun _ w=>l [e,m,undef,undef,(gv h 0),t] w) (jj P T.p #[] w fun a4 w=>stT P T.p c a4 w fun _ w=>ib (ng P T.p c w) w fun r0=>K (.tuple #[r0,bF]) w)))) fun a7 w=>M.dh.j1 c w K
def M.dh(e:Value):QQ:=fun w K=>alT P T.p w fun d w=>ie P F.fp [e,(.string ⟨#[32]⟩)] w fun c w=>ii (fun f=>biT P .len #[T.bf] T.d [false] [c] w fun g w=>bK .lss T.d 13 g i2 w fun a w=>ic (isB a false) (fun K'=>K' c w) w fun h w=>ic (isB a false) (iaT P T.bf h i0 w) w fun i w=>ic (isB a false) (ldT P T.l i w) w fun j w=>ic (isB a false) (ip P .neq T.l (.tmp 18) (.const (.string ⟨#[107,101,101,112]⟩)) j (.string ⟨#[107,101,101,112]⟩) w) w fun l w=>ic (isB a false) (fun K'=>K' l w) w fun b w=>ic (isB b true) (fun K'=>K' c w) w fun m w=>ic (isB b true) (iaT P T.bf m i0 w) w fun n w=>ic (isB b true) (ldT P T.l n w) w fun o w=>ic (isB b true) (ip P .neq T.l (.tmp 23) (.const (.string ⟨#[100,114,111,112]⟩)) o (.string ⟨#[100,114,111,112]⟩) w) w fun p w=>ic (isB a false) (iu b p bF w) w fun q w=>iu a bY q w fun r w=>ig r (jj P T.p #[] w fun s w=>stT P T.p d s w fun _ w=>ib (ng P T.p d w) w fun r0=>K (.tuple #[r0,bF]) w) (f [bF] w)) fun t w=>M.dh.j0 c d t w K
theorem M.dh.calls:C1 F.gb M.dh:=mk1 [0,2,3,4,5,6,7,44,52,8,9,80] (fun id=>cond (Nat.beq id 4) ⟨(gS 0 8 (.eff 8 .nil .ir)),[8],false,[0,1,3,7,0,16,48,127,255]⟩ (cond (Nat.beq id 10) ⟨(gS 0 4 (gS 5 3 (.eff 4 (.go 8 (.go 9 .nil)) .ir))),[4],false,[0,1,3,7,15,7,39,103,255,511]⟩ (cond (Nat.beq id 15) ⟨(.go 0 (.go 1 (.eff 2 (.eff 3 (.eff 4 .nil .ir) .ir) .ir))),[2,3,4],false,[0,0,2,7,15]⟩ p0))) Tryz.func129
theorem M.dh.fcall:fC F.gb:=fcN Tryz.func129
def M.ar.j3(a:Value)(b:List Value)(c:Value)(e:KL)(d:List Value):QQ:=fun w K=>bsT P T.bq 1 #[(0,a)] w fun f w=>biT P .append #[T.bq,T.bq] T.bq [false,false] [(gv b 4),f] w fun g w=>slT P T.l (gv b 5) (some c) none none w fun h w=>e [a,c,(gv d 0),(gv d 1),g,h] w
def M.ar.j2(a:List Value)(d:KL):QQ:=fun w K=>ie P F.el [(gv a 5)] w fun b w=>exT P b 0 w fun e w=>exT P b 1 w fun c w=>ii (fun f=>bK .eql T.d 15 c i0 w fun g w=>ig g (K (.tuple #[nS,bF]) w) (f [(gv a 2),(gv a 3)] w)) fun h w=>M.ar.j3 e a c d h w K
def M.ar.j1(a:List Value)(b c:KL):QQ:=fun w K=>ii (fun d=>biT P .len #[T.l] T.d [false] [(gv a 5)] w fun e w=>bK .gtr T.d 8 e i0 w fun f w=>ig f (d [] w) (b [(gv a 0),(gv a 1),(gv a 2),(gv a 3),(gv a 4),(gv a 5)] w)) fun g w=>M.ar.j2 a c w K
def M.ar(a:Value):QQ:=fun w K=>ii (fun b=>jl [undef,undef,nS,bF,nS,a] w fun c d w=>M.ar.j1 d b c w K) fun e w=>K (.tuple #[(gv e 4),bY]) w
theorem M.ar.calls:C1 F.ec M.ar:=mk1 [0,2,3,4,5,6] pN Tryz.func133
theorem M.ar.fcall:fC F.ec:=fcN Tryz.func133
end Go.Proofs.YtgepcfcicngceaaGreatDoor
