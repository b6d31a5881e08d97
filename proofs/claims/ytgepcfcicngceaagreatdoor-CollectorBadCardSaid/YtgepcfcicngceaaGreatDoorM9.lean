/-
  Printed by wip/Shallow.lean: functions of the program, read shallow; each is what its code does. No condition.
-/
import Derived.Test.YtgepcfcicngceaaGreatDoorN
set_option maxRecDepth 1000000
namespace Go.Proofs.YtgepcfcicngceaaGreatDoor
open Go.Eng
def M.bx(a b:Value):QQ:=fun w K=>ig P F.dc [a,b] w fun c w=>bK .geq T.d 7 c i0 w fun d w=>K d w
theorem M.bx.calls:C2 F.bp M.bx:=mk2 [0,1,4] pN Tryz.func115
theorem M.bx.fcall:fC F.bp:=fcN Tryz.func115
def M.dj(a:Value):QQ:=fun w K=>ig P F.n [nS,a] w fun b w=>K b w
theorem M.dj.calls:C1 F.cy M.dj:=mk1 [0,2] pN Tryz.func116
theorem M.dj.fcall:fC F.cy:=fcN Tryz.func116
theorem M.gg.fcall:fC F.h:=fcN Tryz.func117
def M.y.j0(a c:Value)(d:KL):QQ:=fun w K=>nxT P a false T.ca w fun e w=>exT P e 0 w fun f w=>ik (fun g=>ij f (g [] w) (K (.tuple #[]) w)) fun l w=>enT P a w fun h w=>exT P h 0 w fun b w=>kx P c [b] w fun i w=>unT P .not i w fun j w=>ij j (K (.tuple #[]) w) (d [b] w)
def M.y(a b:Value):QQ:=fun w K=>ldT P T.v b w fun c w=>rgT P T.v c w fun d w=>jn [undef] w fun e f w=>M.y.j0 d a e w K
theorem M.y.calls:C2 F.c M.y:=mk2 [0,1,3,5] pN Tryz.func118
def M.gh(a b:Value):QQ:=fun w K=>ig P F.fq [a] w fun c w=>cvT P T.d T.a b w fun d w=>bT .add T.a 6 8 c d w fun e w=>ig P F.fq [e] w fun f w=>K f w
theorem M.gh.calls:C2 F.gz M.gh:=mk2 [0,1,4] pN Tryz.func119
theorem M.gh.fcall:fC F.gz:=fcN Tryz.func119
def M.bb(a c:Value):QQ:=fun w K=>biT P .len #[T.an] T.d [false] [a] w fun b w=>cvT P T.d T.bs b w fun d w=>ig P F.ds [d] w fun e w=>ig P F.aq [a,i0,b,e,c] w fun f w=>K (.tuple #[]) w
theorem M.bb.calls:C2 F.ak M.bb:=mk2 [0,1,4] pN Tryz.func120
theorem M.bb.fcall:fC F.ak:=fcN Tryz.func120
def M.fj(g h:Value):QQ:=fun w K=>lj P T.au g w fun a w=>lj P T.au h w fun b w=>jb w fun w=>ic (faT P T.au a 0 w) w fun i=>ic (ldT P T.a i w) w fun j=>ic (faT P T.au b 0 w) w fun l=>ic (ldT P T.a l w) w fun m=>ic (faT P T.au a 1 w) w fun c=>ic (ldT P T.a c w) w fun e=>ic (faT P T.au b 1 w) w fun d=>ic (ldT P T.a d w) w fun f=>ig P F.az [j,m] w fun n w=>ii (ldT P T.a d w) w f/\ii (faT P T.au b 1 w) w d/\ii (ldT P T.a c w) w e/\ii (faT P T.au a 1 w) w c/\ig P F.az [e,f] w fun o w=>bsT P T.bx 2 #[(0,n),(1,o)] w fun p w=>ig P F.fp [p] w fun q w=>K q w
theorem M.fj.calls:C2 F.ed M.fj:=mk2 [0,1,4] (fun id=>cond (Nat.beq id 1) ⟨(gS 0 4 (gS 5 4 (.eff 4 (.eff 9 (.eff 10 (.eff 11 (.eff 12 .nil .ir) .ir) .ir) .ir) .ir))),[4,9,10,11,12],false,[0,1,0,4,15,0,32,0,128,511,1023,2047,4095]⟩ p0) Tryz.func121
theorem M.fj.fcall:fC F.ed:=fcN Tryz.func121
def M.ds.j2(d:Value)(a:List Value)(e:KL):QQ:=fun w K=>ik (fun f=>iaT P T.bx d (gv a 2) w fun g w=>ldT P T.d g w fun b w=>bT .neq T.d 12 13 b i0 w fun h w=>ij h (K b w) (f [b,(gv a 1)] w)) fun c w=>bK .add T.d 8 (gv a 2) i1 w fun i w=>e [(gv c 0),(gv c 1),i] w
def M.ds(b:Value):QQ:=fun w K=>ik (fun d=>biT P .len #[T.bx] T.d [false] [b] w fun c w=>jn [undef,i0,i0] w fun e a w=>bT .lss T.d 8 7 (gv a 2) c w fun f w=>ik (fun g=>ij f (g [] w) (d [b,c,(gv a 2),(gv a 0),(gv a 1)] w)) fun h w=>M.ds.j2 b a e w K) fun i w=>K i0 w
theorem M.ds.calls:C1 F.fp M.ds:=mk1 [0,2,3,5,8,7,6] pN Tryz.func122
theorem M.ds.fcall:fC F.fp:=fcN Tryz.func122
def M.bf.j2(a b:Value)(c:List Value):QQ:=fun w K=>ik (fun d=>bT .lss T.a 14 15 a b w fun e w=>ij e (K (.int .i64 (-1)) w) (d [(gv c 0)] w)) fun f w=>ik (fun g=>bT .gtr T.a 17 18 a b w fun h w=>ij h (K i1 w) (g [(gv f 0)] w)) fun i w=>K i0 w
def M.bf(a b:Value):QQ:=fun w K=>ig P F.ag [a] w fun d w=>ig P F.ag [b] w fun c w=>ik (fun e=>ij d (ik (fun f=>ij c (K i0 w) (f [i0] w)) fun j w=>K (.int .i64 (-1)) w) (e [i0] w)) fun g w=>ik (fun h=>ij c (K i1 w) (h [(gv g 0)] w)) fun i w=>M.bf.j2 a b i w K
theorem M.bf.calls:C2 F.az M.bf:=mk2 [0,1,4,5,6] pN Tryz.func123
theorem M.bf.fcall:fC F.az:=fcN Tryz.func123
def M.ft(a:Value):QQ:=fun w K=>ik (fun b=>biT P .len #[T.s] T.d [false] [a] w fun c w=>bK .eql T.d 4 c i0 w fun d w=>ij d (K i0 w) (b [i0] w)) fun g w=>jg P T.c #[(0,(.int .i64 3)),(7,a)] w fun e w=>ig P F.dr [e] w fun f w=>K f w
theorem M.ft.calls:C1 F.gc M.ft:=mk1 [0,2] pN Tryz.func124
theorem M.ft.fcall:fC F.gc:=fcN Tryz.func124
def M.fu.j0(a c:Value):QQ:=fun w K=>ig P F.y [a,c,(.func (.func F.gm) #[] #[])] w fun b w=>exT P b 0 w fun d w=>exT P b 1 w fun j w=>biT P .len #[T.an] T.d [false] [a] w fun e w=>iq P .rem T.d (.tmp 17) (.tmp 19) d e w fun f w=>iaT P T.an a f w fun g w=>faT P T.au g 1 w fun h w=>ldT P T.a h w fun i w=>K i w
def M.fu(a b:Value):QQ:=fun w K=>ik (fun c=>biT P .len #[T.an] T.d [false] [a] w fun d w=>bK .eql T.d 8 d i0 w fun e w=>ij e (K u0 w) (c [u0] w)) fun f w=>M.fu.j0 a b w K
theorem M.fu.calls:C2 F.hi M.fu:=mk2 [0,1,4,5,6] pN Tryz.func125
theorem M.fu.fcall:fC F.hi:=fcN Tryz.func125
def M.fv(d:Value):QQ:=fun w K=>bK .add T.a 3 d (.int .u64 11400714819323198485) w fun a w=>iq P .shr T.a (.tmp 6) (.const (.int .u64 30)) a (.int .u64 30) w fun e w=>iq P .xor T.a (.tmp 5) (.tmp 7) a e w fun f w=>iq P .mul T.a (.tmp 9) (.const (.int .u64 13787848793156543929)) f (.int .u64 13787848793156543929) w fun b w=>iq P .shr T.a (.tmp 12) (.const (.int .u64 27)) b (.int .u64 27) w fun g w=>iq P .xor T.a (.tmp 11) (.tmp 13) b g w fun h w=>iq P .mul T.a (.tmp 15) (.const (.int .u64 10723151780598845931)) h (.int .u64 10723151780598845931) w fun c w=>iq P .shr T.a (.tmp 18) (.const (.int .u64 31)) c (.int .u64 31) w fun i w=>iq P .xor T.a (.tmp 17) (.tmp 19) c i w fun j w=>K j w
theorem M.fv.calls:C1 F.fq M.fv:=mk1 [0,2] pN Tryz.func126
theorem M.fv.fcall:fC F.fq:=fcN Tryz.func126
def M.cn.j3(a:List Value)(c b:Value)(d:KL)(e:List Value):QQ:=fun w K=>bK .add T.d 26 (gv a 2) i1 w fun f w=>biT P .len #[T.m] T.d [false] [c] w fun g w=>bT .add T.d 29 31 b g w fun h w=>slT P T.m (gv a 3) (some h) none none w fun i w=>d [b,(gv e 0),f,i] w
def M.cn.j2(a:List Value)(b:Value)(d:KL):QQ:=fun w K=>ig P F.dt [(gv a 3),b] w fun c w=>ik (fun e=>iq P .eql T.d (.tmp 23) (.const (.int .i64 (-1))) c (.int .i64 (-1)) w fun f w=>ij f (K (gv a 2) w) (e [(gv a 1)] w)) fun g w=>M.cn.j3 a b c d g w K
def M.cn.j0(a b:Value)(c:List Value):QQ:=fun w K=>ik (fun d=>biT P .len #[T.m] T.d [false] [a] w fun e w=>bK .eql T.d 14 e i1 w fun f w=>ij f (ixT P T.m a i0 w fun g w=>ig P F.aj [b,g] w fun h w=>K h w) (d [(gv c 0)] w)) fun i w=>jn [undef,(gv i 0),i0,b] w fun j l w=>M.cn.j2 l a j w K
def M.cn(a b:Value):QQ:=fun w K=>ik (fun c=>biT P .len #[T.m] T.d [false] [b] w fun d w=>bK .eql T.d 8 d i0 w fun e w=>ij e (ig P F.ge [a] w fun f w=>bK .add T.d 11 f i1 w fun g w=>K g w) (c [i0] w)) fun h w=>M.cn.j0 b a h w K
theorem M.cn.calls:C2 F.ev M.cn:=mk2 [0,1,4,5,6] pN Tryz.func127
theorem M.cn.fcall:fC F.ev:=fcN Tryz.func127
def M.ek(a b:Value):QQ:=fun w K=>ig P F.fx [a,b,i0] w fun c w=>K c w
theorem M.ek.calls:C2 F.fw M.ek:=mk2 [0,1,4] pN Tryz.func128
theorem M.ek.fcall:fC F.fw:=fcN Tryz.func128
def M.dn.j1(a:Value):QQ:=fun w K=>jb w fun w=>ic (ldT P T.q a w) w fun b=>ic (ldT P T.q a w) w fun c=>ig P F.dh [c] w fun d w=>ii (ldT P T.q a w) w b/\stT P T.q a b w fun _ w=>ic (mi P T.q a w) w fun r0=>K (.tuple #[r0,d]) w
def M.dn.j0(b c:Value)(h:List Value):QQ:=fun w K=>jb w fun w=>w=w/\ic (iaT P T.bg b i0 w) w fun u=>ic (ldT P T.m u w) w fun v=>ic (iq P .eql T.m (.tmp 30) (.const (.string ⟨#[107,101,101,112]⟩)) v (.string ⟨#[107,101,101,112]⟩) w) w fun x=>w=w/\ic (iaT P T.bg b i1 w) w fun y=>ic (ldT P T.m y w) w fun z=>ic (jg P T.q #[(0,x),(1,z)] w) w fun A=>stT P T.q c A w fun _ w=>faT P T.q c 1 w fun B w=>ldT P T.m B w fun C w=>ig P F.ft [C] w fun i w=>exT P i 0 w fun j w=>exT P i 1 w fun a5 w=>exT P i 2 w fun a6 w=>ik (fun l=>bK .eql T.d 45 j i1 w fun d w=>ie (isB d true) (fun K'=>K' b w) w fun D w=>ie (isB d true) (biT P .len #[T.bg] T.d [false] [D] w) w fun E w=>ie (isB d true) (bK .eql T.d 49 E i2 w) w fun G w=>iw d G bF w fun e w=>ij e (l [e,undef,undef,undef,(gv h 0),undef] w) (bK .eql T.d 53 j i2 w fun f w=>ie (isB f true) (fun K'=>K' b w) w fun H w=>ie (isB f true) (biT P .len #[T.bg] T.d [false] [H] w) w fun I w=>ie (isB f true) (bK .eql T.d 57 I (.int .i64 3) w) w fun J w=>iw f J bF w fun m w=>ij m (iaT P T.bg b i2 w fun L w=>ldT P T.m L w fun N w=>ig P F.hd [N,(.int .i64 10),(.int .i64 64)] w fun q w=>exT P q 0 w fun n w=>exT P q 1 w fun r w=>ik (fun O=>jb w fun w=>w=w/\ic (iq P .neq T.cc (.tmp 67) (.const .nilIface) r .nilIface w) w fun a=>w=w/\ic (fun K'=>ie (isB a false) (fun K'=>K' n w) w K') w fun Q=>ic (fun K'=>ie (isB a false) (fun K'=>K' b w) w K') w fun o=>ic (ie (isB a false) (iaT P T.bg o i2 w) w) w fun p=>ic (ie (isB a false) (ldT P T.m p w) w) w fun s=>ie (isB a false) (ig P F.gy [Q,(.int .i64 10)] w) w fun R w=>ii (ie (isB a false) (ldT P T.m p w) w) w s/\ii (ie (isB a false) (iaT P T.bg o i2 w) w) w p/\ii (fun K'=>ie (isB a false) (fun K'=>K' b w) w K') w o/\ic (ie (isB a false) (iq P .neq T.m (.tmp 71) (.tmp 74) R s w) w) w fun S=>ic (iw a bY S w) w fun U=>ij U (jg P T.q #[] w fun V w=>stT P T.q c V w fun _ w=>ic (mi P T.q c w) w fun r0=>K (.tuple #[r0,bF]) w) (O [(gv h 0)] w)) fun W w=>faT P T.q c 2 w fun X w=>stT P T.a X n w fun _ w=>l [e,m,n,r,(gv W 0),undef] w) (bK .eql T.d 81 j (.int .i64 3) w fun g w=>ie (isB g true) (fun K'=>K' b w) w fun Y w=>ie (isB g true) (biT P .len #[T.bg] T.d [false] [Y] w) w fun Z w=>ie (isB g true) (bK .eql T.d 85 Z (.int .i64 3) w) w fun a0 w=>iw g a0 bF w fun t w=>ij t (iaT P T.bg b i2 w fun a1 w=>ldT P T.m a1 w fun a2 w=>faT P T.q c 3 w fun a3 w=>stT P T.m a3 a2 w fun _ w=>l [e,m,undef,undef,(gv h 0),t] w) (jg P T.q #[] w fun a4 w=>stT P T.q c a4 w fun _ w=>ic (mi P T.q c w) w fun r0=>K (.tuple #[r0,bF]) w)))) fun a7 w=>M.dn.j1 c w K
def M.dn(e:Value):QQ:=fun w K=>alT P T.q w fun d w=>ig P F.fv [e,(.string ⟨#[32]⟩)] w fun c w=>ik (fun f=>biT P .len #[T.bg] T.d [false] [c] w fun g w=>bK .lss T.d 13 g i2 w fun a w=>ie (isB a false) (fun K'=>K' c w) w fun h w=>ie (isB a false) (iaT P T.bg h i0 w) w fun i w=>ie (isB a false) (ldT P T.m i w) w fun j w=>ie (isB a false) (iq P .neq T.m (.tmp 18) (.const (.string ⟨#[107,101,101,112]⟩)) j (.string ⟨#[107,101,101,112]⟩) w) w fun l w=>ie (isB a false) (fun K'=>K' l w) w fun b w=>ie (isB b true) (fun K'=>K' c w) w fun m w=>ie (isB b true) (iaT P T.bg m i0 w) w fun n w=>ie (isB b true) (ldT P T.m n w) w fun o w=>ie (isB b true) (iq P .neq T.m (.tmp 23) (.const (.string ⟨#[100,114,111,112]⟩)) o (.string ⟨#[100,114,111,112]⟩) w) w fun p w=>ie (isB a false) (iw b p bF w) w fun q w=>iw a bY q w fun r w=>ij r (jg P T.q #[] w fun s w=>stT P T.q d s w fun _ w=>ic (mi P T.q d w) w fun r0=>K (.tuple #[r0,bF]) w) (f [bF] w)) fun t w=>M.dn.j0 c d t w K
theorem M.dn.calls:C1 F.gh M.dn:=mk1 [0,2,3,4,5,6,7,44,52,8,9,80] (fun id=>cond (Nat.beq id 4) ⟨(gS 0 8 (.eff 8 .nil .ir)),[8],false,[0,1,3,7,0,16,48,127,255]⟩ (cond (Nat.beq id 10) ⟨(gS 0 4 (gS 5 3 (.eff 4 (.go 8 (.go 9 .nil)) .ir))),[4],false,[0,1,3,7,15,7,39,103,255,511]⟩ (cond (Nat.beq id 15) ⟨(.go 0 (.go 1 (.eff 2 (.eff 3 (.eff 4 .nil .ir) .ir) .ir))),[2,3,4],false,[0,0,2,7,15]⟩ p0))) Tryz.func129
theorem M.dn.fcall:fC F.gh:=fcN Tryz.func129
def M.av.j3(a:Value)(b:List Value)(c:Value)(e:KL)(d:List Value):QQ:=fun w K=>bsT P T.bq 1 #[(0,a)] w fun f w=>biT P .append #[T.bq,T.bq] T.bq [false,false] [(gv b 4),f] w fun g w=>slT P T.m (gv b 5) (some c) none none w fun h w=>e [a,c,(gv d 0),(gv d 1),g,h] w
def M.av.j2(a:List Value)(d:KL):QQ:=fun w K=>ig P F.er [(gv a 5)] w fun b w=>exT P b 0 w fun e w=>exT P b 1 w fun c w=>ik (fun f=>bK .eql T.d 15 c i0 w fun g w=>ij g (K (.tuple #[nS,bF]) w) (f [(gv a 2),(gv a 3)] w)) fun h w=>M.av.j3 e a c d h w K
def M.av.j1(a:List Value)(b c:KL):QQ:=fun w K=>ik (fun d=>biT P .len #[T.m] T.d [false] [(gv a 5)] w fun e w=>bK .gtr T.d 8 e i0 w fun f w=>ij f (d [] w) (b [(gv a 0),(gv a 1),(gv a 2),(gv a 3),(gv a 4),(gv a 5)] w)) fun g w=>M.av.j2 a c w K
def M.av(a:Value):QQ:=fun w K=>ik (fun b=>jn [undef,undef,nS,bF,nS,a] w fun c d w=>M.av.j1 d b c w K) fun e w=>K (.tuple #[(gv e 4),bY]) w
theorem M.av.calls:C1 F.eh M.av:=mk1 [0,2,3,4,5,6] pN Tryz.func133
theorem M.av.fcall:fC F.eh:=fcN Tryz.func133
end Go.Proofs.YtgepcfcicngceaaGreatDoor
