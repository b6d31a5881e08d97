/-
  Printed by wip/Shallow.lean: functions of the program, read shallow; each is what its code does. No condition.
-/
import Derived.Test.YtgepcfcicngceaaGreatDoorN
set_option maxRecDepth 1000000
namespace Go.Proofs.YtgepcfcicngceaaGreatDoor
open Go.Eng
def M.bx(a b:Value):QQ:=fun w K=>ig P F.da [a,b] w fun c w=>bK .geq T.d 7 c i0 w fun d w=>K d w
theorem M.bx.calls:C2 F.bn M.bx:=mk2 [0,1,4] pN Tryz.func115
theorem M.bx.fcall:fC F.bn:=fcN Tryz.func115
def M.de(a:Value):QQ:=fun w K=>ig P F.m [nS,a] w fun b w=>K b w
theorem M.de.calls:C1 F.cw M.de:=mk1 [0,2] pN Tryz.func116
theorem M.de.fcall:fC F.cw:=fcN Tryz.func116
theorem M.gf.fcall:fC F.g:=fcN Tryz.func117
def M.y.j0(a c:Value)(d:KL):QQ:=fun w K=>nxT P a false T.bz w fun e w=>exT P e 0 w fun f w=>ij (fun g=>ii f (g [] w) (K (.tuple #[]) w)) fun l w=>enT P a w fun h w=>exT P h 0 w fun b w=>ku P c [b] w fun i w=>unT P .not i w fun j w=>ii j (K (.tuple #[]) w) (d [b] w)
def M.y(a b:Value):QQ:=fun w K=>ldT P T.u b w fun c w=>rgT P T.u c w fun d w=>jm [undef] w fun e f w=>M.y.j0 d a e w K
theorem M.y.calls:C2 F.b M.y:=mk2 [0,1,3,5] pN Tryz.func118
def M.gg(a b:Value):QQ:=fun w K=>ig P F.fo [a] w fun c w=>cvT P T.d T.a b w fun d w=>bT .add T.a 6 8 c d w fun e w=>ig P F.fo [e] w fun f w=>K f w
theorem M.gg.calls:C2 F.gz M.gg:=mk2 [0,1,4] pN Tryz.func119
theorem M.gg.fcall:fC F.gz:=fcN Tryz.func119
def M.ay(a c:Value):QQ:=fun w K=>biT P .len #[T.am] T.d [false] [a] w fun b w=>cvT P T.d T.br b w fun d w=>ig P F.dp [d] w fun e w=>ig P F.au [a,i0,b,e,c] w fun f w=>K (.tuple #[]) w
theorem M.ay.calls:C2 F.ai M.ay:=mk2 [0,1,4] pN Tryz.func120
theorem M.ay.fcall:fC F.ai:=fcN Tryz.func120
def M.fi(g h:Value):QQ:=fun w K=>kz P T.aq g w fun a w=>kz P T.aq h w fun b w=>jb w fun w=>ic (faT P T.aq a 0 w) w fun i=>ic (ldT P T.a i w) w fun j=>ic (faT P T.aq b 0 w) w fun l=>ic (ldT P T.a l w) w fun m=>ic (faT P T.aq a 1 w) w fun c=>ic (ldT P T.a c w) w fun e=>ic (faT P T.aq b 1 w) w fun d=>ic (ldT P T.a d w) w fun f=>ig P F.az [j,m] w fun n w=>ik (ldT P T.a d w) w f/\ik (faT P T.aq b 1 w) w d/\ik (ldT P T.a c w) w e/\ik (faT P T.aq a 1 w) w c/\ig P F.az [e,f] w fun o w=>bsT P T.bw 2 #[(0,n),(1,o)] w fun p w=>ig P F.fn [p] w fun q w=>K q w
theorem M.fi.calls:C2 F.dz M.fi:=mk2 [0,1,4] (fun id=>cond (Nat.beq id 1) ⟨(gS 0 4 (gS 5 4 (.eff 4 (.eff 9 (.eff 10 (.eff 11 (.eff 12 .nil .iu) .iu) .iu) .iu) .iu))),[4,9,10,11,12],false,[0,1,0,4,15,0,32,0,128,511,1023,2047,4095]⟩ p0) Tryz.func121
theorem M.fi.fcall:fC F.dz:=fcN Tryz.func121
def M.dm.j2(d:Value)(a:List Value)(e:KL):QQ:=fun w K=>ij (fun f=>iaT P T.bw d (gv a 2) w fun g w=>ldT P T.d g w fun b w=>bT .neq T.d 12 13 b i0 w fun h w=>ii h (K b w) (f [b,(gv a 1)] w)) fun c w=>bK .add T.d 8 (gv a 2) i1 w fun i w=>e [(gv c 0),(gv c 1),i] w
def M.dm(b:Value):QQ:=fun w K=>ij (fun d=>biT P .len #[T.bw] T.d [false] [b] w fun c w=>jm [undef,i0,i0] w fun e a w=>bT .lss T.d 8 7 (gv a 2) c w fun f w=>ij (fun g=>ii f (g [] w) (d [b,c,(gv a 2),(gv a 0),(gv a 1)] w)) fun h w=>M.dm.j2 b a e w K) fun i w=>K i0 w
theorem M.dm.calls:C1 F.fn M.dm:=mk1 [0,2,3,5,8,7,6] pN Tryz.func122
theorem M.dm.fcall:fC F.fn:=fcN Tryz.func122
def M.bc.j2(a b:Value)(c:List Value):QQ:=fun w K=>ij (fun d=>bT .lss T.a 14 15 a b w fun e w=>ii e (K (.int .i64 (-1)) w) (d [(gv c 0)] w)) fun f w=>ij (fun g=>bT .gtr T.a 17 18 a b w fun h w=>ii h (K i1 w) (g [(gv f 0)] w)) fun i w=>K i0 w
def M.bc(a b:Value):QQ:=fun w K=>ig P F.ae [a] w fun d w=>ig P F.ae [b] w fun c w=>ij (fun e=>ii d (ij (fun f=>ii c (K i0 w) (f [i0] w)) fun j w=>K (.int .i64 (-1)) w) (e [i0] w)) fun g w=>ij (fun h=>ii c (K i1 w) (h [(gv g 0)] w)) fun i w=>M.bc.j2 a b i w K
theorem M.bc.calls:C2 F.az M.bc:=mk2 [0,1,4,5,6] pN Tryz.func123
theorem M.bc.fcall:fC F.az:=fcN Tryz.func123
def M.fs(a:Value):QQ:=fun w K=>ij (fun b=>biT P .len #[T.o] T.d [false] [a] w fun c w=>bK .eql T.d 4 c i0 w fun d w=>ii d (K i0 w) (b [i0] w)) fun g w=>jj P T.c #[(0,(.int .i64 3)),(7,a)] w fun e w=>ig P F.dn [e] w fun f w=>K f w
theorem M.fs.calls:C1 F.gb M.fs:=mk1 [0,2] pN Tryz.func124
theorem M.fs.fcall:fC F.gb:=fcN Tryz.func124
def M.ft.j0(a c:Value):QQ:=fun w K=>ig P F.w [a,c,(.func (.func F.gl) #[] #[])] w fun b w=>exT P b 0 w fun d w=>exT P b 1 w fun j w=>biT P .len #[T.am] T.d [false] [a] w fun e w=>iq P .rem T.d (.tmp 17) (.tmp 19) d e w fun f w=>iaT P T.am a f w fun g w=>faT P T.aq g 1 w fun h w=>ldT P T.a h w fun i w=>K i w
def M.ft(a b:Value):QQ:=fun w K=>ij (fun c=>biT P .len #[T.am] T.d [false] [a] w fun d w=>bK .eql T.d 8 d i0 w fun e w=>ii e (K u0 w) (c [u0] w)) fun f w=>M.ft.j0 a b w K
theorem M.ft.calls:C2 F.hi M.ft:=mk2 [0,1,4,5,6] pN Tryz.func125
theorem M.ft.fcall:fC F.hi:=fcN Tryz.func125
def M.fu(d:Value):QQ:=fun w K=>bK .add T.a 3 d (.int .u64 11400714819323198485) w fun a w=>iq P .shr T.a (.tmp 6) (.const (.int .u64 30)) a (.int .u64 30) w fun e w=>iq P .xor T.a (.tmp 5) (.tmp 7) a e w fun f w=>iq P .mul T.a (.tmp 9) (.const (.int .u64 13787848793156543929)) f (.int .u64 13787848793156543929) w fun b w=>iq P .shr T.a (.tmp 12) (.const (.int .u64 27)) b (.int .u64 27) w fun g w=>iq P .xor T.a (.tmp 11) (.tmp 13) b g w fun h w=>iq P .mul T.a (.tmp 15) (.const (.int .u64 10723151780598845931)) h (.int .u64 10723151780598845931) w fun c w=>iq P .shr T.a (.tmp 18) (.const (.int .u64 31)) c (.int .u64 31) w fun i w=>iq P .xor T.a (.tmp 17) (.tmp 19) c i w fun j w=>K j w
theorem M.fu.calls:C1 F.fo M.fu:=mk1 [0,2] pN Tryz.func126
theorem M.fu.fcall:fC F.fo:=fcN Tryz.func126
def M.cl.j3(a:List Value)(c b:Value)(d:KL)(e:List Value):QQ:=fun w K=>bK .add T.d 26 (gv a 2) i1 w fun f w=>biT P .len #[T.l] T.d [false] [c] w fun g w=>bT .add T.d 29 31 b g w fun h w=>slT P T.l (gv a 3) (some h) none none w fun i w=>d [b,(gv e 0),f,i] w
def M.cl.j2(a:List Value)(b:Value)(d:KL):QQ:=fun w K=>ig P F.dq [(gv a 3),b] w fun c w=>ij (fun e=>iq P .eql T.d (.tmp 23) (.const (.int .i64 (-1))) c (.int .i64 (-1)) w fun f w=>ii f (K (gv a 2) w) (e [(gv a 1)] w)) fun g w=>M.cl.j3 a b c d g w K
def M.cl.j0(a b:Value)(c:List Value):QQ:=fun w K=>ij (fun d=>biT P .len #[T.l] T.d [false] [a] w fun e w=>bK .eql T.d 14 e i1 w fun f w=>ii f (ixT P T.l a i0 w fun g w=>ig P F.ah [b,g] w fun h w=>K h w) (d [(gv c 0)] w)) fun i w=>jm [undef,(gv i 0),i0,b] w fun j l w=>M.cl.j2 l a j w K
def M.cl(a b:Value):QQ:=fun w K=>ij (fun c=>biT P .len #[T.l] T.d [false] [b] w fun d w=>bK .eql T.d 8 d i0 w fun e w=>ii e (ig P F.gd [a] w fun f w=>bK .add T.d 11 f i1 w fun g w=>K g w) (c [i0] w)) fun h w=>M.cl.j0 b a h w K
theorem M.cl.calls:C2 F.et M.cl:=mk2 [0,1,4,5,6] pN Tryz.func127
theorem M.cl.fcall:fC F.et:=fcN Tryz.func127
def M.ei(a b:Value):QQ:=fun w K=>ig P F.fw [a,b,i0] w fun c w=>K c w
theorem M.ei.calls:C2 F.fv M.ei:=mk2 [0,1,4] pN Tryz.func128
theorem M.ei.fcall:fC F.fv:=fcN Tryz.func128
def M.di.j1(a:Value):QQ:=fun w K=>jb w fun w=>ic (ldT P T.q a w) w fun b=>ic (ldT P T.q a w) w fun c=>ig P F.de [c] w fun d w=>ik (ldT P T.q a w) w b/\stT P T.q a b w fun _ w=>ic (ni P T.q a w) w fun r0=>K (.tuple #[r0,d]) w
def M.di.j0(b c:Value)(h:List Value):QQ:=fun w K=>jb w fun w=>w=w/\ic (iaT P T.bh b i0 w) w fun u=>ic (ldT P T.l u w) w fun v=>ic (iq P .eql T.l (.tmp 30) (.const (.string ⟨#[107,101,101,112]⟩)) v (.string ⟨#[107,101,101,112]⟩) w) w fun x=>w=w/\ic (iaT P T.bh b i1 w) w fun y=>ic (ldT P T.l y w) w fun z=>ic (jj P T.q #[(0,x),(1,z)] w) w fun A=>stT P T.q c A w fun _ w=>faT P T.q c 1 w fun B w=>ldT P T.l B w fun C w=>ig P F.fr [C] w fun i w=>exT P i 0 w fun j w=>exT P i 1 w fun a5 w=>exT P i 2 w fun a6 w=>ij (fun l=>bK .eql T.d 45 j i1 w fun d w=>ie (isB d true) (fun K'=>K' b w) w fun D w=>ie (isB d true) (biT P .len #[T.bh] T.d [false] [D] w) w fun E w=>ie (isB d true) (bK .eql T.d 49 E i2 w) w fun G w=>iw d G bF w fun e w=>ii e (l [e,undef,undef,undef,(gv h 0),undef] w) (bK .eql T.d 53 j i2 w fun f w=>ie (isB f true) (fun K'=>K' b w) w fun H w=>ie (isB f true) (biT P .len #[T.bh] T.d [false] [H] w) w fun I w=>ie (isB f true) (bK .eql T.d 57 I (.int .i64 3) w) w fun J w=>iw f J bF w fun m w=>ii m (iaT P T.bh b i2 w fun L w=>ldT P T.l L w fun N w=>ig P F.hd [N,(.int .i64 10),(.int .i64 64)] w fun q w=>exT P q 0 w fun n w=>exT P q 1 w fun r w=>ij (fun O=>jb w fun w=>w=w/\ic (iq P .neq T.cb (.tmp 67) (.const .nilIface) r .nilIface w) w fun a=>w=w/\ic (fun K'=>ie (isB a false) (fun K'=>K' n w) w K') w fun Q=>ic (fun K'=>ie (isB a false) (fun K'=>K' b w) w K') w fun o=>ic (ie (isB a false) (iaT P T.bh o i2 w) w) w fun p=>ic (ie (isB a false) (ldT P T.l p w) w) w fun s=>ie (isB a false) (ig P F.gy [Q,(.int .i64 10)] w) w fun R w=>ik (ie (isB a false) (ldT P T.l p w) w) w s/\ik (ie (isB a false) (iaT P T.bh o i2 w) w) w p/\ik (fun K'=>ie (isB a false) (fun K'=>K' b w) w K') w o/\ic (ie (isB a false) (iq P .neq T.l (.tmp 71) (.tmp 74) R s w) w) w fun S=>ic (iw a bY S w) w fun U=>ii U (jj P T.q #[] w fun V w=>stT P T.q c V w fun _ w=>ic (ni P T.q c w) w fun r0=>K (.tuple #[r0,bF]) w) (O [(gv h 0)] w)) fun W w=>faT P T.q c 2 w fun X w=>stT P T.a X n w fun _ w=>l [e,m,n,r,(gv W 0),undef] w) (bK .eql T.d 81 j (.int .i64 3) w fun g w=>ie (isB g true) (fun K'=>K' b w) w fun Y w=>ie (isB g true) (biT P .len #[T.bh] T.d [false] [Y] w) w fun Z w=>ie (isB g true) (bK .eql T.d 85 Z (.int .i64 3) w) w fun a0 w=>iw g a0 bF w fun t w=>ii t (iaT P T.bh b i2 w fun a1 w=>ldT P T.l a1 w fun a2 w=>faT P T.q c 3 w fun a3 w=>stT P T.l a3 a2 w fun _ w=>l [e,m,undef,undef,(gv h 0),t] w) (jj P T.q #[] w fun a4 w=>stT P T.q c a4 w fun _ w=>ic (ni P T.q c w) w fun r0=>K (.tuple #[r0,bF]) w)))) fun a7 w=>M.di.j1 c w K
def M.di(e:Value):QQ:=fun w K=>alT P T.q w fun d w=>ig P F.fu [e,(.string ⟨#[32]⟩)] w fun c w=>ij (fun f=>biT P .len #[T.bh] T.d [false] [c] w fun g w=>bK .lss T.d 13 g i2 w fun a w=>ie (isB a false) (fun K'=>K' c w) w fun h w=>ie (isB a false) (iaT P T.bh h i0 w) w fun i w=>ie (isB a false) (ldT P T.l i w) w fun j w=>ie (isB a false) (iq P .neq T.l (.tmp 18) (.const (.string ⟨#[107,101,101,112]⟩)) j (.string ⟨#[107,101,101,112]⟩) w) w fun l w=>ie (isB a false) (fun K'=>K' l w) w fun b w=>ie (isB b true) (fun K'=>K' c w) w fun m w=>ie (isB b true) (iaT P T.bh m i0 w) w fun n w=>ie (isB b true) (ldT P T.l n w) w fun o w=>ie (isB b true) (iq P .neq T.l (.tmp 23) (.const (.string ⟨#[100,114,111,112]⟩)) o (.string ⟨#[100,114,111,112]⟩) w) w fun p w=>ie (isB a false) (iw b p bF w) w fun q w=>iw a bY q w fun r w=>ii r (jj P T.q #[] w fun s w=>stT P T.q d s w fun _ w=>ic (ni P T.q d w) w fun r0=>K (.tuple #[r0,bF]) w) (f [bF] w)) fun t w=>M.di.j0 c d t w K
theorem M.di.calls:C1 F.gg M.di:=mk1 [0,2,3,4,5,6,7,44,52,8,9,80] (fun id=>cond (Nat.beq id 4) ⟨(gS 0 8 (.eff 8 .nil .iu)),[8],false,[0,1,3,7,0,16,48,127,255]⟩ (cond (Nat.beq id 10) ⟨(gS 0 4 (gS 5 3 (.eff 4 (.go 8 (.go 9 .nil)) .iu))),[4],false,[0,1,3,7,15,7,39,103,255,511]⟩ (cond (Nat.beq id 15) ⟨(.go 0 (.go 1 (.eff 2 (.eff 3 (.eff 4 .nil .iu) .iu) .iu))),[2,3,4],false,[0,0,2,7,15]⟩ p0))) Tryz.func129
theorem M.di.fcall:fC F.gg:=fcN Tryz.func129
def M.au.j3(a:Value)(b:List Value)(c:Value)(e:KL)(d:List Value):QQ:=fun w K=>bsT P T.bq 1 #[(0,a)] w fun f w=>biT P .append #[T.bq,T.bq] T.bq [false,false] [(gv b 4),f] w fun g w=>slT P T.l (gv b 5) (some c) none none w fun h w=>e [a,c,(gv d 0),(gv d 1),g,h] w
def M.au.j2(a:List Value)(d:KL):QQ:=fun w K=>ig P F.ep [(gv a 5)] w fun b w=>exT P b 0 w fun e w=>exT P b 1 w fun c w=>ij (fun f=>bK .eql T.d 15 c i0 w fun g w=>ii g (K (.tuple #[nS,bF]) w) (f [(gv a 2),(gv a 3)] w)) fun h w=>M.au.j3 e a c d h w K
def M.au.j1(a:List Value)(b c:KL):QQ:=fun w K=>ij (fun d=>biT P .len #[T.l] T.d [false] [(gv a 5)] w fun e w=>bK .gtr T.d 8 e i0 w fun f w=>ii f (d [] w) (b [(gv a 0),(gv a 1),(gv a 2),(gv a 3),(gv a 4),(gv a 5)] w)) fun g w=>M.au.j2 a c w K
def M.au(a:Value):QQ:=fun w K=>ij (fun b=>jm [undef,undef,nS,bF,nS,a] w fun c d w=>M.au.j1 d b c w K) fun e w=>K (.tuple #[(gv e 4),bY]) w
theorem M.au.calls:C1 F.eg M.au:=mk1 [0,2,3,4,5,6] pN Tryz.func133
theorem M.au.fcall:fC F.eg:=fcN Tryz.func133
end Go.Proofs.YtgepcfcicngceaaGreatDoor
