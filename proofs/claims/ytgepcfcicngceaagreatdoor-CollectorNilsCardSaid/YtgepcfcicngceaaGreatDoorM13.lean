/-
  Printed by wip/Shallow.lean: functions of the program, read shallow; each is what its code does. No condition.
-/
import Derived.Test.YtgepcfcicngceaaGreatDoorN
set_option maxRecDepth 1000000
namespace Go.Proofs.YtgepcfcicngceaaGreatDoor
open Go.Eng
def M.cw.j3 (c:Value) (a b:List Value) (e:KL) (d:Value) (f:KL):QQ:=fun w K=>ij (fun g=>mi P c "Less" [(gv a 1),(gv b 3)] w fun h w=>unT P .not h w fun i w=>ii i (e [d,(gv a 1),(gv a 0),(gv b 3)] w) (g [] w)) fun j w=>mi P c "Swap" [(gv b 3),(gv a 1)] w fun l w=>f [d,(gv a 1),(gv a 0),(gv a 1)] w
def M.cw.j2 (c f d:Value) (g:List Value) (h i:KL):QQ:=fun w K=>ij (fun e=>bK .add T.d 23 c i1 w fun a w=>bT .lss T.d 25 26 a f w fun b w=>ie (isB b true) (fun K'=>K' d w) w fun j w=>ie (isB b true) (fun K'=>K' a w) w fun l w=>ie (isB b true) (fun K'=>K' c w) w fun m w=>ie (isB b true) (mi P j "Less" [l,m] w) w fun n w=>iw b n bF w fun o w=>ii o (e [a,a] w) (e [a,c] w)) fun p w=>M.cw.j3 d p g h c i w K
def M.cw.j1(a:List Value)(d:Value)(e:KL)(f:Value)(g:KL):QQ:=fun w K=>iq P .mul T.d (.const i2) (.tmp 12) i2 (gv a 3) w fun h w=>bK .add T.d 13 h i1 w fun b w=>ij (fun i=>bT .geq T.d 15 16 b d w fun c w=>ie (isB c false) (fun K'=>K' b w) w fun j w=>ie (isB c false) (bK .lss T.d 19 j i0 w) w fun l w=>iw c bY l w fun m w=>ii m (e [b,(gv a 1),(gv a 2),(gv a 3)] w) (i [] w)) fun n w=>M.cw.j2 b d f a e g w K
def M.cw(b a c:Value):QQ:=fun w K=>ij (fun d=>jm [undef,undef,undef,a] w fun e f w=>M.cw.j1 f c d b e w K) fun g w=>bT .gtr T.d 45 46 (gv g 3) a w fun h w=>K h w
theorem M.cw.calls:C3 F.gm M.cw:=mk3 [0,1,2,6,7,8,9,10] pN Tryz.func187
theorem M.cw.fcall:fC F.gm:=fcN Tryz.func187
def M.fe.j0 (c:List Value) (d:Value) (e:KL):QQ:=fun w K=>bK .sub T.d 5 (gv c 1) i1 w fun f w=>iq P .quo T.d (.tmp 6) (.const i2) f i2 w fun b w=>ij (fun g=>bT .eql T.d 8 9 b (gv c 1) w fun a w=>ie (isB a false) (fun K'=>K' d w) w fun h w=>ie (isB a false) (fun K'=>K' (gv c 1) w) w fun i w=>ie (isB a false) (fun K'=>K' b w) w fun j w=>ie (isB a false) (mi P h "Less" [i,j] w) w fun l w=>ie (isB a false) (unT P .not l w) w fun m w=>iw a bY m w fun n w=>ii n (K (.tuple #[]) w) (g [] w)) fun o w=>mi P d "Swap" [b,(gv c 1)] w fun p w=>e [b,b] w
def M.fe(a b:Value):QQ:=fun w K=>jm [undef,b] w fun c d w=>M.fe.j0 d a c w K
theorem M.fe.calls:C2 F.gq M.fe:=mk2 [0,1,4] pN Tryz.func188
theorem M.fe.fcall:fC F.gq:=fcN Tryz.func188
def M.ek(a:Value):QQ:=fun w K=>ij (fun b=>iq P .eql T.bt (.tmp 3) (.const nP) a nP w fun c w=>ii c (K i0 w) (b [i0] w)) fun h w=>ip a w fun d w=>faT P T.be d 0 w fun e w=>ldT P T.ae e w fun f w=>biT P .len #[T.ae] T.d [false] [f] w fun g w=>K g w
theorem M.ek.calls:C1 F.er M.ek:=mk1 [0,2] pN Tryz.func189
theorem M.ek.fcall:fC F.er:=fcN Tryz.func189
def M.s.j2(c:Value)(a:List Value)(d:Value)(e:KL):QQ:=fun w K=>ij (fun f=>iaT P T.ad c (gv a 2) w fun g w=>ldT P T.q g w fun h w=>ku P d [h] w fun i w=>ii i (K (gv a 2) w) (f [(gv a 2),(gv a 1)] w)) fun b w=>bK .add T.d 8 (gv a 2) i1 w fun j w=>e [(gv b 0),(gv b 1),j] w
def M.s(b d:Value):QQ:=fun w K=>ij (fun e=>biT P .len #[T.ad] T.d [false] [b] w fun c w=>jm [undef,i0,i0] w fun f a w=>bT .lss T.d 8 7 (gv a 2) c w fun g w=>ij (fun h=>ii g (h [] w) (e [c,(gv a 2),(gv a 0),(gv a 1)] w)) fun i w=>M.s.j2 b a d f w K) fun j w=>K (.int .i64 (-1)) w
theorem M.s.calls:C2 F.bh M.s:=mk2 [0,1,4,5,8,7] pN Tryz.func190
theorem M.s.fcall:fC F.bh:=fcN Tryz.func190
def M.fx(a b:Value):QQ:=fun w K=>kz P T.q a w fun c w=>ldT P T.q c w fun d w=>ldT P T.g b w fun e w=>ig P F.ge [d,e] w fun f w=>K f w
theorem M.fx.calls:C2 F.db M.fx:=mk2 [0,1,3] pN Tryz.func191
def M.dw.j0(d b:Value)(m:List Value):QQ:=fun w K=>zt P (.func F.cs) [] [d] w fun c w=>ij (fun n=>faT P T.q b 1 w fun o w=>ldT P T.l o w fun a w=>iq P .eql T.l (.tmp 16) (.const (.string ⟨#[102,97,105,108]⟩)) a (.string ⟨#[102,97,105,108]⟩) w fun e w=>ii e (ku P c [(.func (.func F.el) #[] #[])] w fun p w=>K p w) (iq P .eql T.l (.tmp 16) (.const (.string ⟨#[114,111,111,116]⟩)) a (.string ⟨#[114,111,111,116]⟩) w fun f w=>ii f (ku P c [(.func (.func F.hj) #[] #[])] w fun q w=>K q w) (iq P .eql T.l (.tmp 16) (.const (.string ⟨#[115,108,111,119]⟩)) a (.string ⟨#[115,108,111,119]⟩) w fun g w=>ii g (zt P (.func F.hk) [] [b] w fun r w=>ku P c [r] w fun s w=>K s w) (iq P .eql T.l (.tmp 16) (.const (.string ⟨#[115,101,114,118,105,99,101]⟩)) a (.string ⟨#[115,101,114,118,105,99,101]⟩) w fun h w=>ii h (zt P (.func F.hl) [] [b] w fun t w=>ku P c [t] w fun u w=>K u w) (iq P .eql T.l (.tmp 16) (.const (.string ⟨#[110,97,109,101]⟩)) a (.string ⟨#[110,97,109,101]⟩) w fun i w=>ii i (zt P (.func F.hm) [] [b] w fun v w=>ku P c [v] w fun x w=>K x w) (iq P .eql T.l (.tmp 16) (.const (.string ⟨#[109,97,110,121]⟩)) a (.string ⟨#[109,97,110,121]⟩) w fun j w=>ii j (ldT P T.g d w fun y w=>biT P .len #[T.g] T.d [false] [y] w fun z w=>cvT P T.d T.a z w fun A w=>faT P T.q b 2 w fun B w=>ldT P T.a B w fun C w=>bT .geq T.a 44 46 A C w fun D w=>K D w) (iq P .eql T.l (.tmp 16) (.const (.string ⟨#[104,97,115,104]⟩)) a (.string ⟨#[104,97,115,104]⟩) w fun l w=>ii l (zt P (.func F.hn) [] [b] w fun E w=>ku P c [E] w fun G w=>K G w) (n [e,(gv m 0),f,g,h,i,j,l] w)))))))) fun H w=>K bY w
def M.dw(d e:Value):QQ:=fun w K=>kz P T.q d w fun b w=>kz P T.g e w fun c w=>ij (fun f=>ldT P T.q b w fun g w=>ig P F.de [g] w fun h w=>unT P .not h w fun a w=>ie (isB a false) (ldT P T.g c w) w fun i w=>ie (isB a false) (biT P .len #[T.g] T.d [false] [i] w) w fun j w=>ie (isB a false) (bK .eql T.d 11 j i0 w) w fun l w=>iw a bY l w fun m w=>ii m (K bF w) (f [bF] w)) fun n w=>M.dw.j0 c b n w K
theorem M.dw.calls:C2 F.ge M.dw:=mk2 [0,1,4,5,17,21,25,30,35,40,48,3,2] pN Tryz.func192
theorem M.dw.fcall:fC F.ge:=fcN Tryz.func192
def M.ff(g h:Value):QQ:=fun w K=>kz P T.e g w fun a w=>kz P T.e h w fun b w=>jb w fun w=>ic (faT P T.e a 0 w) w fun i=>ic (ldT P T.a i w) w fun j=>ic (faT P T.e b 0 w) w fun l=>ic (ldT P T.a l w) w fun m=>ic (faT P T.e a 1 w) w fun c=>ic (ldT P T.a c w) w fun e=>ic (faT P T.e b 1 w) w fun d=>ic (ldT P T.a d w) w fun f=>ig P F.az [j,m] w fun n w=>ik (ldT P T.a d w) w f/\ik (faT P T.e b 1 w) w d/\ik (ldT P T.a c w) w e/\ik (faT P T.e a 1 w) w c/\ig P F.az [e,f] w fun o w=>bsT P T.bw 2 #[(0,n),(1,o)] w fun p w=>ig P F.fn [p] w fun q w=>K q w
theorem M.ff.calls:C2 F.gf M.ff:=mk2 [0,1,4] (fun id=>cond (Nat.beq id 1) ⟨(gS 0 4 (gS 5 4 (.eff 4 (.eff 9 (.eff 10 (.eff 11 (.eff 12 .nil .iu) .iu) .iu) .iu) .iu))),[4,9,10,11,12],false,[0,1,0,4,15,0,32,0,128,511,1023,2047,4095]⟩ p0) Tryz.func193
theorem M.ff.fcall:fC F.gf:=fcN Tryz.func193
def M.et(a b:Value):QQ:=fun w K=>iq P .and T.a (.tmp 14) (.const (.int .u64 4294967295)) a (.int .u64 4294967295) w fun c w=>iq P .shr T.a (.tmp 16) (.const (.int .u64 32)) a (.int .u64 32) w fun d w=>iq P .and T.a (.tmp 18) (.const (.int .u64 4294967295)) b (.int .u64 4294967295) w fun e w=>iq P .shr T.a (.tmp 20) (.const (.int .u64 32)) b (.int .u64 32) w fun f w=>iq P .mul T.a (.tmp 22) (.tmp 23) c e w fun h w=>iq P .mul T.a (.tmp 25) (.tmp 26) d e w fun i w=>iq P .shr T.a (.tmp 28) (.const (.int .u64 32)) h (.int .u64 32) w fun j w=>iq P .add T.a (.tmp 27) (.tmp 29) i j w fun g w=>iq P .and T.a (.tmp 31) (.const (.int .u64 4294967295)) g (.int .u64 4294967295) w fun l w=>iq P .shr T.a (.tmp 33) (.const (.int .u64 32)) g (.int .u64 32) w fun m w=>iq P .mul T.a (.tmp 36) (.tmp 37) c f w fun n w=>iq P .add T.a (.tmp 35) (.tmp 38) l n w fun o w=>iq P .mul T.a (.tmp 40) (.tmp 41) d f w fun p w=>iq P .add T.a (.tmp 42) (.tmp 43) p m w fun q w=>iq P .shr T.a (.tmp 45) (.const (.int .u64 32)) o (.int .u64 32) w fun r w=>iq P .add T.a (.tmp 44) (.tmp 46) q r w fun s w=>iq P .mul T.a (.tmp 48) (.tmp 49) a b w fun t w=>K (.tuple #[s,t]) w
theorem M.et.calls:C2 F.fg M.et:=mk2 [0,1,4,5,6,7,8,9,10,11,12,13] pN Tryz.func194
theorem M.et.fcall:fC F.fg:=fcN Tryz.func194
def M.eb(a b:Value):QQ:=fun w K=>ig P F.cl [a,b] w fun c w=>K c w
theorem M.eb.calls:C2 F.ei M.eb:=mk2 [0,1,4] pN Tryz.func196
theorem M.eb.fcall:fC F.ei:=fcN Tryz.func196
def M.am.j0(a d:Value):QQ:=fun w K=>ij (fun c=>biT P .cap #[T.g] T.d [false] [a] w fun e w=>biT P .len #[T.g] T.d [false] [a] w fun f w=>bT .sub T.d 10 12 e f w fun g w=>bT .sub T.d 8 13 d g w fun b w=>bK .gtr T.d 15 b i0 w fun h w=>ii h (biT P .cap #[T.g] T.d [false] [a] w fun i w=>slT P T.g a none (some i) none w fun j w=>biT P .append #[T.g,T.d] T.g [false,false] [j,b] w fun l w=>biT P .len #[T.g] T.d [false] [a] w fun m w=>slT P T.g l none (some m) none w fun n w=>c [b,n] w) (c [b,a] w)) fun o w=>K (gv o 1) w
def M.am(c a:Value):QQ:=fun w K=>ij (fun b=>bK .lss T.d 5 a i0 w fun d w=>ii d (rq P T.l (.string ⟨#[99,97,110,110,111,116,32,98,101,32,110,101,103,97,116,105,118,101]⟩) w fun e w=>aza w fun _ w=>b [] w) (b [] w)) fun f w=>M.am.j0 c a w K
theorem M.am.calls:C2 F.bo M.am:=mk2 [0,1,4] pN Tryz.func197
theorem M.am.fcall:fC F.bo:=fcN Tryz.func197
def M.cu.j2(g:Value)(d:List Value)(h e:Value)(i:KL):QQ:=fun w K=>ij (fun j=>iaT P T.g g (gv d 2) w fun l w=>ldT P T.i l w fun m w=>alT P T.i w fun a w=>stT P T.i a m w fun _ w=>ij (fun n=>ldT P T.i a w fun o w=>ig P F.fm [o] w fun p w=>bK .neq T.ac 16 p i0 w fun b w=>ie (isB b false) (faT P T.i a 0 w) w fun q w=>ie (isB b false) (ldT P T.a q w) w fun r w=>ie (isB b false) (fun K'=>K' h w) w fun s w=>ie (isB b false) (bT .neq T.a 20 21 r s w) w fun t w=>iw b bY t w fun c w=>ie (isB c false) (fun K'=>K' e w) w fun u w=>ie (isB c false) (faT P T.i a 1 w) w fun v w=>ie (isB c false) (ldT P T.a v w) w fun x w=>ie (isB c false) (luT P T.al u x false w) w fun y w=>iw c bY y w fun z w=>ii z (K bF w) (n [(gv d 1)] w)) fun A w=>faT P T.i a 1 w fun B w=>ldT P T.a B w fun C w=>muT P T.al e C bY w fun _ w=>j [a,(gv A 0)] w) fun f w=>bK .add T.d 11 (gv d 2) i1 w fun D w=>i [(gv f 0),(gv f 1),D] w
def M.cu.j0(b:Value):QQ:=fun w K=>biT P .len #[T.g] T.d [false] [b] w fun c w=>bK .gtr T.d 35 c i0 w fun a w=>ie (isB a true) (fun K'=>K' b w) w fun d w=>ie (isB a true) (biT P .len #[T.g] T.d [false] [d] w) w fun e w=>ie (isB a true) (bK .leq T.d 39 e (.int .i64 16) w) w fun f w=>iw a f bF w fun g w=>K g w
def M.cu(d b:Value):QQ:=fun w K=>aar P T.al none w fun e w=>ij (fun f=>biT P .len #[T.g] T.d [false] [b] w fun c w=>jm [undef,bF,i0] w fun g a w=>bT .lss T.d 11 10 (gv a 2) c w fun h w=>ij (fun i=>ii h (i [] w) (f [b,c,(gv a 2),(gv a 0),(gv a 1)] w)) fun j w=>M.cu.j2 b a d e g w K) fun l w=>M.cu.j0 b w K
theorem M.cu.calls:C2 F.ev M.cu:=mk2 [0,1,4,5,11,10,9,7] pN Tryz.func198
theorem M.cu.fcall:fC F.ev:=fcN Tryz.func198
def M.eu(d:Value):QQ:=fun w K=>kz P T.m d w fun c w=>faT P T.m c 1 w fun e w=>ldT P T.a e w fun f w=>bK .eql T.a 4 f u0 w fun a w=>ie (isB a false) (faT P T.m c 2 w) w fun g w=>ie (isB a false) (ldT P T.d g w) w fun h w=>ie (isB a false) (bK .lss T.d 8 h i0 w) w fun i w=>iw a bY i w fun b w=>ie (isB b false) (faT P T.m c 2 w) w fun j w=>ie (isB b false) (ldT P T.d j w) w fun l w=>ie (isB b false) (bK .gtr T.d 13 l i2 w) w fun m w=>iw b bY m w fun n w=>K n w
theorem M.eu.calls:C1 F.du M.eu:=mk1 [0,2] pN Tryz.func199
theorem M.eu.rcall:rC F.du:=rcN Tryz.func199
def M.al.j2(e:Value)(a:List Value)(d:Value)(f:KL):QQ:=fun w K=>ij (fun g=>iaT P T.o e (gv a 3) w fun h w=>ldT P T.m h w fun i w=>alT P T.m w fun b w=>stT P T.m b i w fun _ w=>ij (fun j=>ldT P T.m b w fun l w=>ku P d [l] w fun m w=>bT .leq T.a 18 19 m (gv a 2) w fun n w=>ii n (K bF w) (j [(gv a 1)] w)) fun o w=>ldT P T.m b w fun p w=>ku P d [p] w fun q w=>g [b,(gv o 0),q] w) fun c w=>bK .add T.d 12 (gv a 3) i1 w fun r w=>f [(gv c 0),(gv c 1),(gv c 2),r] w
def M.al.j0(b c:Value):QQ:=fun w K=>biT P .len #[T.o] T.d [false] [b] w fun d w=>bK .gtr T.d 26 d i0 w fun a w=>ie (isB a true) (fun K'=>K' b w) w fun e w=>ie (isB a true) (biT P .len #[T.o] T.d [false] [e] w) w fun f w=>ie (isB a true) (fun K'=>K' c w) w fun g w=>ie (isB a true) (bT .leq T.d 30 31 f g w) w fun h w=>iw a h bF w fun i w=>K i w
def M.al(b d e:Value):QQ:=fun w K=>ij (fun f=>biT P .len #[T.o] T.d [false] [b] w fun c w=>jm [undef,bF,u0,i0] w fun g a w=>bT .lss T.d 12 11 (gv a 3) c w fun h w=>ij (fun i=>ii h (i [] w) (f [b,c,(gv a 3),(gv a 0),(gv a 1),(gv a 2)] w)) fun j w=>M.al.j2 b a e g w K) fun l w=>M.al.j0 b d w K
theorem M.al.calls:C3 F.cp M.al:=mk3 [0,1,2,6,7,12,11,10,9] pN Tryz.func200
theorem M.al.fcall:fC F.cp:=fcN Tryz.func200
def M.ev(a:Value):QQ:=fun w K=>kz P T.m a w fun b w=>faT P T.m b 0 w fun c w=>ldT P T.a c w fun d w=>K d w
theorem M.ev.calls:C1 F.dv M.ev:=mk1 [0,2] pN Tryz.func201
theorem M.ev.rcall:rC F.dv:=rcN Tryz.func201
def M.ap(a b:Value):QQ:=fun w K=>ig P F.av [a,b] w fun c w=>bK .geq T.d 7 c i0 w fun d w=>K d w
theorem M.ap.calls:C2 F.an M.ap:=mk2 [0,1,4] pN Tryz.func202
theorem M.ap.fcall:fC F.an:=fcN Tryz.func202
def M.fg(b:Value):QQ:=fun w K=>iq P .leq T.z (.const i1) (.tmp 3) i1 b w fun a w=>ie (isB a true) (fun K'=>K' b w) w fun c w=>ie (isB a true) (iq P .leq T.z (.tmp 6) (.const (.int .i64 3)) c (.int .i64 3) w) w fun d w=>iw a d bF w fun e w=>K e w
theorem M.fg.calls:C1 F.ek M.fg:=mk1 [0,2] pN Tryz.func203
theorem M.fg.fcall:fC F.ek:=fcN Tryz.func203
def M.bf.j2(e:Value)(a:List Value)(d:Value)(f:KL):QQ:=fun w K=>ij (fun g=>iaT P T.h e (gv a 3) w fun h w=>ldT P T.a h w fun b w=>ij (fun i=>ku P d [b] w fun j w=>bT .leq T.a 18 19 j (gv a 2) w fun l w=>ii l (K bF w) (i [(gv a 1)] w)) fun m w=>ku P d [b] w fun n w=>g [b,(gv m 0),n] w) fun c w=>bK .add T.d 12 (gv a 3) i1 w fun o w=>f [(gv c 0),(gv c 1),(gv c 2),o] w
def M.bf.j0(b c:Value):QQ:=fun w K=>biT P .len #[T.h] T.d [false] [b] w fun d w=>bK .gtr T.d 26 d i0 w fun a w=>ie (isB a true) (fun K'=>K' b w) w fun e w=>ie (isB a true) (biT P .len #[T.h] T.d [false] [e] w) w fun f w=>ie (isB a true) (fun K'=>K' c w) w fun g w=>ie (isB a true) (bT .leq T.d 30 31 f g w) w fun h w=>iw a h bF w fun i w=>K i w
def M.bf(b d e:Value):QQ:=fun w K=>ij (fun f=>biT P .len #[T.h] T.d [false] [b] w fun c w=>jm [undef,bF,u0,i0] w fun g a w=>bT .lss T.d 12 11 (gv a 3) c w fun h w=>ij (fun i=>ii h (i [] w) (f [b,c,(gv a 3),(gv a 0),(gv a 1),(gv a 2)] w)) fun j w=>M.bf.j2 b a e g w K) fun l w=>M.bf.j0 b d w K
theorem M.bf.calls:C3 F.dm M.bf:=mk3 [0,1,2,6,7,9,12,11,10] pN Tryz.func204
theorem M.bf.fcall:fC F.dm:=fcN Tryz.func204
def M.ew(a:Value):QQ:=fun w K=>K a w
theorem M.ew.calls:C1 F.dw M.ew:=mk1 [0,2] pN Tryz.func205
theorem M.ew.rcall:rC F.dw:=rcN Tryz.func205
def M.h.j3(c:Value)(a:List Value)(d:Value)(e:KL):QQ:=fun w K=>ij (fun f=>jb w fun w=>w=w/\w=w/\ic (iaT P T.g c (gv a 2) w) w fun g=>ic (ldT P T.i g w) w fun h=>w=w/\w=w/\ic (iaT P T.g d (gv a 2) w) w fun i=>ic (ldT P T.i i w) w fun j=>ic (iq P .neq T.i (.tmp 19) (.tmp 23) h j w) w fun l=>ii l (K bF w) (f [(gv a 2),(gv a 1)] w)) fun b w=>bK .add T.d 13 (gv a 2) i1 w fun m w=>e [(gv b 0),(gv b 1),m] w
def M.h.j0(b:Value)(d:List Value)(e:Value):QQ:=fun w K=>ij (fun f=>biT P .len #[T.g] T.d [false] [b] w fun c w=>jm [undef,(gv d 0),i0] w fun g a w=>bT .lss T.d 13 12 (gv a 2) c w fun h w=>ij (fun i=>ii h (i [] w) (f [c,(gv a 2),(gv a 0),(gv a 1)] w)) fun j w=>M.h.j3 b a e g w K) fun l w=>K bY w
def M.h(a b:Value):QQ:=fun w K=>ij (fun c=>biT P .len #[T.g] T.d [false] [a] w fun d w=>biT P .len #[T.g] T.d [false] [b] w fun e w=>bT .neq T.d 7 9 d e w fun f w=>ii f (K bF w) (c [bF] w)) fun g w=>M.h.j0 a g b w K
theorem M.h.calls:C2 F.ba M.h:=mk2 [0,1,4,5,13,12] (fun id=>cond (Nat.beq id 6) ⟨(gS 0 9 .nil),[],false,[0,0,3,7,0,0,48,112,255]⟩ p0) Tryz.func206
theorem M.h.fcall:fC F.ba:=fcN Tryz.func206
def M.o.j3(c:Value)(a:List Value)(d:Value)(e:KL):QQ:=fun w K=>ij (fun f=>jb w fun w=>w=w/\w=w/\ic (iaT P T.o c (gv a 2) w) w fun g=>ic (ldT P T.m g w) w fun h=>w=w/\w=w/\ic (iaT P T.o d (gv a 2) w) w fun i=>ic (ldT P T.m i w) w fun j=>ic (iq P .neq T.m (.tmp 19) (.tmp 23) h j w) w fun l=>ii l (K bF w) (f [(gv a 2),(gv a 1)] w)) fun b w=>bK .add T.d 13 (gv a 2) i1 w fun m w=>e [(gv b 0),(gv b 1),m] w
def M.o.j0(b:Value)(d:List Value)(e:Value):QQ:=fun w K=>ij (fun f=>biT P .len #[T.o] T.d [false] [b] w fun c w=>jm [undef,(gv d 0),i0] w fun g a w=>bT .lss T.d 13 12 (gv a 2) c w fun h w=>ij (fun i=>ii h (i [] w) (f [c,(gv a 2),(gv a 0),(gv a 1)] w)) fun j w=>M.o.j3 b a e g w K) fun l w=>K bY w
def M.o(a b:Value):QQ:=fun w K=>ij (fun c=>biT P .len #[T.o] T.d [false] [a] w fun d w=>biT P .len #[T.o] T.d [false] [b] w fun e w=>bT .neq T.d 7 9 d e w fun f w=>ii f (K bF w) (c [bF] w)) fun g w=>M.o.j0 a g b w K
theorem M.o.calls:C2 F.bd M.o:=mk2 [0,1,4,5,13,12] (fun id=>cond (Nat.beq id 6) ⟨(gS 0 9 .nil),[],false,[0,0,3,7,0,0,48,112,255]⟩ p0) Tryz.func207
theorem M.o.fcall:fC F.bd:=fcN Tryz.func207
def M.p.j3(c:Value)(a:List Value)(d:Value)(e:KL):QQ:=fun w K=>ij (fun f=>jb w fun w=>w=w/\w=w/\ic (iaT P T.h c (gv a 2) w) w fun g=>ic (ldT P T.a g w) w fun h=>w=w/\w=w/\ic (iaT P T.h d (gv a 2) w) w fun i=>ic (ldT P T.a i w) w fun j=>ic (bT .neq T.a 19 23 h j w) w fun l=>ii l (K bF w) (f [(gv a 2),(gv a 1)] w)) fun b w=>bK .add T.d 13 (gv a 2) i1 w fun m w=>e [(gv b 0),(gv b 1),m] w
def M.p.j0(b:Value)(d:List Value)(e:Value):QQ:=fun w K=>ij (fun f=>biT P .len #[T.h] T.d [false] [b] w fun c w=>jm [undef,(gv d 0),i0] w fun g a w=>bT .lss T.d 13 12 (gv a 2) c w fun h w=>ij (fun i=>ii h (i [] w) (f [c,(gv a 2),(gv a 0),(gv a 1)] w)) fun j w=>M.p.j3 b a e g w K) fun l w=>K bY w
def M.p(a b:Value):QQ:=fun w K=>ij (fun c=>biT P .len #[T.h] T.d [false] [a] w fun d w=>biT P .len #[T.h] T.d [false] [b] w fun e w=>bT .neq T.d 7 9 d e w fun f w=>ii f (K bF w) (c [bF] w)) fun g w=>M.p.j0 a g b w K
theorem M.p.calls:C2 F.bj M.p:=mk2 [0,1,4,5,13,12] (fun id=>cond (Nat.beq id 6) ⟨(gS 0 9 .nil),[],false,[0,0,3,7,0,0,48,112,255]⟩ p0) Tryz.func208
theorem M.p.fcall:fC F.bj:=fcN Tryz.func208
end Go.Proofs.YtgepcfcicngceaaGreatDoor
