/-
  Printed by wip/Shallow.lean: functions of the program, read shallow; each is what its code does. No condition.
-/
import Derived.Test.YtgepcfcicngceaaGreatDoorN
set_option maxRecDepth 1000000
namespace Go.Proofs.YtgepcfcicngceaaGreatDoor
open Go.Eng
def M.da.j3 (c:Value) (a b:List Value) (e:KL) (d:Value) (f:KL):QQ:=fun w K=>ik (fun g=>nc P c "Less" [(gv a 1),(gv b 3)] w fun h w=>unT P .not h w fun i w=>ij i (e [d,(gv a 1),(gv a 0),(gv b 3)] w) (g [] w)) fun j w=>nc P c "Swap" [(gv b 3),(gv a 1)] w fun l w=>f [d,(gv a 1),(gv a 0),(gv a 1)] w
def M.da.j2 (c f d:Value) (g:List Value) (h i:KL):QQ:=fun w K=>ik (fun e=>bK .add T.d 23 c i1 w fun a w=>bT .lss T.d 25 26 a f w fun b w=>ie (isB b true) (fun K'=>K' d w) w fun j w=>ie (isB b true) (fun K'=>K' a w) w fun l w=>ie (isB b true) (fun K'=>K' c w) w fun m w=>ie (isB b true) (nc P j "Less" [l,m] w) w fun n w=>iw b n bF w fun o w=>ij o (e [a,a] w) (e [a,c] w)) fun p w=>M.da.j3 d p g h c i w K
def M.da.j1(a:List Value)(d:Value)(e:KL)(f:Value)(g:KL):QQ:=fun w K=>iq P .mul T.d (.const i2) (.tmp 12) i2 (gv a 3) w fun h w=>bK .add T.d 13 h i1 w fun b w=>ik (fun i=>bT .geq T.d 15 16 b d w fun c w=>ie (isB c false) (fun K'=>K' b w) w fun j w=>ie (isB c false) (bK .lss T.d 19 j i0 w) w fun l w=>iw c bY l w fun m w=>ij m (e [b,(gv a 1),(gv a 2),(gv a 3)] w) (i [] w)) fun n w=>M.da.j2 b d f a e g w K
def M.da(b a c:Value):QQ:=fun w K=>ik (fun d=>jn [undef,undef,undef,a] w fun e f w=>M.da.j1 f c d b e w K) fun g w=>bT .gtr T.d 45 46 (gv g 3) a w fun h w=>K h w
theorem M.da.calls:C3 F.gn M.da:=mk3 [0,1,2,6,7,8,9,10] pN Tryz.func187
theorem M.da.fcall:fC F.gn:=fcN Tryz.func187
def M.ff.j0 (c:List Value) (d:Value) (e:KL):QQ:=fun w K=>bK .sub T.d 5 (gv c 1) i1 w fun f w=>iq P .quo T.d (.tmp 6) (.const i2) f i2 w fun b w=>ik (fun g=>bT .eql T.d 8 9 b (gv c 1) w fun a w=>ie (isB a false) (fun K'=>K' d w) w fun h w=>ie (isB a false) (fun K'=>K' (gv c 1) w) w fun i w=>ie (isB a false) (fun K'=>K' b w) w fun j w=>ie (isB a false) (nc P h "Less" [i,j] w) w fun l w=>ie (isB a false) (unT P .not l w) w fun m w=>iw a bY m w fun n w=>ij n (K (.tuple #[]) w) (g [] w)) fun o w=>nc P d "Swap" [b,(gv c 1)] w fun p w=>e [b,b] w
def M.ff(a b:Value):QQ:=fun w K=>jn [undef,b] w fun c d w=>M.ff.j0 d a c w K
theorem M.ff.calls:C2 F.gr M.ff:=mk2 [0,1,4] pN Tryz.func188
theorem M.ff.fcall:fC F.gr:=fcN Tryz.func188
def M.em(a:Value):QQ:=fun w K=>ik (fun b=>iq P .eql T.bu (.tmp 3) (.const nP) a nP w fun c w=>ij c (K i0 w) (b [i0] w)) fun h w=>ip a w fun d w=>faT P T.be d 0 w fun e w=>ldT P T.af e w fun f w=>biT P .len #[T.af] T.d [false] [f] w fun g w=>K g w
theorem M.em.calls:C1 F.es M.em:=mk1 [0,2] pN Tryz.func189
theorem M.em.fcall:fC F.es:=fcN Tryz.func189
def M.t.j2(c:Value)(a:List Value)(d:Value)(e:KL):QQ:=fun w K=>ik (fun f=>iaT P T.ad c (gv a 2) w fun g w=>ldT P T.q g w fun h w=>kx P d [h] w fun i w=>ij i (K (gv a 2) w) (f [(gv a 2),(gv a 1)] w)) fun b w=>bK .add T.d 8 (gv a 2) i1 w fun j w=>e [(gv b 0),(gv b 1),j] w
def M.t(b d:Value):QQ:=fun w K=>ik (fun e=>biT P .len #[T.ad] T.d [false] [b] w fun c w=>jn [undef,i0,i0] w fun f a w=>bT .lss T.d 8 7 (gv a 2) c w fun g w=>ik (fun h=>ij g (h [] w) (e [c,(gv a 2),(gv a 0),(gv a 1)] w)) fun i w=>M.t.j2 b a d f w K) fun j w=>K (.int .i64 (-1)) w
theorem M.t.calls:C2 F.bi M.t:=mk2 [0,1,4,5,8,7] pN Tryz.func190
theorem M.t.fcall:fC F.bi:=fcN Tryz.func190
def M.fy(a b:Value):QQ:=fun w K=>lj P T.q a w fun c w=>ldT P T.q c w fun d w=>ldT P T.j b w fun e w=>ig P F.gf [d,e] w fun f w=>K f w
theorem M.fy.calls:C2 F.dd M.fy:=mk2 [0,1,3] pN Tryz.func191
def M.dz.j0(d b:Value)(m:List Value):QQ:=fun w K=>aaj P (.func F.cv) [] [d] w fun c w=>ik (fun n=>faT P T.q b 1 w fun o w=>ldT P T.m o w fun a w=>iq P .eql T.m (.tmp 16) (.const (.string ⟨#[102,97,105,108]⟩)) a (.string ⟨#[102,97,105,108]⟩) w fun e w=>ij e (kx P c [(.func (.func F.em) #[] #[])] w fun p w=>K p w) (iq P .eql T.m (.tmp 16) (.const (.string ⟨#[114,111,111,116]⟩)) a (.string ⟨#[114,111,111,116]⟩) w fun f w=>ij f (kx P c [(.func (.func F.hj) #[] #[])] w fun q w=>K q w) (iq P .eql T.m (.tmp 16) (.const (.string ⟨#[115,108,111,119]⟩)) a (.string ⟨#[115,108,111,119]⟩) w fun g w=>ij g (aaj P (.func F.hk) [] [b] w fun r w=>kx P c [r] w fun s w=>K s w) (iq P .eql T.m (.tmp 16) (.const (.string ⟨#[115,101,114,118,105,99,101]⟩)) a (.string ⟨#[115,101,114,118,105,99,101]⟩) w fun h w=>ij h (aaj P (.func F.hl) [] [b] w fun t w=>kx P c [t] w fun u w=>K u w) (iq P .eql T.m (.tmp 16) (.const (.string ⟨#[110,97,109,101]⟩)) a (.string ⟨#[110,97,109,101]⟩) w fun i w=>ij i (aaj P (.func F.hm) [] [b] w fun v w=>kx P c [v] w fun x w=>K x w) (iq P .eql T.m (.tmp 16) (.const (.string ⟨#[109,97,110,121]⟩)) a (.string ⟨#[109,97,110,121]⟩) w fun j w=>ij j (ldT P T.j d w fun y w=>biT P .len #[T.j] T.d [false] [y] w fun z w=>cvT P T.d T.a z w fun A w=>faT P T.q b 2 w fun B w=>ldT P T.a B w fun C w=>bT .geq T.a 44 46 A C w fun D w=>K D w) (iq P .eql T.m (.tmp 16) (.const (.string ⟨#[104,97,115,104]⟩)) a (.string ⟨#[104,97,115,104]⟩) w fun l w=>ij l (aaj P (.func F.hn) [] [b] w fun E w=>kx P c [E] w fun G w=>K G w) (n [e,(gv m 0),f,g,h,i,j,l] w)))))))) fun H w=>K bY w
def M.dz(d e:Value):QQ:=fun w K=>lj P T.q d w fun b w=>lj P T.j e w fun c w=>ik (fun f=>ldT P T.q b w fun g w=>ig P F.dh [g] w fun h w=>unT P .not h w fun a w=>ie (isB a false) (ldT P T.j c w) w fun i w=>ie (isB a false) (biT P .len #[T.j] T.d [false] [i] w) w fun j w=>ie (isB a false) (bK .eql T.d 11 j i0 w) w fun l w=>iw a bY l w fun m w=>ij m (K bF w) (f [bF] w)) fun n w=>M.dz.j0 c b n w K
theorem M.dz.calls:C2 F.gf M.dz:=mk2 [0,1,4,5,17,21,25,30,35,40,48,3,2] pN Tryz.func192
theorem M.dz.fcall:fC F.gf:=fcN Tryz.func192
def M.fg(g h:Value):QQ:=fun w K=>lj P T.e g w fun a w=>lj P T.e h w fun b w=>jb w fun w=>ic (faT P T.e a 0 w) w fun i=>ic (ldT P T.a i w) w fun j=>ic (faT P T.e b 0 w) w fun l=>ic (ldT P T.a l w) w fun m=>ic (faT P T.e a 1 w) w fun c=>ic (ldT P T.a c w) w fun e=>ic (faT P T.e b 1 w) w fun d=>ic (ldT P T.a d w) w fun f=>ig P F.az [j,m] w fun n w=>ii (ldT P T.a d w) w f/\ii (faT P T.e b 1 w) w d/\ii (ldT P T.a c w) w e/\ii (faT P T.e a 1 w) w c/\ig P F.az [e,f] w fun o w=>bsT P T.bx 2 #[(0,n),(1,o)] w fun p w=>ig P F.fp [p] w fun q w=>K q w
theorem M.fg.calls:C2 F.gg M.fg:=mk2 [0,1,4] (fun id=>cond (Nat.beq id 1) ⟨(gS 0 4 (gS 5 4 (.eff 4 (.eff 9 (.eff 10 (.eff 11 (.eff 12 .nil .ir) .ir) .ir) .ir) .ir))),[4,9,10,11,12],false,[0,1,0,4,15,0,32,0,128,511,1023,2047,4095]⟩ p0) Tryz.func193
theorem M.fg.fcall:fC F.gg:=fcN Tryz.func193
def M.ev(a b:Value):QQ:=fun w K=>iq P .and T.a (.tmp 14) (.const (.int .u64 4294967295)) a (.int .u64 4294967295) w fun c w=>iq P .shr T.a (.tmp 16) (.const (.int .u64 32)) a (.int .u64 32) w fun d w=>iq P .and T.a (.tmp 18) (.const (.int .u64 4294967295)) b (.int .u64 4294967295) w fun e w=>iq P .shr T.a (.tmp 20) (.const (.int .u64 32)) b (.int .u64 32) w fun f w=>iq P .mul T.a (.tmp 22) (.tmp 23) c e w fun h w=>iq P .mul T.a (.tmp 25) (.tmp 26) d e w fun i w=>iq P .shr T.a (.tmp 28) (.const (.int .u64 32)) h (.int .u64 32) w fun j w=>iq P .add T.a (.tmp 27) (.tmp 29) i j w fun g w=>iq P .and T.a (.tmp 31) (.const (.int .u64 4294967295)) g (.int .u64 4294967295) w fun l w=>iq P .shr T.a (.tmp 33) (.const (.int .u64 32)) g (.int .u64 32) w fun m w=>iq P .mul T.a (.tmp 36) (.tmp 37) c f w fun n w=>iq P .add T.a (.tmp 35) (.tmp 38) l n w fun o w=>iq P .mul T.a (.tmp 40) (.tmp 41) d f w fun p w=>iq P .add T.a (.tmp 42) (.tmp 43) p m w fun q w=>iq P .shr T.a (.tmp 45) (.const (.int .u64 32)) o (.int .u64 32) w fun r w=>iq P .add T.a (.tmp 44) (.tmp 46) q r w fun s w=>iq P .mul T.a (.tmp 48) (.tmp 49) a b w fun t w=>K (.tuple #[s,t]) w
theorem M.ev.calls:C2 F.fi M.ev:=mk2 [0,1,4,5,6,7,8,9,10,11,12,13] pN Tryz.func194
theorem M.ev.fcall:fC F.fi:=fcN Tryz.func194
def M.ed(a b:Value):QQ:=fun w K=>ig P F.cn [a,b] w fun c w=>K c w
theorem M.ed.calls:C2 F.ej M.ed:=mk2 [0,1,4] pN Tryz.func196
theorem M.ed.fcall:fC F.ej:=fcN Tryz.func196
def M.ap.j0(a d:Value):QQ:=fun w K=>ik (fun c=>biT P .cap #[T.j] T.d [false] [a] w fun e w=>biT P .len #[T.j] T.d [false] [a] w fun f w=>bT .sub T.d 10 12 e f w fun g w=>bT .sub T.d 8 13 d g w fun b w=>bK .gtr T.d 15 b i0 w fun h w=>ij h (biT P .cap #[T.j] T.d [false] [a] w fun i w=>slT P T.j a none (some i) none w fun j w=>biT P .append #[T.j,T.d] T.j [false,false] [j,b] w fun l w=>biT P .len #[T.j] T.d [false] [a] w fun m w=>slT P T.j l none (some m) none w fun n w=>c [b,n] w) (c [b,a] w)) fun o w=>K (gv o 1) w
def M.ap(c a:Value):QQ:=fun w K=>ik (fun b=>bK .lss T.d 5 a i0 w fun d w=>ij d (sx P T.m (.string ⟨#[99,97,110,110,111,116,32,98,101,32,110,101,103,97,116,105,118,101]⟩) w fun e w=>baj w fun _ w=>b [] w) (b [] w)) fun f w=>M.ap.j0 c a w K
theorem M.ap.calls:C2 F.bq M.ap:=mk2 [0,1,4] pN Tryz.func197
theorem M.ap.fcall:fC F.bq:=fcN Tryz.func197
def M.cx.j2(g:Value)(d:List Value)(h e:Value)(i:KL):QQ:=fun w K=>ik (fun j=>iaT P T.j g (gv d 2) w fun l w=>ldT P T.f l w fun m w=>alT P T.f w fun a w=>stT P T.f a m w fun _ w=>ik (fun n=>ldT P T.f a w fun o w=>ig P F.fo [o] w fun p w=>bK .neq T.z 16 p i0 w fun b w=>ie (isB b false) (faT P T.f a 0 w) w fun q w=>ie (isB b false) (ldT P T.a q w) w fun r w=>ie (isB b false) (fun K'=>K' h w) w fun s w=>ie (isB b false) (bT .neq T.a 20 21 r s w) w fun t w=>iw b bY t w fun c w=>ie (isB c false) (fun K'=>K' e w) w fun u w=>ie (isB c false) (faT P T.f a 1 w) w fun v w=>ie (isB c false) (ldT P T.a v w) w fun x w=>ie (isB c false) (luT P T.am u x false w) w fun y w=>iw c bY y w fun z w=>ij z (K bF w) (n [(gv d 1)] w)) fun A w=>faT P T.f a 1 w fun B w=>ldT P T.a B w fun C w=>muT P T.am e C bY w fun _ w=>j [a,(gv A 0)] w) fun f w=>bK .add T.d 11 (gv d 2) i1 w fun D w=>i [(gv f 0),(gv f 1),D] w
def M.cx.j0(b:Value):QQ:=fun w K=>biT P .len #[T.j] T.d [false] [b] w fun c w=>bK .gtr T.d 35 c i0 w fun a w=>ie (isB a true) (fun K'=>K' b w) w fun d w=>ie (isB a true) (biT P .len #[T.j] T.d [false] [d] w) w fun e w=>ie (isB a true) (bK .leq T.d 39 e (.int .i64 16) w) w fun f w=>iw a f bF w fun g w=>K g w
def M.cx(d b:Value):QQ:=fun w K=>abp P T.am none w fun e w=>ik (fun f=>biT P .len #[T.j] T.d [false] [b] w fun c w=>jn [undef,bF,i0] w fun g a w=>bT .lss T.d 11 10 (gv a 2) c w fun h w=>ik (fun i=>ij h (i [] w) (f [b,c,(gv a 2),(gv a 0),(gv a 1)] w)) fun j w=>M.cx.j2 b a d e g w K) fun l w=>M.cx.j0 b w K
theorem M.cx.calls:C2 F.ex M.cx:=mk2 [0,1,4,5,11,10,9,7] pN Tryz.func198
theorem M.cx.fcall:fC F.ex:=fcN Tryz.func198
def M.ew(d:Value):QQ:=fun w K=>lj P T.n d w fun c w=>faT P T.n c 1 w fun e w=>ldT P T.a e w fun f w=>bK .eql T.a 4 f u0 w fun a w=>ie (isB a false) (faT P T.n c 2 w) w fun g w=>ie (isB a false) (ldT P T.d g w) w fun h w=>ie (isB a false) (bK .lss T.d 8 h i0 w) w fun i w=>iw a bY i w fun b w=>ie (isB b false) (faT P T.n c 2 w) w fun j w=>ie (isB b false) (ldT P T.d j w) w fun l w=>ie (isB b false) (bK .gtr T.d 13 l i2 w) w fun m w=>iw b bY m w fun n w=>K n w
theorem M.ew.calls:C1 F.dy M.ew:=mk1 [0,2] pN Tryz.func199
theorem M.ew.rcall:rC F.dy:=rcN Tryz.func199
def M.ao.j2(e:Value)(a:List Value)(d:Value)(f:KL):QQ:=fun w K=>ik (fun g=>iaT P T.s e (gv a 3) w fun h w=>ldT P T.n h w fun i w=>alT P T.n w fun b w=>stT P T.n b i w fun _ w=>ik (fun j=>ldT P T.n b w fun l w=>kx P d [l] w fun m w=>bT .leq T.a 18 19 m (gv a 2) w fun n w=>ij n (K bF w) (j [(gv a 1)] w)) fun o w=>ldT P T.n b w fun p w=>kx P d [p] w fun q w=>g [b,(gv o 0),q] w) fun c w=>bK .add T.d 12 (gv a 3) i1 w fun r w=>f [(gv c 0),(gv c 1),(gv c 2),r] w
def M.ao.j0(b c:Value):QQ:=fun w K=>biT P .len #[T.s] T.d [false] [b] w fun d w=>bK .gtr T.d 26 d i0 w fun a w=>ie (isB a true) (fun K'=>K' b w) w fun e w=>ie (isB a true) (biT P .len #[T.s] T.d [false] [e] w) w fun f w=>ie (isB a true) (fun K'=>K' c w) w fun g w=>ie (isB a true) (bT .leq T.d 30 31 f g w) w fun h w=>iw a h bF w fun i w=>K i w
def M.ao(b d e:Value):QQ:=fun w K=>ik (fun f=>biT P .len #[T.s] T.d [false] [b] w fun c w=>jn [undef,bF,u0,i0] w fun g a w=>bT .lss T.d 12 11 (gv a 3) c w fun h w=>ik (fun i=>ij h (i [] w) (f [b,c,(gv a 3),(gv a 0),(gv a 1),(gv a 2)] w)) fun j w=>M.ao.j2 b a e g w K) fun l w=>M.ao.j0 b d w K
theorem M.ao.calls:C3 F.cr M.ao:=mk3 [0,1,2,6,7,12,11,10,9] pN Tryz.func200
theorem M.ao.fcall:fC F.cr:=fcN Tryz.func200
def M.ex(a:Value):QQ:=fun w K=>lj P T.n a w fun b w=>faT P T.n b 0 w fun c w=>ldT P T.a c w fun d w=>K d w
theorem M.ex.calls:C1 F.dz M.ex:=mk1 [0,2] pN Tryz.func201
theorem M.ex.rcall:rC F.dz:=rcN Tryz.func201
def M.au(a b:Value):QQ:=fun w K=>ig P F.au [a,b] w fun c w=>bK .geq T.d 7 c i0 w fun d w=>K d w
theorem M.au.calls:C2 F.an M.au:=mk2 [0,1,4] pN Tryz.func202
theorem M.au.fcall:fC F.an:=fcN Tryz.func202
def M.fh(b:Value):QQ:=fun w K=>iq P .leq T.ae (.const i1) (.tmp 3) i1 b w fun a w=>ie (isB a true) (fun K'=>K' b w) w fun c w=>ie (isB a true) (iq P .leq T.ae (.tmp 6) (.const (.int .i64 3)) c (.int .i64 3) w) w fun d w=>iw a d bF w fun e w=>K e w
theorem M.fh.calls:C1 F.el M.fh:=mk1 [0,2] pN Tryz.func203
theorem M.fh.fcall:fC F.el:=fcN Tryz.func203
def M.bi.j2(e:Value)(a:List Value)(d:Value)(f:KL):QQ:=fun w K=>ik (fun g=>iaT P T.i e (gv a 3) w fun h w=>ldT P T.a h w fun b w=>ik (fun i=>kx P d [b] w fun j w=>bT .leq T.a 18 19 j (gv a 2) w fun l w=>ij l (K bF w) (i [(gv a 1)] w)) fun m w=>kx P d [b] w fun n w=>g [b,(gv m 0),n] w) fun c w=>bK .add T.d 12 (gv a 3) i1 w fun o w=>f [(gv c 0),(gv c 1),(gv c 2),o] w
def M.bi.j0(b c:Value):QQ:=fun w K=>biT P .len #[T.i] T.d [false] [b] w fun d w=>bK .gtr T.d 26 d i0 w fun a w=>ie (isB a true) (fun K'=>K' b w) w fun e w=>ie (isB a true) (biT P .len #[T.i] T.d [false] [e] w) w fun f w=>ie (isB a true) (fun K'=>K' c w) w fun g w=>ie (isB a true) (bT .leq T.d 30 31 f g w) w fun h w=>iw a h bF w fun i w=>K i w
def M.bi(b d e:Value):QQ:=fun w K=>ik (fun f=>biT P .len #[T.i] T.d [false] [b] w fun c w=>jn [undef,bF,u0,i0] w fun g a w=>bT .lss T.d 12 11 (gv a 3) c w fun h w=>ik (fun i=>ij h (i [] w) (f [b,c,(gv a 3),(gv a 0),(gv a 1),(gv a 2)] w)) fun j w=>M.bi.j2 b a e g w K) fun l w=>M.bi.j0 b d w K
theorem M.bi.calls:C3 F.dq M.bi:=mk3 [0,1,2,6,7,9,12,11,10] pN Tryz.func204
theorem M.bi.fcall:fC F.dq:=fcN Tryz.func204
def M.ey(a:Value):QQ:=fun w K=>K a w
theorem M.ey.calls:C1 F.ea M.ey:=mk1 [0,2] pN Tryz.func205
theorem M.ey.rcall:rC F.ea:=rcN Tryz.func205
def M.i.j3(c:Value)(a:List Value)(d:Value)(e:KL):QQ:=fun w K=>ik (fun f=>jb w fun w=>w=w/\w=w/\ic (iaT P T.j c (gv a 2) w) w fun g=>ic (ldT P T.f g w) w fun h=>w=w/\w=w/\ic (iaT P T.j d (gv a 2) w) w fun i=>ic (ldT P T.f i w) w fun j=>ic (iq P .neq T.f (.tmp 19) (.tmp 23) h j w) w fun l=>ij l (K bF w) (f [(gv a 2),(gv a 1)] w)) fun b w=>bK .add T.d 13 (gv a 2) i1 w fun m w=>e [(gv b 0),(gv b 1),m] w
def M.i.j0(b:Value)(d:List Value)(e:Value):QQ:=fun w K=>ik (fun f=>biT P .len #[T.j] T.d [false] [b] w fun c w=>jn [undef,(gv d 0),i0] w fun g a w=>bT .lss T.d 13 12 (gv a 2) c w fun h w=>ik (fun i=>ij h (i [] w) (f [c,(gv a 2),(gv a 0),(gv a 1)] w)) fun j w=>M.i.j3 b a e g w K) fun l w=>K bY w
def M.i(a b:Value):QQ:=fun w K=>ik (fun c=>biT P .len #[T.j] T.d [false] [a] w fun d w=>biT P .len #[T.j] T.d [false] [b] w fun e w=>bT .neq T.d 7 9 d e w fun f w=>ij f (K bF w) (c [bF] w)) fun g w=>M.i.j0 a g b w K
theorem M.i.calls:C2 F.ba M.i:=mk2 [0,1,4,5,13,12] (fun id=>cond (Nat.beq id 6) ⟨(gS 0 9 .nil),[],false,[0,0,3,7,0,0,48,112,255]⟩ p0) Tryz.func206
theorem M.i.fcall:fC F.ba:=fcN Tryz.func206
def M.o.j3(c:Value)(a:List Value)(d:Value)(e:KL):QQ:=fun w K=>ik (fun f=>jb w fun w=>w=w/\w=w/\ic (iaT P T.s c (gv a 2) w) w fun g=>ic (ldT P T.n g w) w fun h=>w=w/\w=w/\ic (iaT P T.s d (gv a 2) w) w fun i=>ic (ldT P T.n i w) w fun j=>ic (iq P .neq T.n (.tmp 19) (.tmp 23) h j w) w fun l=>ij l (K bF w) (f [(gv a 2),(gv a 1)] w)) fun b w=>bK .add T.d 13 (gv a 2) i1 w fun m w=>e [(gv b 0),(gv b 1),m] w
def M.o.j0(b:Value)(d:List Value)(e:Value):QQ:=fun w K=>ik (fun f=>biT P .len #[T.s] T.d [false] [b] w fun c w=>jn [undef,(gv d 0),i0] w fun g a w=>bT .lss T.d 13 12 (gv a 2) c w fun h w=>ik (fun i=>ij h (i [] w) (f [c,(gv a 2),(gv a 0),(gv a 1)] w)) fun j w=>M.o.j3 b a e g w K) fun l w=>K bY w
def M.o(a b:Value):QQ:=fun w K=>ik (fun c=>biT P .len #[T.s] T.d [false] [a] w fun d w=>biT P .len #[T.s] T.d [false] [b] w fun e w=>bT .neq T.d 7 9 d e w fun f w=>ij f (K bF w) (c [bF] w)) fun g w=>M.o.j0 a g b w K
theorem M.o.calls:C2 F.bc M.o:=mk2 [0,1,4,5,13,12] (fun id=>cond (Nat.beq id 6) ⟨(gS 0 9 .nil),[],false,[0,0,3,7,0,0,48,112,255]⟩ p0) Tryz.func207
theorem M.o.fcall:fC F.bc:=fcN Tryz.func207
def M.p.j3(c:Value)(a:List Value)(d:Value)(e:KL):QQ:=fun w K=>ik (fun f=>jb w fun w=>w=w/\w=w/\ic (iaT P T.i c (gv a 2) w) w fun g=>ic (ldT P T.a g w) w fun h=>w=w/\w=w/\ic (iaT P T.i d (gv a 2) w) w fun i=>ic (ldT P T.a i w) w fun j=>ic (bT .neq T.a 19 23 h j w) w fun l=>ij l (K bF w) (f [(gv a 2),(gv a 1)] w)) fun b w=>bK .add T.d 13 (gv a 2) i1 w fun m w=>e [(gv b 0),(gv b 1),m] w
def M.p.j0(b:Value)(d:List Value)(e:Value):QQ:=fun w K=>ik (fun f=>biT P .len #[T.i] T.d [false] [b] w fun c w=>jn [undef,(gv d 0),i0] w fun g a w=>bT .lss T.d 13 12 (gv a 2) c w fun h w=>ik (fun i=>ij h (i [] w) (f [c,(gv a 2),(gv a 0),(gv a 1)] w)) fun j w=>M.p.j3 b a e g w K) fun l w=>K bY w
def M.p(a b:Value):QQ:=fun w K=>ik (fun c=>biT P .len #[T.i] T.d [false] [a] w fun d w=>biT P .len #[T.i] T.d [false] [b] w fun e w=>bT .neq T.d 7 9 d e w fun f w=>ij f (K bF w) (c [bF] w)) fun g w=>M.p.j0 a g b w K
theorem M.p.calls:C2 F.bl M.p:=mk2 [0,1,4,5,13,12] (fun id=>cond (Nat.beq id 6) ⟨(gS 0 9 .nil),[],false,[0,0,3,7,0,0,48,112,255]⟩ p0) Tryz.func208
theorem M.p.fcall:fC F.bl:=fcN Tryz.func208
end Go.Proofs.YtgepcfcicngceaaGreatDoor
