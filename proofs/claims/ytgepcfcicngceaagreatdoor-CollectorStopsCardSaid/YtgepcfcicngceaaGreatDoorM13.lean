/-
  Printed by wip/Shallow.lean: functions of the program, read shallow; each is what its code does. No condition.
-/
import Derived.Test.YtgepcfcicngceaaGreatDoorN
set_option maxRecDepth 1000000
namespace Go.Proofs.YtgepcfcicngceaaGreatDoor
open Go.Eng
def M.cu.j3 (c:Value) (a b:List Value) (e:KL) (d:Value) (f:KL):QQ:=fun w K=>ii (fun g=>mm P c "Less" [(gv a 1),(gv b 3)] w fun h w=>unT P .not h w fun i w=>ig i (e [d,(gv a 1),(gv a 0),(gv b 3)] w) (g [] w)) fun j w=>mm P c "Swap" [(gv b 3),(gv a 1)] w fun l w=>f [d,(gv a 1),(gv a 0),(gv a 1)] w
def M.cu.j2 (c f d:Value) (g:List Value) (h i:KL):QQ:=fun w K=>ii (fun e=>bK .add T.d 23 c i1 w fun a w=>bT .lss T.d 25 26 a f w fun b w=>ic (isB b true) (fun K'=>K' d w) w fun j w=>ic (isB b true) (fun K'=>K' a w) w fun l w=>ic (isB b true) (fun K'=>K' c w) w fun m w=>ic (isB b true) (mm P j "Less" [l,m] w) w fun n w=>iu b n bF w fun o w=>ig o (e [a,a] w) (e [a,c] w)) fun p w=>M.cu.j3 d p g h c i w K
def M.cu.j1(a:List Value)(d:Value)(e:KL)(f:Value)(g:KL):QQ:=fun w K=>ip P .mul T.d (.const i2) (.tmp 12) i2 (gv a 3) w fun h w=>bK .add T.d 13 h i1 w fun b w=>ii (fun i=>bT .geq T.d 15 16 b d w fun c w=>ic (isB c false) (fun K'=>K' b w) w fun j w=>ic (isB c false) (bK .lss T.d 19 j i0 w) w fun l w=>iu c bY l w fun m w=>ig m (e [b,(gv a 1),(gv a 2),(gv a 3)] w) (i [] w)) fun n w=>M.cu.j2 b d f a e g w K
def M.cu(b a c:Value):QQ:=fun w K=>ii (fun d=>jl [undef,undef,undef,a] w fun e f w=>M.cu.j1 f c d b e w K) fun g w=>bT .gtr T.d 45 46 (gv g 3) a w fun h w=>K h w
theorem M.cu.calls:C3 F.gh M.cu:=mk3 [0,1,2,6,7,8,9,10] pN Tryz.func187
theorem M.cu.fcall:fC F.gh:=fcN Tryz.func187
def M.ez.j0 (c:List Value) (d:Value) (e:KL):QQ:=fun w K=>bK .sub T.d 5 (gv c 1) i1 w fun f w=>ip P .quo T.d (.tmp 6) (.const i2) f i2 w fun b w=>ii (fun g=>bT .eql T.d 8 9 b (gv c 1) w fun a w=>ic (isB a false) (fun K'=>K' d w) w fun h w=>ic (isB a false) (fun K'=>K' (gv c 1) w) w fun i w=>ic (isB a false) (fun K'=>K' b w) w fun j w=>ic (isB a false) (mm P h "Less" [i,j] w) w fun l w=>ic (isB a false) (unT P .not l w) w fun m w=>iu a bY m w fun n w=>ig n (K (.tuple #[]) w) (g [] w)) fun o w=>mm P d "Swap" [b,(gv c 1)] w fun p w=>e [b,b] w
def M.ez(a b:Value):QQ:=fun w K=>jl [undef,b] w fun c d w=>M.ez.j0 d a c w K
theorem M.ez.calls:C2 F.gl M.ez:=mk2 [0,1,4] pN Tryz.func188
theorem M.ez.fcall:fC F.gl:=fcN Tryz.func188
def M.eg(a:Value):QQ:=fun w K=>ii (fun b=>ip P .eql T.bu (.tmp 3) (.const nP) a nP w fun c w=>ig c (K i0 w) (b [i0] w)) fun h w=>im a w fun d w=>faT P T.bd d 0 w fun e w=>ldT P T.ae e w fun f w=>biT P .len #[T.ae] T.d [false] [f] w fun g w=>K g w
theorem M.eg.calls:C1 F.em M.eg:=mk1 [0,2] pN Tryz.func189
theorem M.eg.fcall:fC F.em:=fcN Tryz.func189
def M.t.j2(c:Value)(a:List Value)(d:Value)(e:KL):QQ:=fun w K=>ii (fun f=>iaT P T.ab c (gv a 2) w fun g w=>ldT P T.p g w fun h w=>ku P d [h] w fun i w=>ig i (K (gv a 2) w) (f [(gv a 2),(gv a 1)] w)) fun b w=>bK .add T.d 8 (gv a 2) i1 w fun j w=>e [(gv b 0),(gv b 1),j] w
def M.t(b d:Value):QQ:=fun w K=>ii (fun e=>biT P .len #[T.ab] T.d [false] [b] w fun c w=>jl [undef,i0,i0] w fun f a w=>bT .lss T.d 8 7 (gv a 2) c w fun g w=>ii (fun h=>ig g (h [] w) (e [c,(gv a 2),(gv a 0),(gv a 1)] w)) fun i w=>M.t.j2 b a d f w K) fun j w=>K (.int .i64 (-1)) w
theorem M.t.calls:C2 F.be M.t:=mk2 [0,1,4,5,8,7] pN Tryz.func190
theorem M.t.fcall:fC F.be:=fcN Tryz.func190
def M.fs(a b:Value):QQ:=fun w K=>lh P T.p a w fun c w=>ldT P T.p c w fun d w=>ldT P T.h b w fun e w=>ie P F.fz [d,e] w fun f w=>K f w
theorem M.fs.calls:C2 F.cz M.fs:=mk2 [0,1,3] pN Tryz.func191
def M.dt.j0(d b:Value)(m:List Value):QQ:=fun w K=>zt P (.func F.cq) [] [d] w fun c w=>ii (fun n=>faT P T.p b 1 w fun o w=>ldT P T.l o w fun a w=>ip P .eql T.l (.tmp 16) (.const (.string ⟨#[102,97,105,108]⟩)) a (.string ⟨#[102,97,105,108]⟩) w fun e w=>ig e (ku P c [(.func (.func F.eh) #[] #[])] w fun p w=>K p w) (ip P .eql T.l (.tmp 16) (.const (.string ⟨#[114,111,111,116]⟩)) a (.string ⟨#[114,111,111,116]⟩) w fun f w=>ig f (ku P c [(.func (.func F.hd) #[] #[])] w fun q w=>K q w) (ip P .eql T.l (.tmp 16) (.const (.string ⟨#[115,108,111,119]⟩)) a (.string ⟨#[115,108,111,119]⟩) w fun g w=>ig g (zt P (.func F.he) [] [b] w fun r w=>ku P c [r] w fun s w=>K s w) (ip P .eql T.l (.tmp 16) (.const (.string ⟨#[115,101,114,118,105,99,101]⟩)) a (.string ⟨#[115,101,114,118,105,99,101]⟩) w fun h w=>ig h (zt P (.func F.hf) [] [b] w fun t w=>ku P c [t] w fun u w=>K u w) (ip P .eql T.l (.tmp 16) (.const (.string ⟨#[110,97,109,101]⟩)) a (.string ⟨#[110,97,109,101]⟩) w fun i w=>ig i (zt P (.func F.hg) [] [b] w fun v w=>ku P c [v] w fun x w=>K x w) (ip P .eql T.l (.tmp 16) (.const (.string ⟨#[109,97,110,121]⟩)) a (.string ⟨#[109,97,110,121]⟩) w fun j w=>ig j (ldT P T.h d w fun y w=>biT P .len #[T.h] T.d [false] [y] w fun z w=>cvT P T.d T.a z w fun A w=>faT P T.p b 2 w fun B w=>ldT P T.a B w fun C w=>bT .geq T.a 44 46 A C w fun D w=>K D w) (ip P .eql T.l (.tmp 16) (.const (.string ⟨#[104,97,115,104]⟩)) a (.string ⟨#[104,97,115,104]⟩) w fun l w=>ig l (zt P (.func F.hh) [] [b] w fun E w=>ku P c [E] w fun G w=>K G w) (n [e,(gv m 0),f,g,h,i,j,l] w)))))))) fun H w=>K bY w
def M.dt(d e:Value):QQ:=fun w K=>lh P T.p d w fun b w=>lh P T.h e w fun c w=>ii (fun f=>ldT P T.p b w fun g w=>ie P F.dc [g] w fun h w=>unT P .not h w fun a w=>ic (isB a false) (ldT P T.h c w) w fun i w=>ic (isB a false) (biT P .len #[T.h] T.d [false] [i] w) w fun j w=>ic (isB a false) (bK .eql T.d 11 j i0 w) w fun l w=>iu a bY l w fun m w=>ig m (K bF w) (f [bF] w)) fun n w=>M.dt.j0 c b n w K
theorem M.dt.calls:C2 F.fz M.dt:=mk2 [0,1,4,5,17,21,25,30,35,40,48,3,2] pN Tryz.func192
theorem M.dt.fcall:fC F.fz:=fcN Tryz.func192
def M.fa(g h:Value):QQ:=fun w K=>lh P T.e g w fun a w=>lh P T.e h w fun b w=>jb w fun w=>ib (faT P T.e a 0 w) w fun i=>ib (ldT P T.a i w) w fun j=>ib (faT P T.e b 0 w) w fun l=>ib (ldT P T.a l w) w fun m=>ib (faT P T.e a 1 w) w fun c=>ib (ldT P T.a c w) w fun e=>ib (faT P T.e b 1 w) w fun d=>ib (ldT P T.a d w) w fun f=>ie P F.ax [j,m] w fun n w=>ij (ldT P T.a d w) w f/\ij (faT P T.e b 1 w) w d/\ij (ldT P T.a c w) w e/\ij (faT P T.e a 1 w) w c/\ie P F.ax [e,f] w fun o w=>bsT P T.bx 2 #[(0,n),(1,o)] w fun p w=>ie P F.fj [p] w fun q w=>K q w
theorem M.fa.calls:C2 F.ga M.fa:=mk2 [0,1,4] (fun id=>cond (Nat.beq id 1) ⟨(gS 0 4 (gS 5 4 (.eff 4 (.eff 9 (.eff 10 (.eff 11 (.eff 12 .nil .ir) .ir) .ir) .ir) .ir))),[4,9,10,11,12],false,[0,1,0,4,15,0,32,0,128,511,1023,2047,4095]⟩ p0) Tryz.func193
theorem M.fa.fcall:fC F.ga:=fcN Tryz.func193
def M.eo(a b:Value):QQ:=fun w K=>ip P .and T.a (.tmp 14) (.const (.int .u64 4294967295)) a (.int .u64 4294967295) w fun c w=>ip P .shr T.a (.tmp 16) (.const (.int .u64 32)) a (.int .u64 32) w fun d w=>ip P .and T.a (.tmp 18) (.const (.int .u64 4294967295)) b (.int .u64 4294967295) w fun e w=>ip P .shr T.a (.tmp 20) (.const (.int .u64 32)) b (.int .u64 32) w fun f w=>ip P .mul T.a (.tmp 22) (.tmp 23) c e w fun h w=>ip P .mul T.a (.tmp 25) (.tmp 26) d e w fun i w=>ip P .shr T.a (.tmp 28) (.const (.int .u64 32)) h (.int .u64 32) w fun j w=>ip P .add T.a (.tmp 27) (.tmp 29) i j w fun g w=>ip P .and T.a (.tmp 31) (.const (.int .u64 4294967295)) g (.int .u64 4294967295) w fun l w=>ip P .shr T.a (.tmp 33) (.const (.int .u64 32)) g (.int .u64 32) w fun m w=>ip P .mul T.a (.tmp 36) (.tmp 37) c f w fun n w=>ip P .add T.a (.tmp 35) (.tmp 38) l n w fun o w=>ip P .mul T.a (.tmp 40) (.tmp 41) d f w fun p w=>ip P .add T.a (.tmp 42) (.tmp 43) p m w fun q w=>ip P .shr T.a (.tmp 45) (.const (.int .u64 32)) o (.int .u64 32) w fun r w=>ip P .add T.a (.tmp 44) (.tmp 46) q r w fun s w=>ip P .mul T.a (.tmp 48) (.tmp 49) a b w fun t w=>K (.tuple #[s,t]) w
theorem M.eo.calls:C2 F.fc M.eo:=mk2 [0,1,4,5,6,7,8,9,10,11,12,13] pN Tryz.func194
theorem M.eo.fcall:fC F.fc:=fcN Tryz.func194
def M.dx(a b:Value):QQ:=fun w K=>ie P F.ck [a,b] w fun c w=>K c w
theorem M.dx.calls:C2 F.ee M.dx:=mk2 [0,1,4] pN Tryz.func196
theorem M.dx.fcall:fC F.ee:=fcN Tryz.func196
def M.an.j0(a d:Value):QQ:=fun w K=>ii (fun c=>biT P .cap #[T.h] T.d [false] [a] w fun e w=>biT P .len #[T.h] T.d [false] [a] w fun f w=>bT .sub T.d 10 12 e f w fun g w=>bT .sub T.d 8 13 d g w fun b w=>bK .gtr T.d 15 b i0 w fun h w=>ig h (biT P .cap #[T.h] T.d [false] [a] w fun i w=>slT P T.h a none (some i) none w fun j w=>biT P .append #[T.h,T.d] T.h [false,false] [j,b] w fun l w=>biT P .len #[T.h] T.d [false] [a] w fun m w=>slT P T.h l none (some m) none w fun n w=>c [b,n] w) (c [b,a] w)) fun o w=>K (gv o 1) w
def M.an(c a:Value):QQ:=fun w K=>ii (fun b=>bK .lss T.d 5 a i0 w fun d w=>ig d (rt P T.l (.string ⟨#[99,97,110,110,111,116,32,98,101,32,110,101,103,97,116,105,118,101]⟩) w fun e w=>azz w fun _ w=>b [] w) (b [] w)) fun f w=>M.an.j0 c a w K
theorem M.an.calls:C2 F.bl M.an:=mk2 [0,1,4] pN Tryz.func197
theorem M.an.fcall:fC F.bl:=fcN Tryz.func197
def M.cr.j2(g:Value)(d:List Value)(h e:Value)(i:KL):QQ:=fun w K=>ii (fun j=>iaT P T.h g (gv d 2) w fun l w=>ldT P T.i l w fun m w=>alT P T.i w fun a w=>stT P T.i a m w fun _ w=>ii (fun n=>ldT P T.i a w fun o w=>ie P F.fi [o] w fun p w=>bK .neq T.ac 16 p i0 w fun b w=>ic (isB b false) (faT P T.i a 0 w) w fun q w=>ic (isB b false) (ldT P T.a q w) w fun r w=>ic (isB b false) (fun K'=>K' h w) w fun s w=>ic (isB b false) (bT .neq T.a 20 21 r s w) w fun t w=>iu b bY t w fun c w=>ic (isB c false) (fun K'=>K' e w) w fun u w=>ic (isB c false) (faT P T.i a 1 w) w fun v w=>ic (isB c false) (ldT P T.a v w) w fun x w=>ic (isB c false) (luT P T.ak u x false w) w fun y w=>iu c bY y w fun z w=>ig z (K bF w) (n [(gv d 1)] w)) fun A w=>faT P T.i a 1 w fun B w=>ldT P T.a B w fun C w=>muT P T.ak e C bY w fun _ w=>j [a,(gv A 0)] w) fun f w=>bK .add T.d 11 (gv d 2) i1 w fun D w=>i [(gv f 0),(gv f 1),D] w
def M.cr.j0(b:Value):QQ:=fun w K=>biT P .len #[T.h] T.d [false] [b] w fun c w=>bK .gtr T.d 35 c i0 w fun a w=>ic (isB a true) (fun K'=>K' b w) w fun d w=>ic (isB a true) (biT P .len #[T.h] T.d [false] [d] w) w fun e w=>ic (isB a true) (bK .leq T.d 39 e (.int .i64 16) w) w fun f w=>iu a f bF w fun g w=>K g w
def M.cr(d b:Value):QQ:=fun w K=>aba P T.ak none w fun e w=>ii (fun f=>biT P .len #[T.h] T.d [false] [b] w fun c w=>jl [undef,bF,i0] w fun g a w=>bT .lss T.d 11 10 (gv a 2) c w fun h w=>ii (fun i=>ig h (i [] w) (f [b,c,(gv a 2),(gv a 0),(gv a 1)] w)) fun j w=>M.cr.j2 b a d e g w K) fun l w=>M.cr.j0 b w K
theorem M.cr.calls:C2 F.es M.cr:=mk2 [0,1,4,5,11,10,9,7] pN Tryz.func198
theorem M.cr.fcall:fC F.es:=fcN Tryz.func198
def M.ep(d:Value):QQ:=fun w K=>lh P T.n d w fun c w=>faT P T.n c 1 w fun e w=>ldT P T.a e w fun f w=>bK .eql T.a 4 f u0 w fun a w=>ic (isB a false) (faT P T.n c 2 w) w fun g w=>ic (isB a false) (ldT P T.d g w) w fun h w=>ic (isB a false) (bK .lss T.d 8 h i0 w) w fun i w=>iu a bY i w fun b w=>ic (isB b false) (faT P T.n c 2 w) w fun j w=>ic (isB b false) (ldT P T.d j w) w fun l w=>ic (isB b false) (bK .gtr T.d 13 l i2 w) w fun m w=>iu b bY m w fun n w=>K n w
theorem M.ep.calls:C1 F.ds M.ep:=mk1 [0,2] pN Tryz.func199
theorem M.ep.rcall:rC F.ds:=rcN Tryz.func199
def M.am.j2(e:Value)(a:List Value)(d:Value)(f:KL):QQ:=fun w K=>ii (fun g=>iaT P T.s e (gv a 3) w fun h w=>ldT P T.n h w fun i w=>alT P T.n w fun b w=>stT P T.n b i w fun _ w=>ii (fun j=>ldT P T.n b w fun l w=>ku P d [l] w fun m w=>bT .leq T.a 18 19 m (gv a 2) w fun n w=>ig n (K bF w) (j [(gv a 1)] w)) fun o w=>ldT P T.n b w fun p w=>ku P d [p] w fun q w=>g [b,(gv o 0),q] w) fun c w=>bK .add T.d 12 (gv a 3) i1 w fun r w=>f [(gv c 0),(gv c 1),(gv c 2),r] w
def M.am.j0(b c:Value):QQ:=fun w K=>biT P .len #[T.s] T.d [false] [b] w fun d w=>bK .gtr T.d 26 d i0 w fun a w=>ic (isB a true) (fun K'=>K' b w) w fun e w=>ic (isB a true) (biT P .len #[T.s] T.d [false] [e] w) w fun f w=>ic (isB a true) (fun K'=>K' c w) w fun g w=>ic (isB a true) (bT .leq T.d 30 31 f g w) w fun h w=>iu a h bF w fun i w=>K i w
def M.am(b d e:Value):QQ:=fun w K=>ii (fun f=>biT P .len #[T.s] T.d [false] [b] w fun c w=>jl [undef,bF,u0,i0] w fun g a w=>bT .lss T.d 12 11 (gv a 3) c w fun h w=>ii (fun i=>ig h (i [] w) (f [b,c,(gv a 3),(gv a 0),(gv a 1),(gv a 2)] w)) fun j w=>M.am.j2 b a e g w K) fun l w=>M.am.j0 b d w K
theorem M.am.calls:C3 F.cn M.am:=mk3 [0,1,2,6,7,12,11,10,9] pN Tryz.func200
theorem M.am.fcall:fC F.cn:=fcN Tryz.func200
def M.er(a:Value):QQ:=fun w K=>lh P T.n a w fun b w=>faT P T.n b 0 w fun c w=>ldT P T.a c w fun d w=>K d w
theorem M.er.calls:C1 F.dt M.er:=mk1 [0,2] pN Tryz.func201
theorem M.er.rcall:rC F.dt:=rcN Tryz.func201
def M.aq(a b:Value):QQ:=fun w K=>ie P F.au [a,b] w fun c w=>bK .geq T.d 7 c i0 w fun d w=>K d w
theorem M.aq.calls:C2 F.am M.aq:=mk2 [0,1,4] pN Tryz.func202
theorem M.aq.fcall:fC F.am:=fcN Tryz.func202
def M.fb(b:Value):QQ:=fun w K=>ip P .leq T.ad (.const i1) (.tmp 3) i1 b w fun a w=>ic (isB a true) (fun K'=>K' b w) w fun c w=>ic (isB a true) (ip P .leq T.ad (.tmp 6) (.const (.int .i64 3)) c (.int .i64 3) w) w fun d w=>iu a d bF w fun e w=>K e w
theorem M.fb.calls:C1 F.eg M.fb:=mk1 [0,2] pN Tryz.func203
theorem M.fb.fcall:fC F.eg:=fcN Tryz.func203
def M.bf.j2(e:Value)(a:List Value)(d:Value)(f:KL):QQ:=fun w K=>ii (fun g=>iaT P T.g e (gv a 3) w fun h w=>ldT P T.a h w fun b w=>ii (fun i=>ku P d [b] w fun j w=>bT .leq T.a 18 19 j (gv a 2) w fun l w=>ig l (K bF w) (i [(gv a 1)] w)) fun m w=>ku P d [b] w fun n w=>g [b,(gv m 0),n] w) fun c w=>bK .add T.d 12 (gv a 3) i1 w fun o w=>f [(gv c 0),(gv c 1),(gv c 2),o] w
def M.bf.j0(b c:Value):QQ:=fun w K=>biT P .len #[T.g] T.d [false] [b] w fun d w=>bK .gtr T.d 26 d i0 w fun a w=>ic (isB a true) (fun K'=>K' b w) w fun e w=>ic (isB a true) (biT P .len #[T.g] T.d [false] [e] w) w fun f w=>ic (isB a true) (fun K'=>K' c w) w fun g w=>ic (isB a true) (bT .leq T.d 30 31 f g w) w fun h w=>iu a h bF w fun i w=>K i w
def M.bf(b d e:Value):QQ:=fun w K=>ii (fun f=>biT P .len #[T.g] T.d [false] [b] w fun c w=>jl [undef,bF,u0,i0] w fun g a w=>bT .lss T.d 12 11 (gv a 3) c w fun h w=>ii (fun i=>ig h (i [] w) (f [b,c,(gv a 3),(gv a 0),(gv a 1),(gv a 2)] w)) fun j w=>M.bf.j2 b a e g w K) fun l w=>M.bf.j0 b d w K
theorem M.bf.calls:C3 F.dj M.bf:=mk3 [0,1,2,6,7,9,12,11,10] pN Tryz.func204
theorem M.bf.fcall:fC F.dj:=fcN Tryz.func204
def M.es(a:Value):QQ:=fun w K=>K a w
theorem M.es.calls:C1 F.du M.es:=mk1 [0,2] pN Tryz.func205
theorem M.es.rcall:rC F.du:=rcN Tryz.func205
def M.i.j3(c:Value)(a:List Value)(d:Value)(e:KL):QQ:=fun w K=>ii (fun f=>jb w fun w=>w=w/\w=w/\ib (iaT P T.h c (gv a 2) w) w fun g=>ib (ldT P T.i g w) w fun h=>w=w/\w=w/\ib (iaT P T.h d (gv a 2) w) w fun i=>ib (ldT P T.i i w) w fun j=>ib (ip P .neq T.i (.tmp 19) (.tmp 23) h j w) w fun l=>ig l (K bF w) (f [(gv a 2),(gv a 1)] w)) fun b w=>bK .add T.d 13 (gv a 2) i1 w fun m w=>e [(gv b 0),(gv b 1),m] w
def M.i.j0(b:Value)(d:List Value)(e:Value):QQ:=fun w K=>ii (fun f=>biT P .len #[T.h] T.d [false] [b] w fun c w=>jl [undef,(gv d 0),i0] w fun g a w=>bT .lss T.d 13 12 (gv a 2) c w fun h w=>ii (fun i=>ig h (i [] w) (f [c,(gv a 2),(gv a 0),(gv a 1)] w)) fun j w=>M.i.j3 b a e g w K) fun l w=>K bY w
def M.i(a b:Value):QQ:=fun w K=>ii (fun c=>biT P .len #[T.h] T.d [false] [a] w fun d w=>biT P .len #[T.h] T.d [false] [b] w fun e w=>bT .neq T.d 7 9 d e w fun f w=>ig f (K bF w) (c [bF] w)) fun g w=>M.i.j0 a g b w K
theorem M.i.calls:C2 F.ay M.i:=mk2 [0,1,4,5,13,12] (fun id=>cond (Nat.beq id 6) ⟨(gS 0 9 .nil),[],false,[0,0,3,7,0,0,48,112,255]⟩ p0) Tryz.func206
theorem M.i.fcall:fC F.ay:=fcN Tryz.func206
def M.o.j3(c:Value)(a:List Value)(d:Value)(e:KL):QQ:=fun w K=>ii (fun f=>jb w fun w=>w=w/\w=w/\ib (iaT P T.s c (gv a 2) w) w fun g=>ib (ldT P T.n g w) w fun h=>w=w/\w=w/\ib (iaT P T.s d (gv a 2) w) w fun i=>ib (ldT P T.n i w) w fun j=>ib (ip P .neq T.n (.tmp 19) (.tmp 23) h j w) w fun l=>ig l (K bF w) (f [(gv a 2),(gv a 1)] w)) fun b w=>bK .add T.d 13 (gv a 2) i1 w fun m w=>e [(gv b 0),(gv b 1),m] w
def M.o.j0(b:Value)(d:List Value)(e:Value):QQ:=fun w K=>ii (fun f=>biT P .len #[T.s] T.d [false] [b] w fun c w=>jl [undef,(gv d 0),i0] w fun g a w=>bT .lss T.d 13 12 (gv a 2) c w fun h w=>ii (fun i=>ig h (i [] w) (f [c,(gv a 2),(gv a 0),(gv a 1)] w)) fun j w=>M.o.j3 b a e g w K) fun l w=>K bY w
def M.o(a b:Value):QQ:=fun w K=>ii (fun c=>biT P .len #[T.s] T.d [false] [a] w fun d w=>biT P .len #[T.s] T.d [false] [b] w fun e w=>bT .neq T.d 7 9 d e w fun f w=>ig f (K bF w) (c [bF] w)) fun g w=>M.o.j0 a g b w K
theorem M.o.calls:C2 F.ba M.o:=mk2 [0,1,4,5,13,12] (fun id=>cond (Nat.beq id 6) ⟨(gS 0 9 .nil),[],false,[0,0,3,7,0,0,48,112,255]⟩ p0) Tryz.func207
theorem M.o.fcall:fC F.ba:=fcN Tryz.func207
def M.p.j3(c:Value)(a:List Value)(d:Value)(e:KL):QQ:=fun w K=>ii (fun f=>jb w fun w=>w=w/\w=w/\ib (iaT P T.g c (gv a 2) w) w fun g=>ib (ldT P T.a g w) w fun h=>w=w/\w=w/\ib (iaT P T.g d (gv a 2) w) w fun i=>ib (ldT P T.a i w) w fun j=>ib (bT .neq T.a 19 23 h j w) w fun l=>ig l (K bF w) (f [(gv a 2),(gv a 1)] w)) fun b w=>bK .add T.d 13 (gv a 2) i1 w fun m w=>e [(gv b 0),(gv b 1),m] w
def M.p.j0(b:Value)(d:List Value)(e:Value):QQ:=fun w K=>ii (fun f=>biT P .len #[T.g] T.d [false] [b] w fun c w=>jl [undef,(gv d 0),i0] w fun g a w=>bT .lss T.d 13 12 (gv a 2) c w fun h w=>ii (fun i=>ig h (i [] w) (f [c,(gv a 2),(gv a 0),(gv a 1)] w)) fun j w=>M.p.j3 b a e g w K) fun l w=>K bY w
def M.p(a b:Value):QQ:=fun w K=>ii (fun c=>biT P .len #[T.g] T.d [false] [a] w fun d w=>biT P .len #[T.g] T.d [false] [b] w fun e w=>bT .neq T.d 7 9 d e w fun f w=>ig f (K bF w) (c [bF] w)) fun g w=>M.p.j0 a g b w K
theorem M.p.calls:C2 F.bh M.p:=mk2 [0,1,4,5,13,12] (fun id=>cond (Nat.beq id 6) ⟨(gS 0 9 .nil),[],false,[0,0,3,7,0,0,48,112,255]⟩ p0) Tryz.func208
theorem M.p.fcall:fC F.bh:=fcN Tryz.func208
end Go.Proofs.YtgepcfcicngceaaGreatDoor
