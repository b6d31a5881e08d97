/-
  Printed by wip/Shallow.lean: functions of the program, read shallow; each is what its code does. No condition.
-/
import Derived.Test.YtgepcfcicngceaaGreatDoorN
set_option maxRecDepth 1000000
namespace Go.Proofs.YtgepcfcicngceaaGreatDoor
open Go.Eng
def M.dd.j3 (c:Value) (a b:List Value) (e:KL) (d:Value) (f:KL):QQ:=fun w K=>im (fun g=>oc P c "Less" [(gv a 1),(gv b 3)] w fun h w=>unT P .not h w fun i w=>il i (e [d,(gv a 1),(gv a 0),(gv b 3)] w) (g [] w)) fun j w=>oc P c "Swap" [(gv b 3),(gv a 1)] w fun l w=>f [d,(gv a 1),(gv a 0),(gv a 1)] w
def M.dd.j2 (c f d:Value) (g:List Value) (h i:KL):QQ:=fun w K=>im (fun e=>bK .add T.d 23 c i1 w fun a w=>bT .lss T.d 25 26 a f w fun b w=>ij (isB b true) (fun K'=>K' d w) w fun j w=>ij (isB b true) (fun K'=>K' a w) w fun l w=>ij (isB b true) (fun K'=>K' c w) w fun m w=>ij (isB b true) (oc P j "Less" [l,m] w) w fun n w=>jb b n bF w fun o w=>il o (e [a,a] w) (e [a,c] w)) fun p w=>M.dd.j3 d p g h c i w K
def M.dd.j1(a:List Value)(d:Value)(e:KL)(f:Value)(g:KL):QQ:=fun w K=>iy P .mul T.d (.const i2) (.tmp 12) i2 (gv a 3) w fun h w=>bK .add T.d 13 h i1 w fun b w=>im (fun i=>bT .geq T.d 15 16 b d w fun c w=>ij (isB c false) (fun K'=>K' b w) w fun j w=>ij (isB c false) (bK .lss T.d 19 j i0 w) w fun l w=>jb c bY l w fun m w=>il m (e [b,(gv a 1),(gv a 2),(gv a 3)] w) (i [] w)) fun n w=>M.dd.j2 b d f a e g w K
def M.dd(b a c:Value):QQ:=fun w K=>im (fun d=>jo [undef,undef,undef,a] w fun e f w=>M.dd.j1 f c d b e w K) fun g w=>bT .gtr T.d 45 46 (gv g 3) a w fun h w=>K h w
theorem M.dd.calls:C3 F.gr M.dd:=mk3 [0,1,2,6,7,8,9,10] pN Tryz.func187
theorem M.dd.fcall:fC F.gr:=fcN Tryz.func187
def M.fl.j0 (c:List Value) (d:Value) (e:KL):QQ:=fun w K=>bK .sub T.d 5 (gv c 1) i1 w fun f w=>iy P .quo T.d (.tmp 6) (.const i2) f i2 w fun b w=>im (fun g=>bT .eql T.d 8 9 b (gv c 1) w fun a w=>ij (isB a false) (fun K'=>K' d w) w fun h w=>ij (isB a false) (fun K'=>K' (gv c 1) w) w fun i w=>ij (isB a false) (fun K'=>K' b w) w fun j w=>ij (isB a false) (oc P h "Less" [i,j] w) w fun l w=>ij (isB a false) (unT P .not l w) w fun m w=>jb a bY m w fun n w=>il n (K (.tuple #[]) w) (g [] w)) fun o w=>oc P d "Swap" [b,(gv c 1)] w fun p w=>e [b,b] w
def M.fl(a b:Value):QQ:=fun w K=>jo [undef,b] w fun c d w=>M.fl.j0 d a c w K
theorem M.fl.calls:C2 F.gx M.fl:=mk2 [0,1,4] pN Tryz.func188
theorem M.fl.fcall:fC F.gx:=fcN Tryz.func188
def M.er(a:Value):QQ:=fun w K=>im (fun b=>iy P .eql T.bx (.tmp 3) (.const nP) a nP w fun c w=>il c (K i0 w) (b [i0] w)) fun h w=>iu a w fun d w=>faT P T.bg d 0 w fun e w=>ldT P T.af e w fun f w=>biT P .len #[T.af] T.d [false] [f] w fun g w=>K g w
theorem M.er.calls:C1 F.ey M.er:=mk1 [0,2] pN Tryz.func189
theorem M.er.fcall:fC F.ey:=fcN Tryz.func189
def M.w.j2(c:Value)(a:List Value)(d:Value)(e:KL):QQ:=fun w K=>im (fun f=>iaT P T.ad c (gv a 2) w fun g w=>ldT P T.r g w fun h w=>lh P d [h] w fun i w=>il i (K (gv a 2) w) (f [(gv a 2),(gv a 1)] w)) fun b w=>bK .add T.d 8 (gv a 2) i1 w fun j w=>e [(gv b 0),(gv b 1),j] w
def M.w(b d:Value):QQ:=fun w K=>im (fun e=>biT P .len #[T.ad] T.d [false] [b] w fun c w=>jo [undef,i0,i0] w fun f a w=>bT .lss T.d 8 7 (gv a 2) c w fun g w=>im (fun h=>il g (h [] w) (e [c,(gv a 2),(gv a 0),(gv a 1)] w)) fun i w=>M.w.j2 b a d f w K) fun j w=>K (.int .i64 (-1)) w
theorem M.w.calls:C2 F.bl M.w:=mk2 [0,1,4,5,8,7] pN Tryz.func190
theorem M.w.fcall:fC F.bl:=fcN Tryz.func190
def M.ge(a b:Value):QQ:=fun w K=>lk P T.r a w fun c w=>ldT P T.r c w fun d w=>ldT P T.h b w fun e w=>ik P F.gj [d,e] w fun f w=>K f w
theorem M.ge.calls:C2 F.de M.ge:=mk2 [0,1,3] pN Tryz.func191
def M.ec.j0(d b:Value)(m:List Value):QQ:=fun w K=>aah P (.func F.cw) [] [d] w fun c w=>im (fun n=>faT P T.r b 1 w fun o w=>ldT P T.n o w fun a w=>iy P .eql T.n (.tmp 16) (.const (.string ⟨#[102,97,105,108]⟩)) a (.string ⟨#[102,97,105,108]⟩) w fun e w=>il e (lh P c [(.func (.func F.ep) #[] #[])] w fun p w=>K p w) (iy P .eql T.n (.tmp 16) (.const (.string ⟨#[114,111,111,116]⟩)) a (.string ⟨#[114,111,111,116]⟩) w fun f w=>il f (lh P c [(.func (.func F.ho) #[] #[])] w fun q w=>K q w) (iy P .eql T.n (.tmp 16) (.const (.string ⟨#[115,108,111,119]⟩)) a (.string ⟨#[115,108,111,119]⟩) w fun g w=>il g (aah P (.func F.hp) [] [b] w fun r w=>lh P c [r] w fun s w=>K s w) (iy P .eql T.n (.tmp 16) (.const (.string ⟨#[115,101,114,118,105,99,101]⟩)) a (.string ⟨#[115,101,114,118,105,99,101]⟩) w fun h w=>il h (aah P (.func F.hq) [] [b] w fun t w=>lh P c [t] w fun u w=>K u w) (iy P .eql T.n (.tmp 16) (.const (.string ⟨#[110,97,109,101]⟩)) a (.string ⟨#[110,97,109,101]⟩) w fun i w=>il i (aah P (.func F.hr) [] [b] w fun v w=>lh P c [v] w fun x w=>K x w) (iy P .eql T.n (.tmp 16) (.const (.string ⟨#[109,97,110,121]⟩)) a (.string ⟨#[109,97,110,121]⟩) w fun j w=>il j (ldT P T.h d w fun y w=>biT P .len #[T.h] T.d [false] [y] w fun z w=>cvT P T.d T.a z w fun A w=>faT P T.r b 2 w fun B w=>ldT P T.a B w fun C w=>bT .geq T.a 44 46 A C w fun D w=>K D w) (iy P .eql T.n (.tmp 16) (.const (.string ⟨#[104,97,115,104]⟩)) a (.string ⟨#[104,97,115,104]⟩) w fun l w=>il l (aah P (.func F.hs) [] [b] w fun E w=>lh P c [E] w fun G w=>K G w) (n [e,(gv m 0),f,g,h,i,j,l] w)))))))) fun H w=>K bY w
def M.ec(d e:Value):QQ:=fun w K=>lk P T.r d w fun b w=>lk P T.h e w fun c w=>im (fun f=>ldT P T.r b w fun g w=>ik P F.dh [g] w fun h w=>unT P .not h w fun a w=>ij (isB a false) (ldT P T.h c w) w fun i w=>ij (isB a false) (biT P .len #[T.h] T.d [false] [i] w) w fun j w=>ij (isB a false) (bK .eql T.d 11 j i0 w) w fun l w=>jb a bY l w fun m w=>il m (K bF w) (f [bF] w)) fun n w=>M.ec.j0 c b n w K
theorem M.ec.calls:C2 F.gj M.ec:=mk2 [0,1,4,5,17,21,25,30,35,40,48,3,2] pN Tryz.func192
theorem M.ec.fcall:fC F.gj:=fcN Tryz.func192
def M.fm(g h:Value):QQ:=fun w K=>lk P T.e g w fun a w=>lk P T.e h w fun b w=>je w fun w=>ii (faT P T.e a 0 w) w fun i=>ii (ldT P T.a i w) w fun j=>ii (faT P T.e b 0 w) w fun l=>ii (ldT P T.a l w) w fun m=>ii (faT P T.e a 1 w) w fun c=>ii (ldT P T.a c w) w fun e=>ii (faT P T.e b 1 w) w fun d=>ii (ldT P T.a d w) w fun f=>ik P F.av [j,m] w fun n w=>ip (ldT P T.a d w) w f/\ip (faT P T.e b 1 w) w d/\ip (ldT P T.a c w) w e/\ip (faT P T.e a 1 w) w c/\ik P F.av [e,f] w fun o w=>bsT P T.bz 2 #[(0,n),(1,o)] w fun p w=>ik P F.ev [p] w fun q w=>K q w
theorem M.fm.calls:C2 F.gk M.fm:=mk2 [0,1,4] (fun id=>cond (Nat.beq id 1) ⟨(gS 0 4 (gS 5 4 (.eff 4 (.eff 9 (.eff 10 (.eff 11 (.eff 12 .nil .iz) .iz) .iz) .iz) .iz))),[4,9,10,11,12],false,[0,1,0,4,15,0,32,0,128,511,1023,2047,4095]⟩ p0) Tryz.func193
theorem M.fm.fcall:fC F.gk:=fcN Tryz.func193
def M.ez(a b:Value):QQ:=fun w K=>iy P .and T.a (.tmp 14) (.const (.int .u64 4294967295)) a (.int .u64 4294967295) w fun c w=>iy P .shr T.a (.tmp 16) (.const (.int .u64 32)) a (.int .u64 32) w fun d w=>iy P .and T.a (.tmp 18) (.const (.int .u64 4294967295)) b (.int .u64 4294967295) w fun e w=>iy P .shr T.a (.tmp 20) (.const (.int .u64 32)) b (.int .u64 32) w fun f w=>iy P .mul T.a (.tmp 22) (.tmp 23) c e w fun h w=>iy P .mul T.a (.tmp 25) (.tmp 26) d e w fun i w=>iy P .shr T.a (.tmp 28) (.const (.int .u64 32)) h (.int .u64 32) w fun j w=>iy P .add T.a (.tmp 27) (.tmp 29) i j w fun g w=>iy P .and T.a (.tmp 31) (.const (.int .u64 4294967295)) g (.int .u64 4294967295) w fun l w=>iy P .shr T.a (.tmp 33) (.const (.int .u64 32)) g (.int .u64 32) w fun m w=>iy P .mul T.a (.tmp 36) (.tmp 37) c f w fun n w=>iy P .add T.a (.tmp 35) (.tmp 38) l n w fun o w=>iy P .mul T.a (.tmp 40) (.tmp 41) d f w fun p w=>iy P .add T.a (.tmp 42) (.tmp 43) p m w fun q w=>iy P .shr T.a (.tmp 45) (.const (.int .u64 32)) o (.int .u64 32) w fun r w=>iy P .add T.a (.tmp 44) (.tmp 46) q r w fun s w=>iy P .mul T.a (.tmp 48) (.tmp 49) a b w fun t w=>K (.tuple #[s,t]) w
theorem M.ez.calls:C2 F.fn M.ez:=mk2 [0,1,4,5,6,7,8,9,10,11,12,13] pN Tryz.func194
theorem M.ez.fcall:fC F.fn:=fcN Tryz.func194
def M.eg(a b:Value):QQ:=fun w K=>ik P F.cp [a,b] w fun c w=>K c w
theorem M.eg.calls:C2 F.em M.eg:=mk2 [0,1,4] pN Tryz.func196
theorem M.eg.fcall:fC F.em:=fcN Tryz.func196
def M.au.j0(a d:Value):QQ:=fun w K=>im (fun c=>biT P .cap #[T.h] T.d [false] [a] w fun e w=>biT P .len #[T.h] T.d [false] [a] w fun f w=>bT .sub T.d 10 12 e f w fun g w=>bT .sub T.d 8 13 d g w fun b w=>bK .gtr T.d 15 b i0 w fun h w=>il h (biT P .cap #[T.h] T.d [false] [a] w fun i w=>slT P T.h a none (some i) none w fun j w=>biT P .append #[T.h,T.d] T.h [false,false] [j,b] w fun l w=>biT P .len #[T.h] T.d [false] [a] w fun m w=>slT P T.h l none (some m) none w fun n w=>c [b,n] w) (c [b,a] w)) fun o w=>K (gv o 1) w
def M.au(c a:Value):QQ:=fun w K=>im (fun b=>bK .lss T.d 5 a i0 w fun d w=>il d (th P T.n (.string ⟨#[99,97,110,110,111,116,32,98,101,32,110,101,103,97,116,105,118,101]⟩) w fun e w=>amw w fun _ w=>b [] w) (b [] w)) fun f w=>M.au.j0 c a w K
theorem M.au.calls:C2 F.br M.au:=mk2 [0,1,4] pN Tryz.func197
theorem M.au.fcall:fC F.br:=fcN Tryz.func197
def M.cz.j2(g:Value)(d:List Value)(h e:Value)(i:KL):QQ:=fun w K=>im (fun j=>iaT P T.h g (gv d 2) w fun l w=>ldT P T.j l w fun m w=>alT P T.j w fun a w=>stT P T.j a m w fun _ w=>im (fun n=>ldT P T.j a w fun o w=>ik P F.fv [o] w fun p w=>bK .neq T.aa 16 p i0 w fun b w=>ij (isB b false) (faT P T.j a 0 w) w fun q w=>ij (isB b false) (ldT P T.a q w) w fun r w=>ij (isB b false) (fun K'=>K' h w) w fun s w=>ij (isB b false) (bT .neq T.a 20 21 r s w) w fun t w=>jb b bY t w fun c w=>ij (isB c false) (fun K'=>K' e w) w fun u w=>ij (isB c false) (faT P T.j a 1 w) w fun v w=>ij (isB c false) (ldT P T.a v w) w fun x w=>ij (isB c false) (luT P T.am u x false w) w fun y w=>jb c bY y w fun z w=>il z (K bF w) (n [(gv d 1)] w)) fun A w=>faT P T.j a 1 w fun B w=>ldT P T.a B w fun C w=>muT P T.am e C bY w fun _ w=>j [a,(gv A 0)] w) fun f w=>bK .add T.d 11 (gv d 2) i1 w fun D w=>i [(gv f 0),(gv f 1),D] w
def M.cz.j0(b:Value):QQ:=fun w K=>biT P .len #[T.h] T.d [false] [b] w fun c w=>bK .gtr T.d 35 c i0 w fun a w=>ij (isB a true) (fun K'=>K' b w) w fun d w=>ij (isB a true) (biT P .len #[T.h] T.d [false] [d] w) w fun e w=>ij (isB a true) (bK .leq T.d 39 e (.int .i64 16) w) w fun f w=>jb a f bF w fun g w=>K g w
def M.cz(d b:Value):QQ:=fun w K=>abt P T.am none w fun e w=>im (fun f=>biT P .len #[T.h] T.d [false] [b] w fun c w=>jo [undef,bF,i0] w fun g a w=>bT .lss T.d 11 10 (gv a 2) c w fun h w=>im (fun i=>il h (i [] w) (f [b,c,(gv a 2),(gv a 0),(gv a 1)] w)) fun j w=>M.cz.j2 b a d e g w K) fun l w=>M.cz.j0 b w K
theorem M.cz.calls:C2 F.fd M.cz:=mk2 [0,1,4,5,11,10,9,7] pN Tryz.func198
theorem M.cz.fcall:fC F.fd:=fcN Tryz.func198
def M.fa(d:Value):QQ:=fun w K=>lk P T.i d w fun c w=>faT P T.i c 1 w fun e w=>ldT P T.a e w fun f w=>bK .eql T.a 4 f u0 w fun a w=>ij (isB a false) (faT P T.i c 2 w) w fun g w=>ij (isB a false) (ldT P T.d g w) w fun h w=>ij (isB a false) (bK .lss T.d 8 h i0 w) w fun i w=>jb a bY i w fun b w=>ij (isB b false) (faT P T.i c 2 w) w fun j w=>ij (isB b false) (ldT P T.d j w) w fun l w=>ij (isB b false) (bK .gtr T.d 13 l i2 w) w fun m w=>jb b bY m w fun n w=>K n w
theorem M.fa.calls:C1 F.dz M.fa:=mk1 [0,2] pN Tryz.func199
theorem M.fa.rcall:rC F.dz:=rcN Tryz.func199
def M.ar.j2(e:Value)(a:List Value)(d:Value)(f:KL):QQ:=fun w K=>im (fun g=>iaT P T.k e (gv a 3) w fun h w=>ldT P T.i h w fun i w=>alT P T.i w fun b w=>stT P T.i b i w fun _ w=>im (fun j=>ldT P T.i b w fun l w=>lh P d [l] w fun m w=>bT .leq T.a 18 19 m (gv a 2) w fun n w=>il n (K bF w) (j [(gv a 1)] w)) fun o w=>ldT P T.i b w fun p w=>lh P d [p] w fun q w=>g [b,(gv o 0),q] w) fun c w=>bK .add T.d 12 (gv a 3) i1 w fun r w=>f [(gv c 0),(gv c 1),(gv c 2),r] w
def M.ar.j0(b c:Value):QQ:=fun w K=>biT P .len #[T.k] T.d [false] [b] w fun d w=>bK .gtr T.d 26 d i0 w fun a w=>ij (isB a true) (fun K'=>K' b w) w fun e w=>ij (isB a true) (biT P .len #[T.k] T.d [false] [e] w) w fun f w=>ij (isB a true) (fun K'=>K' c w) w fun g w=>ij (isB a true) (bT .leq T.d 30 31 f g w) w fun h w=>jb a h bF w fun i w=>K i w
def M.ar(b d e:Value):QQ:=fun w K=>im (fun f=>biT P .len #[T.k] T.d [false] [b] w fun c w=>jo [undef,bF,u0,i0] w fun g a w=>bT .lss T.d 12 11 (gv a 3) c w fun h w=>im (fun i=>il h (i [] w) (f [b,c,(gv a 3),(gv a 0),(gv a 1),(gv a 2)] w)) fun j w=>M.ar.j2 b a e g w K) fun l w=>M.ar.j0 b d w K
theorem M.ar.calls:C3 F.ct M.ar:=mk3 [0,1,2,6,7,12,11,10,9] pN Tryz.func200
theorem M.ar.fcall:fC F.ct:=fcN Tryz.func200
def M.fb(a:Value):QQ:=fun w K=>lk P T.i a w fun b w=>faT P T.i b 0 w fun c w=>ldT P T.a c w fun d w=>K d w
theorem M.fb.calls:C1 F.ea M.fb:=mk1 [0,2] pN Tryz.func201
theorem M.fb.rcall:rC F.ea:=rcN Tryz.func201
def M.ax(a b:Value):QQ:=fun w K=>ik P F.aj [a,b] w fun c w=>bK .geq T.d 7 c i0 w fun d w=>K d w
theorem M.ax.calls:C2 F.ar M.ax:=mk2 [0,1,4] pN Tryz.func202
theorem M.ax.fcall:fC F.ar:=fcN Tryz.func202
def M.fn(b:Value):QQ:=fun w K=>iy P .leq T.ae (.const i1) (.tmp 3) i1 b w fun a w=>ij (isB a true) (fun K'=>K' b w) w fun c w=>ij (isB a true) (iy P .leq T.ae (.tmp 6) (.const (.int .i64 3)) c (.int .i64 3) w) w fun d w=>jb a d bF w fun e w=>K e w
theorem M.fn.calls:C1 F.eo M.fn:=mk1 [0,2] pN Tryz.func203
theorem M.fn.fcall:fC F.eo:=fcN Tryz.func203
def M.bk.j2(e:Value)(a:List Value)(d:Value)(f:KL):QQ:=fun w K=>im (fun g=>iaT P T.g e (gv a 3) w fun h w=>ldT P T.a h w fun b w=>im (fun i=>lh P d [b] w fun j w=>bT .leq T.a 18 19 j (gv a 2) w fun l w=>il l (K bF w) (i [(gv a 1)] w)) fun m w=>lh P d [b] w fun n w=>g [b,(gv m 0),n] w) fun c w=>bK .add T.d 12 (gv a 3) i1 w fun o w=>f [(gv c 0),(gv c 1),(gv c 2),o] w
def M.bk.j0(b c:Value):QQ:=fun w K=>biT P .len #[T.g] T.d [false] [b] w fun d w=>bK .gtr T.d 26 d i0 w fun a w=>ij (isB a true) (fun K'=>K' b w) w fun e w=>ij (isB a true) (biT P .len #[T.g] T.d [false] [e] w) w fun f w=>ij (isB a true) (fun K'=>K' c w) w fun g w=>ij (isB a true) (bT .leq T.d 30 31 f g w) w fun h w=>jb a h bF w fun i w=>K i w
def M.bk(b d e:Value):QQ:=fun w K=>im (fun f=>biT P .len #[T.g] T.d [false] [b] w fun c w=>jo [undef,bF,u0,i0] w fun g a w=>bT .lss T.d 12 11 (gv a 3) c w fun h w=>im (fun i=>il h (i [] w) (f [b,c,(gv a 3),(gv a 0),(gv a 1),(gv a 2)] w)) fun j w=>M.bk.j2 b a e g w K) fun l w=>M.bk.j0 b d w K
theorem M.bk.calls:C3 F.dp M.bk:=mk3 [0,1,2,6,7,9,12,11,10] pN Tryz.func204
theorem M.bk.fcall:fC F.dp:=fcN Tryz.func204
def M.fc(a:Value):QQ:=fun w K=>K a w
theorem M.fc.calls:C1 F.eb M.fc:=mk1 [0,2] pN Tryz.func205
theorem M.fc.rcall:rC F.eb:=rcN Tryz.func205
def M.k.j3(c:Value)(a:List Value)(d:Value)(e:KL):QQ:=fun w K=>im (fun f=>je w fun w=>w=w/\w=w/\ii (iaT P T.h c (gv a 2) w) w fun g=>ii (ldT P T.j g w) w fun h=>w=w/\w=w/\ii (iaT P T.h d (gv a 2) w) w fun i=>ii (ldT P T.j i w) w fun j=>ii (iy P .neq T.j (.tmp 19) (.tmp 23) h j w) w fun l=>il l (K bF w) (f [(gv a 2),(gv a 1)] w)) fun b w=>bK .add T.d 13 (gv a 2) i1 w fun m w=>e [(gv b 0),(gv b 1),m] w
def M.k.j0(b:Value)(d:List Value)(e:Value):QQ:=fun w K=>im (fun f=>biT P .len #[T.h] T.d [false] [b] w fun c w=>jo [undef,(gv d 0),i0] w fun g a w=>bT .lss T.d 13 12 (gv a 2) c w fun h w=>im (fun i=>il h (i [] w) (f [c,(gv a 2),(gv a 0),(gv a 1)] w)) fun j w=>M.k.j3 b a e g w K) fun l w=>K bY w
def M.k(a b:Value):QQ:=fun w K=>im (fun c=>biT P .len #[T.h] T.d [false] [a] w fun d w=>biT P .len #[T.h] T.d [false] [b] w fun e w=>bT .neq T.d 7 9 d e w fun f w=>il f (K bF w) (c [bF] w)) fun g w=>M.k.j0 a g b w K
theorem M.k.calls:C2 F.bd M.k:=mk2 [0,1,4,5,13,12] (fun id=>cond (Nat.beq id 6) ⟨(gS 0 9 .nil),[],false,[0,0,3,7,0,0,48,112,255]⟩ p0) Tryz.func206
theorem M.k.fcall:fC F.bd:=fcN Tryz.func206
def M.r.j3(c:Value)(a:List Value)(d:Value)(e:KL):QQ:=fun w K=>im (fun f=>je w fun w=>w=w/\w=w/\ii (iaT P T.k c (gv a 2) w) w fun g=>ii (ldT P T.i g w) w fun h=>w=w/\w=w/\ii (iaT P T.k d (gv a 2) w) w fun i=>ii (ldT P T.i i w) w fun j=>ii (iy P .neq T.i (.tmp 19) (.tmp 23) h j w) w fun l=>il l (K bF w) (f [(gv a 2),(gv a 1)] w)) fun b w=>bK .add T.d 13 (gv a 2) i1 w fun m w=>e [(gv b 0),(gv b 1),m] w
def M.r.j0(b:Value)(d:List Value)(e:Value):QQ:=fun w K=>im (fun f=>biT P .len #[T.k] T.d [false] [b] w fun c w=>jo [undef,(gv d 0),i0] w fun g a w=>bT .lss T.d 13 12 (gv a 2) c w fun h w=>im (fun i=>il h (i [] w) (f [c,(gv a 2),(gv a 0),(gv a 1)] w)) fun j w=>M.r.j3 b a e g w K) fun l w=>K bY w
def M.r(a b:Value):QQ:=fun w K=>im (fun c=>biT P .len #[T.k] T.d [false] [a] w fun d w=>biT P .len #[T.k] T.d [false] [b] w fun e w=>bT .neq T.d 7 9 d e w fun f w=>il f (K bF w) (c [bF] w)) fun g w=>M.r.j0 a g b w K
theorem M.r.calls:C2 F.bg M.r:=mk2 [0,1,4,5,13,12] (fun id=>cond (Nat.beq id 6) ⟨(gS 0 9 .nil),[],false,[0,0,3,7,0,0,48,112,255]⟩ p0) Tryz.func207
theorem M.r.fcall:fC F.bg:=fcN Tryz.func207
def M.s.j3(c:Value)(a:List Value)(d:Value)(e:KL):QQ:=fun w K=>im (fun f=>je w fun w=>w=w/\w=w/\ii (iaT P T.g c (gv a 2) w) w fun g=>ii (ldT P T.a g w) w fun h=>w=w/\w=w/\ii (iaT P T.g d (gv a 2) w) w fun i=>ii (ldT P T.a i w) w fun j=>ii (bT .neq T.a 19 23 h j w) w fun l=>il l (K bF w) (f [(gv a 2),(gv a 1)] w)) fun b w=>bK .add T.d 13 (gv a 2) i1 w fun m w=>e [(gv b 0),(gv b 1),m] w
def M.s.j0(b:Value)(d:List Value)(e:Value):QQ:=fun w K=>im (fun f=>biT P .len #[T.g] T.d [false] [b] w fun c w=>jo [undef,(gv d 0),i0] w fun g a w=>bT .lss T.d 13 12 (gv a 2) c w fun h w=>im (fun i=>il h (i [] w) (f [c,(gv a 2),(gv a 0),(gv a 1)] w)) fun j w=>M.s.j3 b a e g w K) fun l w=>K bY w
def M.s(a b:Value):QQ:=fun w K=>im (fun c=>biT P .len #[T.g] T.d [false] [a] w fun d w=>biT P .len #[T.g] T.d [false] [b] w fun e w=>bT .neq T.d 7 9 d e w fun f w=>il f (K bF w) (c [bF] w)) fun g w=>M.s.j0 a g b w K
theorem M.s.calls:C2 F.bn M.s:=mk2 [0,1,4,5,13,12] (fun id=>cond (Nat.beq id 6) ⟨(gS 0 9 .nil),[],false,[0,0,3,7,0,0,48,112,255]⟩ p0) Tryz.func208
theorem M.s.fcall:fC F.bn:=fcN Tryz.func208
def M.ak.j0(a d:Value):QQ:=fun w K=>im (fun c=>biT P .cap #[T.k] T.d [false] [a] w fun e w=>biT P .len #[T.k] T.d [false] [a] w fun f w=>bT .sub T.d 10 12 e f w fun g w=>bT .sub T.d 8 13 d g w fun b w=>bK .gtr T.d 15 b i0 w fun h w=>il h (biT P .cap #[T.k] T.d [false] [a] w fun i w=>slT P T.k a none (some i) none w fun j w=>biT P .append #[T.k,T.d] T.k [false,false] [j,b] w fun l w=>biT P .len #[T.k] T.d [false] [a] w fun m w=>slT P T.k l none (some m) none w fun n w=>c [b,n] w) (c [b,a] w)) fun o w=>K (gv o 1) w
def M.ak(c a:Value):QQ:=fun w K=>im (fun b=>bK .lss T.d 5 a i0 w fun d w=>il d (th P T.n (.string ⟨#[99,97,110,110,111,116,32,98,101,32,110,101,103,97,116,105,118,101]⟩) w fun e w=>amw w fun _ w=>b [] w) (b [] w)) fun f w=>M.ak.j0 c a w K
theorem M.ak.calls:C2 F.bi M.ak:=mk2 [0,1,4] pN Tryz.func209
theorem M.ak.fcall:fC F.bi:=fcN Tryz.func209
end Go.Proofs.YtgepcfcicngceaaGreatDoor
