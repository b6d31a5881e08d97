/-
  Printed by wip/Shallow.lean: functions of the program, read shallow; each is what its code does. No condition.
-/
import Derived.Test.YtgepcfcicngceaaGreatDoorN
set_option maxRecDepth 1000000
namespace Go.Proofs.YtgepcfcicngceaaGreatDoor
open Go.Eng
def M.m.j2(d f c:Value):QQ:=fun w K=>ig P F.bw [d] w fun g w=>alT P T.c w fun a w=>stT P T.c a g w fun _ w=>faT P T.c a 0 w fun h w=>ldT P T.d h w fun i w=>bT .neq T.d 50 51 i f w fun b w=>ie (isB b true) (faT P T.c a 0 w) w fun j w=>ie (isB b true) (ldT P T.d j w) w fun l w=>ie (isB b true) (bK .neq T.d 55 l i0 w) w fun m w=>iw b m bF w fun n w=>ij n (jb w fun w=>w=w/\ic (ldT P T.c a w) w fun e=>w=w/\ig P F.cg [d] w fun o w=>ii (ldT P T.c a w) w e/\ii (fun K'=>K' c w) w c/\ig P F.f [c,e,o] w fun p w=>K (.tuple #[]) w) (K (.tuple #[]) w)
def M.m.j1(f c a j:Value):QQ:=fun w K=>ik (fun l=>ig P F.di [f] w fun g w=>exT P g 0 w fun b w=>exT P g 1 w fun h w=>ij h (faT P T.c c 1 w fun m w=>ldT P T.a m w fun n w=>ig P F.bh [a,n,b] w fun p w=>jb w fun w=>w=w/\ic (faT P T.c c 1 w) w fun d=>ic (ldT P T.a d w) w fun e=>w=w/\ic (jg P T.c #[(0,(.int .i64 8)),(1,e),(4,b)] w) w fun i=>w=w/\ig P F.bz [a] w fun o w=>ii (jg P T.c #[(0,(.int .i64 8)),(1,e),(4,b)] w) w i/\ii (fun K'=>K' b w) w b/\ii (ldT P T.a d w) w e/\ii (faT P T.c c 1 w) w d/\ii (fun K'=>K' a w) w a/\ig P F.f [a,i,o] w fun q w=>K (.tuple #[]) w) (l [b,h] w)) fun r w=>M.m.j2 f j a w K
def M.m.j0(a b c d:Value):QQ:=fun w K=>ig P F.bw [a] w fun e w=>fdT P T.c e 0 w fun f w=>ik (fun g=>ldT P T.c b w fun h w=>ig P F.dw [a,c,h] w fun i w=>unT P .not i w fun j w=>ij j (K (.tuple #[]) w) (g [] w)) fun l w=>M.m.j1 a b d f w K
def M.m(a d e:Value):QQ:=fun w K=>lj P T.c e w fun b w=>jb w fun w=>w=w/\ic (ip a w) w fun f=>ic (faT P T.b f 5 w) w fun g=>ic (ldT P T.x g w) w fun h=>ic (faT P T.c b 1 w) w fun i=>ic (ldT P T.a i w) w fun j=>ic (luT P T.x h j false w) w fun c=>ik (fun l=>iq P .eql T.bj (.tmp 18) (.const nP) c nP w fun m w=>ij m (K (.tuple #[]) w) (l [] w)) fun n w=>M.m.j0 c b d a w K
theorem M.m.calls:C3 F.am M.m:=mk3 [0,1,2,6,7,8,9,5] (fun id=>cond (Nat.beq id 1) ⟨(gS 0 7 (.eff 7 .nil .ir)),[7],false,[0,1,3,7,0,16,63,127]⟩ (cond (Nat.beq id 8) ⟨(gS 0 6 (.eff 6 (.eff 7 .nil .ir) .ir)),[6,7],false,[0,0,2,0,14,0,32,127]⟩ (cond (Nat.beq id 11) ⟨(gS 0 3 (.eff 3 (.eff 4 .nil .ir) .ir)),[3,4],false,[0,0,0,4,15]⟩ p0))) Tryz.func53
theorem M.m.fcall:fC F.am:=fcN Tryz.func53
def M.ci(a b c:Value):QQ:=fun w K=>ip a w fun e w=>faT P T.b e 4 w fun f w=>ldT P T.bl f w fun g w=>ig P F.ep [g,b,c] w fun v w=>ip a w fun h w=>faT P T.b h 5 w fun i w=>ldT P T.x i w fun j w=>biT P .delete #[T.x,T.a] T.ca [false,false] [j,b] w fun _ w=>ip a w fun l w=>faT P T.b l 6 w fun m w=>ldT P T.u m w fun n w=>biT P .delete #[T.u,T.a] T.ca [false,false] [n,b] w fun _ w=>ip a w fun o w=>faT P T.b o 3 w fun p w=>ldT P T.aq p w fun q w=>ig P F.cc [q,b] w fun d w=>biT P .len #[T.j] T.d [false] [d] w fun r w=>bK .eql T.d 37 r i0 w fun s w=>ij s (K (.tuple #[]) w) (iq P .eql T.ae (.tmp 40) (.const i1) c i1 w fun t w=>ij t (ig P F.cd [a,b,d] w fun x w=>K (.tuple #[]) w) (jg P T.ap #[(0,(.int .i64 3)),(3,b),(5,c)] w fun u w=>ig P F.w [a,u] w fun y w=>K (.tuple #[]) w))
theorem M.ci.calls:C3 F.bh M.ci:=mk3 [0,1,2,6,35,39] pN Tryz.func54
theorem M.ci.fcall:fC F.bh:=fcN Tryz.func54
def M.dc(b:Value):QQ:=fun w K=>ig P F.cy [b] w fun a w=>ig P F.h [a] w fun c w=>K a w
theorem M.dc.calls:C1 F.ao M.dc:=mk1 [0,2,3] pN Tryz.func56
theorem M.dc.fcall:fC F.ao:=fcN Tryz.func56
def M.ai(a:Value):QQ:=fun w K=>lj P T.v a w fun b w=>aaj P (.func F.c) [] [b] w fun c w=>K c w
theorem M.ai.calls:C1 F.ai M.ai:=mk1 [0,2] pN Tryz.func57
theorem M.ai.fcall:fC F.ai:=fcN Tryz.func57
def M.bp.j2(e:Value)(a:List Value)(f:KL):QQ:=fun w K=>ik (fun g=>iaT P T.i e (gv a 4) w fun h w=>ldT P T.a h w fun c w=>ik (fun i=>bT .leq T.a 18 19 c (gv a 3) w fun j w=>ij j (K (.tuple #[nS,i1]) w) (i [(gv a 1),(gv a 2)] w)) fun d w=>g [c,(gv d 0),(gv d 1),c] w) fun b w=>bK .add T.d 14 (gv a 4) i1 w fun l w=>f [(gv b 0),(gv b 1),(gv b 2),(gv b 3),l] w
def M.bp.j6(a:List Value)(d:Value)(e:KL)(b:List Value):QQ:=fun w K=>ij (gv a 0) (K (.tuple #[nS,i1]) w) (biT P .len #[T.i] T.d [false] [d] w fun f w=>bK .gtr T.d 30 f (.int .i64 16) w fun c w=>ij c (K (.tuple #[nS,(.int .i64 4)]) w) (e [(gv a 0),(gv b 4),(gv b 5),c] w))
def M.bp.j12(b:Value)(a:List Value)(d:KL):QQ:=fun w K=>ik (fun e=>ig P F.gz [b,(gv a 2)] w fun f w=>jg P T.au #[(0,f),(1,b)] w fun g w=>bsT P T.an 1 #[(0,g)] w fun h w=>biT P .append #[T.an,T.an] T.an [false,false] [(gv a 1),h] w fun i w=>e [(gv a 2),i] w) fun c w=>bK .add T.d 39 (gv a 2) i1 w fun j w=>d [(gv c 0),(gv c 1),j] w
def M.bp.j9(f:Value)(c:List Value)(d:Value)(g:KL):QQ:=fun w K=>ik (fun h=>iaT P T.i f (gv c 5) w fun i w=>ldT P T.a i w fun e w=>jn [(gv c 3),(gv c 4),i0] w fun j a w=>bT .lss T.d 39 38 (gv a 2) d w fun l w=>ik (fun m=>ij l (m [] w) (h [e,d,(gv a 2),(gv a 0),(gv a 1)] w)) fun o w=>M.bp.j12 e a j w K) fun b w=>bK .add T.d 34 (gv c 5) i1 w fun n w=>g [(gv b 0),(gv b 1),(gv b 2),(gv b 3),(gv b 4),n] w
def M.bp.j5(b:Value)(e:List Value)(f:Value):QQ:=fun w K=>ik (fun g=>biT P .len #[T.i] T.d [false] [b] w fun c w=>jn [undef,undef,undef,undef,(gv e 1),i0] w fun h a w=>bT .lss T.d 34 33 (gv a 5) c w fun i w=>ik (fun j=>ij i (j [] w) (g [b,c,(gv a 5),(gv a 0),(gv a 1),(gv a 2),(gv a 3),(gv a 4)] w)) fun l w=>M.bp.j9 b a f h w K) fun d w=>ig P F.ak [(gv d 7),(.func (.func F.ed) #[] #[])] w fun m w=>K (.tuple #[(gv d 7),i0]) w
def M.bp.j0(a b:Value)(e:List Value):QQ:=fun w K=>ik (fun f=>ik (fun c=>bK .lss T.d 24 a i1 w fun d w=>ij d (c [d] w) (bK .gtr T.d 26 a (.int .i64 64) w fun g w=>c [g] w)) fun h w=>M.bp.j6 h b f e w K) fun i w=>M.bp.j5 b i a w K
def M.bp(b d:Value):QQ:=fun w K=>ik (fun e=>biT P .len #[T.i] T.d [false] [b] w fun c w=>jn [undef,nS,i0,u0,i0] w fun f a w=>bT .lss T.d 14 13 (gv a 4) c w fun g w=>ik (fun h=>ij g (h [] w) (e [b,c,(gv a 4),(gv a 0),(gv a 1),(gv a 2),(gv a 3)] w)) fun j w=>M.bp.j2 b a f w K) fun i w=>M.bp.j0 d b i w K
theorem M.bp.calls:C2 F.gu M.bp:=mk2 [0,1,4,5,6,8,23,28,10,11,14,13,12,34,33,32,39,38] pN Tryz.func58
theorem M.bp.fcall:fC F.gu:=fcN Tryz.func58
def M.ef.j3(d:Value)(a:List Value)(e:KL):QQ:=fun w K=>ik (fun c=>iaT P T.s d (gv a 1) w fun f w=>ldT P T.n f w fun g w=>alT P T.n w fun b w=>stT P T.n b g w fun _ w=>faT P T.n b 2 w fun h w=>ldT P T.d h w fun i w=>bK .neq T.d 15 i i2 w fun j w=>ij j (faT P T.n b 0 w fun l w=>ldT P T.a l w fun m w=>bsT P T.i 1 #[(0,m)] w fun n w=>biT P .append #[T.i,T.i] T.i [false,false] [(gv a 0),n] w fun o w=>c [o] w) (c [(gv a 0)] w)) fun p w=>bK .add T.d 10 (gv a 1) i1 w fun q w=>e [(gv p 0),q] w
def M.ef.j0(b:Value)(d:List Value):QQ:=fun w K=>ik (fun e=>biT P .len #[T.s] T.d [false] [b] w fun c w=>jn [(gv d 0),i0] w fun f a w=>bT .lss T.d 10 9 (gv a 1) c w fun g w=>ik (fun h=>ij g (h [] w) (e [b,c,(gv a 1),(gv a 0)] w)) fun j w=>M.ef.j3 b a f w K) fun i w=>K (gv i 3) w
def M.ef(a:Value):QQ:=fun w K=>ik (fun b=>ig P F.gc [a] w fun c w=>bK .neq T.z 6 c i0 w fun d w=>ij d (K nS w) (b [nS] w)) fun e w=>M.ef.j0 a e w K
theorem M.ef.calls:C1 F.gk M.ef:=mk1 [0,2,10,9,8] pN Tryz.func59
theorem M.ef.fcall:fC F.gk:=fcN Tryz.func59
def M.fq(a b:Value):QQ:=fun w K=>ig P F.fq [b] w fun c w=>ig P F.hi [a,c] w fun d w=>K d w
theorem M.fq.calls:C2 F.gp M.fq:=mk2 [0,1,4] pN Tryz.func60
theorem M.fq.fcall:fC F.gp:=fcN Tryz.func60
def M.cm(a:Value):QQ:=fun w K=>ik (fun b=>iq P .eql T.i (.tmp 3) (.const nS) a nS w fun c w=>ij c (K nS w) (b [nS] w)) fun f w=>bsT P T.i 0 #[] w fun d w=>biT P .append #[T.i,T.i] T.i [false,false] [d,a] w fun e w=>K e w
theorem M.cm.calls:C1 F.x M.cm:=mk1 [0,2] pN Tryz.func61
theorem M.cm.fcall:fC F.x:=fcN Tryz.func61
def M.fa.j0(a c d e b:Value):QQ:=fun w K=>jg P T.n #[(0,a),(1,c)] w fun f w=>bsT P T.s 1 #[(0,f)] w fun g w=>abp P T.bc none w fun h w=>jg P T.ai #[(0,a),(1,d),(2,e),(3,b),(4,b),(6,g),(7,h)] w fun i w=>lj P T.ai i w fun j w=>K (.tuple #[j,i0]) w
def M.fa(d e b c f:Value):QQ:=fun w K=>ik (fun g=>biT P .min #[T.a,T.a,T.a,T.a] T.a [false,false,false,false] [d,e,b,c] w fun h w=>bK .eql T.a 16 h u0 w fun a w=>ie (isB a false) (fun K'=>K' b w) w fun i w=>ie (isB a false) (fun K'=>K' c w) w fun j w=>ie (isB a false) (biT P .max #[T.a,T.a] T.a [false,false] [i,j] w) w fun l w=>ie (isB a false) (bK .gtr T.a 21 l (.int .u64 1099511627776) w) w fun m w=>iw a bY m w fun n w=>ij n (K (.tuple #[nP,i1]) w) (g [nP,i0] w)) fun o w=>M.fa.j0 d e b c f w K
theorem M.fa.calls:C5 F.gq M.fa:=mk5 [0,1,2,3,4,10,11] pN Tryz.func63
theorem M.fa.fcall:fC F.gq:=fcN Tryz.func63
def M.fr(b c d:Value):QQ:=fun w K=>ik (fun j=>ik (fun a=>bK .lss T.d 9 b i1 w fun e w=>ij e (a [e] w) (bK .gtr T.d 11 b (.int .i64 64) w fun f w=>ij f (a [f] w) (bK .lss T.d 13 c i1 w fun g w=>ij g (a [g] w) (bK .gtr T.d 15 c (.int .i64 16) w fun h w=>ij h (a [h] w) (bK .gtr T.a 17 d (.int .u64 1099511627776) w fun l w=>a [l] w))))) fun i w=>ij (gv i 0) (K (.tuple #[nP,i1]) w) (j [(gv i 0),nP,i0] w)) fun p w=>abp P T.k none w fun m w=>jg P T.ao #[(1,b),(2,c),(3,d),(4,m)] w fun n w=>lj P T.ao n w fun o w=>K (.tuple #[o,i0]) w
theorem M.fr.calls:C3 F.fn M.fr:=mk3 [0,1,2,6,7,8] pN Tryz.func64
theorem M.fr.fcall:fC F.fn:=fcN Tryz.func64
def M.fz(a:Value):QQ:=fun w K=>ik (fun c=>bK .lss T.d 4 a i1 w fun b w=>ie (isB b false) (fun K'=>K' a w) w fun d w=>ie (isB b false) (bK .gtr T.d 7 d (.int .i64 64) w) w fun e w=>iw b bY e w fun f w=>ij f (K (.tuple #[nP,i1]) w) (c [nP,i0] w)) fun j w=>abp P T.al none w fun g w=>jg P T.ay #[(2,a),(3,g)] w fun h w=>lj P T.ay h w fun i w=>K (.tuple #[i,i0]) w
theorem M.fz.calls:C1 F.gl M.fz:=mk1 [0,2,3] pN Tryz.func65
theorem M.fz.fcall:fC F.gl:=fcN Tryz.func65
def M.co.j2(a:List Value)(b:Value)(c:KL):QQ:=fun w K=>ik (fun d=>iq P .shl T.a (.tmp 9) (.const (.int .u64 8)) (gv a 0) (.int .u64 8) w fun e w=>iaT P T.g b (gv a 1) w fun f w=>ldT P T.ac f w fun g w=>cvT P T.ac T.a g w fun h w=>bT .add T.a 10 15 e h w fun i w=>d [i] w) fun j w=>bK .add T.d 7 (gv a 1) i1 w fun l w=>c [(gv j 0),l] w
def M.co(b:Value):QQ:=fun w K=>ik (fun c=>jn [u0,i0] w fun d a w=>ik (fun e=>bK .lss T.d 5 (gv a 1) (.int .i64 8) w fun f w=>ij f (e [] w) (c [(gv a 1),(gv a 0)] w)) fun h w=>M.co.j2 a b d w K) fun g w=>K (gv g 1) w
theorem M.co.calls:C1 F.a M.co:=mk1 [0,2,3,4] pN Tryz.func66
theorem M.co.fcall:fC F.a:=fcN Tryz.func66
def M.ak.j2(a b:Value):QQ:=fun w K=>jb w fun w=>w=w/\w=w/\ic (bK .add T.d 25 a i1 w) w fun e=>ic (slT P T.g b (some i1) (some e) none w) w fun f=>ic (cvT P T.g T.m f w) w fun g=>w=w/\w=w/\ic (bK .add T.d 30 a i1 w) w fun c=>ic (slT P T.g b (some c) none none w) w fun d=>ii (slT P T.g b (some c) none none w) w d/\ii (bK .add T.d 30 a i1 w) w c/\ii (fun K'=>K' a w) w a/\ii (fun K'=>K' b w) w b/\K (.tuple #[g,d,i0]) w
def M.ak.j1(b c:Value)(a:List Value):QQ:=fun w K=>ik (fun d=>biT P .len #[T.g] T.d [false] [b] w fun e w=>bK .sub T.d 20 e i1 w fun f w=>bT .lss T.d 21 22 f c w fun g w=>ij g (K (.tuple #[(.string ⟨#[]⟩),nS,(.int .i64 3)]) w) (d [(gv a 0),(gv a 1),(gv a 2)] w)) fun h w=>M.ak.j2 c b w K
def M.ak.j0(d:Value)(a:List Value):QQ:=fun w K=>iaT P T.g d i0 w fun e w=>ldT P T.ac e w fun f w=>cvT P T.ac T.d f w fun b w=>ik (fun g=>bK .lss T.d 13 b i1 w fun c w=>ie (isB c false) (fun K'=>K' b w) w fun h w=>ie (isB c false) (bK .gtr T.d 16 h (.int .i64 32) w) w fun i w=>iw c bY i w fun j w=>ij j (K (.tuple #[(.string ⟨#[]⟩),nS,(.int .i64 6)]) w) (g [(gv a 0),(gv a 1),(gv a 2)] w)) fun l w=>M.ak.j1 d b l w K
def M.ak(a:Value):QQ:=fun w K=>ik (fun b=>biT P .len #[T.g] T.d [false] [a] w fun c w=>bK .eql T.d 7 c i0 w fun d w=>ij d (K (.tuple #[(.string ⟨#[]⟩),nS,(.int .i64 3)]) w) (b [(.string ⟨#[]⟩),nS,i0] w)) fun e w=>M.ak.j0 a e w K
theorem M.ak.calls:C1 F.cs M.ak:=mk1 [0,2,3,4,5] (fun id=>cond (Nat.beq id 8) ⟨(gS 0 9 (.eff 9 (.eff 10 (.eff 11 .nil .ir) .ir) .ir)),[9,10,11],false,[0,0,2,7,15,0,0,64,224,31,1023,2047]⟩ p0) Tryz.func67
theorem M.ak.fcall:fC F.cs:=fcN Tryz.func67
end Go.Proofs.YtgepcfcicngceaaGreatDoor
