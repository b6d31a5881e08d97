/-
  Printed by wip/Shallow.lean: functions of the program, read shallow; each is what its code does. No condition.
-/
import Derived.Test.YtgepcfcicngceaaGreatDoorN
set_option maxRecDepth 1000000
namespace Go.Proofs.YtgepcfcicngceaaGreatDoor
open Go.Eng
def M.m.j2(d f c:Value):QQ:=fun w K=>ie P F.bt [d] w fun g w=>alT P T.c w fun a w=>stT P T.c a g w fun _ w=>faT P T.c a 0 w fun h w=>ldT P T.d h w fun i w=>bT .neq T.d 50 51 i f w fun b w=>ic (isB b true) (faT P T.c a 0 w) w fun j w=>ic (isB b true) (ldT P T.d j w) w fun l w=>ic (isB b true) (bK .neq T.d 55 l i0 w) w fun m w=>iu b m bF w fun n w=>ig n (jb w fun w=>w=w/\ib (ldT P T.c a w) w fun e=>w=w/\ie P F.cd [d] w fun o w=>ij (ldT P T.c a w) w e/\ij (fun K'=>K' c w) w c/\ie P F.e [c,e,o] w fun p w=>K (.tuple #[]) w) (K (.tuple #[]) w)
def M.m.j1(f c a j:Value):QQ:=fun w K=>ii (fun l=>ie P F.dd [f] w fun g w=>exT P g 0 w fun b w=>exT P g 1 w fun h w=>ig h (faT P T.c c 1 w fun m w=>ldT P T.a m w fun n w=>ie P F.bd [a,n,b] w fun p w=>jb w fun w=>w=w/\ib (faT P T.c c 1 w) w fun d=>ib (ldT P T.a d w) w fun e=>w=w/\ib (jj P T.c #[(0,(.int .i64 8)),(1,e),(4,b)] w) w fun i=>w=w/\ie P F.bv [a] w fun o w=>ij (jj P T.c #[(0,(.int .i64 8)),(1,e),(4,b)] w) w i/\ij (fun K'=>K' b w) w b/\ij (ldT P T.a d w) w e/\ij (faT P T.c c 1 w) w d/\ij (fun K'=>K' a w) w a/\ie P F.e [a,i,o] w fun q w=>K (.tuple #[]) w) (l [b,h] w)) fun r w=>M.m.j2 f j a w K
def M.m.j0(a b c d:Value):QQ:=fun w K=>ie P F.bt [a] w fun e w=>fdT P T.c e 0 w fun f w=>ii (fun g=>ldT P T.c b w fun h w=>ie P F.dq [a,c,h] w fun i w=>unT P .not i w fun j w=>ig j (K (.tuple #[]) w) (g [] w)) fun l w=>M.m.j1 a b d f w K
def M.m(a d e:Value):QQ:=fun w K=>lh P T.c e w fun b w=>jb w fun w=>w=w/\ib (im a w) w fun f=>ib (faT P T.b f 5 w) w fun g=>ib (ldT P T.x g w) w fun h=>ib (faT P T.c b 1 w) w fun i=>ib (ldT P T.a i w) w fun j=>ib (luT P T.x h j false w) w fun c=>ii (fun l=>ip P .eql T.bj (.tmp 18) (.const nP) c nP w fun m w=>ig m (K (.tuple #[]) w) (l [] w)) fun n w=>M.m.j0 c b d a w K
theorem M.m.calls:C3 F.al M.m:=mk3 [0,1,2,6,7,8,9,5] (fun id=>cond (Nat.beq id 1) ⟨(gS 0 7 (.eff 7 .nil .ir)),[7],false,[0,1,3,7,0,16,63,127]⟩ (cond (Nat.beq id 8) ⟨(gS 0 6 (.eff 6 (.eff 7 .nil .ir) .ir)),[6,7],false,[0,0,2,0,14,0,32,127]⟩ (cond (Nat.beq id 11) ⟨(gS 0 3 (.eff 3 (.eff 4 .nil .ir) .ir)),[3,4],false,[0,0,0,4,15]⟩ p0))) Tryz.func53
theorem M.m.fcall:fC F.al:=fcN Tryz.func53
def M.cd(a b c:Value):QQ:=fun w K=>im a w fun e w=>faT P T.b e 4 w fun f w=>ldT P T.bl f w fun g w=>ie P F.ek [g,b,c] w fun v w=>im a w fun h w=>faT P T.b h 5 w fun i w=>ldT P T.x i w fun j w=>biT P .delete #[T.x,T.a] T.ca [false,false] [j,b] w fun _ w=>im a w fun l w=>faT P T.b l 6 w fun m w=>ldT P T.u m w fun n w=>biT P .delete #[T.u,T.a] T.ca [false,false] [n,b] w fun _ w=>im a w fun o w=>faT P T.b o 3 w fun p w=>ldT P T.ao p w fun q w=>ie P F.bz [q,b] w fun d w=>biT P .len #[T.h] T.d [false] [d] w fun r w=>bK .eql T.d 37 r i0 w fun s w=>ig s (K (.tuple #[]) w) (ip P .eql T.ad (.tmp 40) (.const i1) c i1 w fun t w=>ig t (ie P F.ca [a,b,d] w fun x w=>K (.tuple #[]) w) (jj P T.av #[(0,(.int .i64 3)),(3,b),(5,c)] w fun u w=>ie P F.u [a,u] w fun y w=>K (.tuple #[]) w))
theorem M.cd.calls:C3 F.bd M.cd:=mk3 [0,1,2,6,35,39] pN Tryz.func54
theorem M.cd.fcall:fC F.bd:=fcN Tryz.func54
def M.cw(b:Value):QQ:=fun w K=>ie P F.ct [b] w fun a w=>ie P F.g [a] w fun c w=>K a w
theorem M.cw.calls:C1 F.ao M.cw:=mk1 [0,2,3] pN Tryz.func56
theorem M.cw.fcall:fC F.ao:=fcN Tryz.func56
def M.ah(a:Value):QQ:=fun w K=>lh P T.v a w fun b w=>zt P (.func F.b) [] [b] w fun c w=>K c w
theorem M.ah.calls:C1 F.ag M.ah:=mk1 [0,2] pN Tryz.func57
theorem M.ah.fcall:fC F.ag:=fcN Tryz.func57
def M.bm.j2(e:Value)(a:List Value)(f:KL):QQ:=fun w K=>ii (fun g=>iaT P T.g e (gv a 4) w fun h w=>ldT P T.a h w fun c w=>ii (fun i=>bT .leq T.a 18 19 c (gv a 3) w fun j w=>ig j (K (.tuple #[nS,i1]) w) (i [(gv a 1),(gv a 2)] w)) fun d w=>g [c,(gv d 0),(gv d 1),c] w) fun b w=>bK .add T.d 14 (gv a 4) i1 w fun l w=>f [(gv b 0),(gv b 1),(gv b 2),(gv b 3),l] w
def M.bm.j6(a:List Value)(d:Value)(e:KL)(b:List Value):QQ:=fun w K=>ig (gv a 0) (K (.tuple #[nS,i1]) w) (biT P .len #[T.g] T.d [false] [d] w fun f w=>bK .gtr T.d 30 f (.int .i64 16) w fun c w=>ig c (K (.tuple #[nS,(.int .i64 4)]) w) (e [(gv a 0),(gv b 4),(gv b 5),c] w))
def M.bm.j12(b:Value)(a:List Value)(d:KL):QQ:=fun w K=>ii (fun e=>ie P F.gt [b,(gv a 2)] w fun f w=>jj P T.aq #[(0,f),(1,b)] w fun g w=>bsT P T.al 1 #[(0,g)] w fun h w=>biT P .append #[T.al,T.al] T.al [false,false] [(gv a 1),h] w fun i w=>e [(gv a 2),i] w) fun c w=>bK .add T.d 39 (gv a 2) i1 w fun j w=>d [(gv c 0),(gv c 1),j] w
def M.bm.j9(f:Value)(c:List Value)(d:Value)(g:KL):QQ:=fun w K=>ii (fun h=>iaT P T.g f (gv c 5) w fun i w=>ldT P T.a i w fun e w=>jl [(gv c 3),(gv c 4),i0] w fun j a w=>bT .lss T.d 39 38 (gv a 2) d w fun l w=>ii (fun m=>ig l (m [] w) (h [e,d,(gv a 2),(gv a 0),(gv a 1)] w)) fun o w=>M.bm.j12 e a j w K) fun b w=>bK .add T.d 34 (gv c 5) i1 w fun n w=>g [(gv b 0),(gv b 1),(gv b 2),(gv b 3),(gv b 4),n] w
def M.bm.j5(b:Value)(e:List Value)(f:Value):QQ:=fun w K=>ii (fun g=>biT P .len #[T.g] T.d [false] [b] w fun c w=>jl [undef,undef,undef,undef,(gv e 1),i0] w fun h a w=>bT .lss T.d 34 33 (gv a 5) c w fun i w=>ii (fun j=>ig i (j [] w) (g [b,c,(gv a 5),(gv a 0),(gv a 1),(gv a 2),(gv a 3),(gv a 4)] w)) fun l w=>M.bm.j9 b a f h w K) fun d w=>ie P F.ai [(gv d 7),(.func (.func F.dx) #[] #[])] w fun m w=>K (.tuple #[(gv d 7),i0]) w
def M.bm.j0(a b:Value)(e:List Value):QQ:=fun w K=>ii (fun f=>ii (fun c=>bK .lss T.d 24 a i1 w fun d w=>ig d (c [d] w) (bK .gtr T.d 26 a (.int .i64 64) w fun g w=>c [g] w)) fun h w=>M.bm.j6 h b f e w K) fun i w=>M.bm.j5 b i a w K
def M.bm(b d:Value):QQ:=fun w K=>ii (fun e=>biT P .len #[T.g] T.d [false] [b] w fun c w=>jl [undef,nS,i0,u0,i0] w fun f a w=>bT .lss T.d 14 13 (gv a 4) c w fun g w=>ii (fun h=>ig g (h [] w) (e [b,c,(gv a 4),(gv a 0),(gv a 1),(gv a 2),(gv a 3)] w)) fun j w=>M.bm.j2 b a f w K) fun i w=>M.bm.j0 d b i w K
theorem M.bm.calls:C2 F.go M.bm:=mk2 [0,1,4,5,6,8,23,28,10,11,14,13,12,34,33,32,39,38] pN Tryz.func58
theorem M.bm.fcall:fC F.go:=fcN Tryz.func58
def M.dz.j3(d:Value)(a:List Value)(e:KL):QQ:=fun w K=>ii (fun c=>iaT P T.s d (gv a 1) w fun f w=>ldT P T.n f w fun g w=>alT P T.n w fun b w=>stT P T.n b g w fun _ w=>faT P T.n b 2 w fun h w=>ldT P T.d h w fun i w=>bK .neq T.d 15 i i2 w fun j w=>ig j (faT P T.n b 0 w fun l w=>ldT P T.a l w fun m w=>bsT P T.g 1 #[(0,m)] w fun n w=>biT P .append #[T.g,T.g] T.g [false,false] [(gv a 0),n] w fun o w=>c [o] w) (c [(gv a 0)] w)) fun p w=>bK .add T.d 10 (gv a 1) i1 w fun q w=>e [(gv p 0),q] w
def M.dz.j0(b:Value)(d:List Value):QQ:=fun w K=>ii (fun e=>biT P .len #[T.s] T.d [false] [b] w fun c w=>jl [(gv d 0),i0] w fun f a w=>bT .lss T.d 10 9 (gv a 1) c w fun g w=>ii (fun h=>ig g (h [] w) (e [b,c,(gv a 1),(gv a 0)] w)) fun j w=>M.dz.j3 b a f w K) fun i w=>K (gv i 3) w
def M.dz(a:Value):QQ:=fun w K=>ii (fun b=>ie P F.fw [a] w fun c w=>bK .neq T.ac 6 c i0 w fun d w=>ig d (K nS w) (b [nS] w)) fun e w=>M.dz.j0 a e w K
theorem M.dz.calls:C1 F.ge M.dz:=mk1 [0,2,10,9,8] pN Tryz.func59
theorem M.dz.fcall:fC F.ge:=fcN Tryz.func59
def M.fk(a b:Value):QQ:=fun w K=>ie P F.fk [b] w fun c w=>ie P F.hc [a,c] w fun d w=>K d w
theorem M.fk.calls:C2 F.gj M.fk:=mk2 [0,1,4] pN Tryz.func60
theorem M.fk.fcall:fC F.gj:=fcN Tryz.func60
def M.cg(a:Value):QQ:=fun w K=>ii (fun b=>ip P .eql T.g (.tmp 3) (.const nS) a nS w fun c w=>ig c (K nS w) (b [nS] w)) fun f w=>bsT P T.g 0 #[] w fun d w=>biT P .append #[T.g,T.g] T.g [false,false] [d,a] w fun e w=>K e w
theorem M.cg.calls:C1 F.v M.cg:=mk1 [0,2] pN Tryz.func61
theorem M.cg.fcall:fC F.v:=fcN Tryz.func61
def M.eu.j0(a c d e b:Value):QQ:=fun w K=>jj P T.n #[(0,a),(1,c)] w fun f w=>bsT P T.s 1 #[(0,f)] w fun g w=>aba P T.bb none w fun h w=>jj P T.ah #[(0,a),(1,d),(2,e),(3,b),(4,b),(6,g),(7,h)] w fun i w=>lh P T.ah i w fun j w=>K (.tuple #[j,i0]) w
def M.eu(d e b c f:Value):QQ:=fun w K=>ii (fun g=>biT P .min #[T.a,T.a,T.a,T.a] T.a [false,false,false,false] [d,e,b,c] w fun h w=>bK .eql T.a 16 h u0 w fun a w=>ic (isB a false) (fun K'=>K' b w) w fun i w=>ic (isB a false) (fun K'=>K' c w) w fun j w=>ic (isB a false) (biT P .max #[T.a,T.a] T.a [false,false] [i,j] w) w fun l w=>ic (isB a false) (bK .gtr T.a 21 l (.int .u64 1099511627776) w) w fun m w=>iu a bY m w fun n w=>ig n (K (.tuple #[nP,i1]) w) (g [nP,i0] w)) fun o w=>M.eu.j0 d e b c f w K
theorem M.eu.calls:C5 F.gk M.eu:=mk5 [0,1,2,3,4,10,11] pN Tryz.func63
theorem M.eu.fcall:fC F.gk:=fcN Tryz.func63
def M.fl(b c d:Value):QQ:=fun w K=>ii (fun j=>ii (fun a=>bK .lss T.d 9 b i1 w fun e w=>ig e (a [e] w) (bK .gtr T.d 11 b (.int .i64 64) w fun f w=>ig f (a [f] w) (bK .lss T.d 13 c i1 w fun g w=>ig g (a [g] w) (bK .gtr T.d 15 c (.int .i64 16) w fun h w=>ig h (a [h] w) (bK .gtr T.a 17 d (.int .u64 1099511627776) w fun l w=>a [l] w))))) fun i w=>ig (gv i 0) (K (.tuple #[nP,i1]) w) (j [(gv i 0),nP,i0] w)) fun p w=>aba P T.j none w fun m w=>jj P T.am #[(1,b),(2,c),(3,d),(4,m)] w fun n w=>lh P T.am n w fun o w=>K (.tuple #[o,i0]) w
theorem M.fl.calls:C3 F.fh M.fl:=mk3 [0,1,2,6,7,8] pN Tryz.func64
theorem M.fl.fcall:fC F.fh:=fcN Tryz.func64
def M.ft(a:Value):QQ:=fun w K=>ii (fun c=>bK .lss T.d 4 a i1 w fun b w=>ic (isB b false) (fun K'=>K' a w) w fun d w=>ic (isB b false) (bK .gtr T.d 7 d (.int .i64 64) w) w fun e w=>iu b bY e w fun f w=>ig f (K (.tuple #[nP,i1]) w) (c [nP,i0] w)) fun j w=>aba P T.aj none w fun g w=>jj P T.aw #[(2,a),(3,g)] w fun h w=>lh P T.aw h w fun i w=>K (.tuple #[i,i0]) w
theorem M.ft.calls:C1 F.gf M.ft:=mk1 [0,2,3] pN Tryz.func65
theorem M.ft.fcall:fC F.gf:=fcN Tryz.func65
end Go.Proofs.YtgepcfcicngceaaGreatDoor
