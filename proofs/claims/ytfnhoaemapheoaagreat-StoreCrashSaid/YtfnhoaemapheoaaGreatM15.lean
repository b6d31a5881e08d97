/-
  Printed by wip/Shallow.lean: functions of the program, read shallow; each is what its code does. No condition.
-/
import Derived.Test.YtfnhoaemapheoaaGreatN
set_option maxRecDepth 1000000
namespace Go.Proofs.YtfnhoaemapheoaaGreat
open Go.Eng
def M.q.j2 (c : Value) (a : List Value) (d : Value) (e : KL) : QQ := fun w K => gt (fun f => iaT P T.k c (gv a 2) w fun g w => ldT P T.r g w fun h w => nr P d [h] w fun i w => ia i (K (gv a 2) w) (f [(gv a 2), (gv a 1)] w)) fun b w => bK .add T.c 8 (gv a 2) i1 w fun j w => e [(gv b 0), (gv b 1), j] w
def M.q (b d : Value) : QQ := fun w K => gt (fun e => biT P .len #[T.k] T.c [false] [b] w fun c w => jh [undef, i0, i0] w fun f a w => bT .lss T.c 8 7 (gv a 2) c w fun g w => gt (fun h => ia g (h [] w) (e [c, (gv a 2), (gv a 0), (gv a 1)] w)) fun i w => M.q.j2 b a d f w K) fun j w => K (.int .i64 (-1)) w
theorem M.q.calls : C2 F.ay M.q := mk2 [0, 1, 4, 5, 8, 7] pN Tryz.func208
theorem M.q.fcall : fC F.ay := fcN Tryz.func208
def M.eu.j2 (d : Value) (a : List Value) (e : KL) : QQ := fun w K => gt (fun f => iaT P T.f d (gv a 2) w fun g w => ldT P T.ao g w fun b w => cvT P T.ao T.bd b w fun h w => ij P .xor T.bd (.tmp 16) (.tmp 18) (gv a 1) h w fun i w => gr P F.fs [i, (.int .i64 8)] w fun j w => f [b, j] w) fun c w => bK .add T.c 12 (gv a 2) i1 w fun l w => e [(gv c 0), (gv c 1), l] w
def M.eu (d b : Value) : QQ := fun w K => unT P .xor d w fun e w => gt (fun f => biT P .len #[T.f] T.c [false] [b] w fun c w => jh [undef, e, i0] w fun g a w => bT .lss T.c 12 11 (gv a 2) c w fun h w => gt (fun i => ia h (i [] w) (f [b, c, (gv a 2), (gv a 0), (gv a 1)] w)) fun m w => M.eu.j2 b a g w K) fun j w => unT P .xor (gv j 4) w fun l w => K l w
theorem M.eu.calls : C2 F.fz M.eu := mk2 [0, 1, 4, 5, 7, 12, 11, 10] pN Tryz.func209
theorem M.eu.fcall : fC F.fz := fcN Tryz.func209
def M.ap.j3 (a : Value) (b : List Value) (c : Value) (e : KL) (d : List Value) : QQ := fun w K => bsT P T.az 1 #[(0, a)] w fun f w => biT P .append #[T.az, T.az] T.az [false, false] [(gv b 4), f] w fun g w => slT P T.ah (gv b 5) (some c) none none w fun h w => e [a, c, (gv d 0), (gv d 1), g, h] w
def M.ap.j2 (a : List Value) (d : KL) : QQ := fun w K => gr P F.ej [(gv a 5)] w fun b w => exT P b 0 w fun e w => exT P b 1 w fun c w => gt (fun f => bK .eql T.c 15 c i0 w fun g w => ia g (K (.tuple #[nS, bF]) w) (f [(gv a 2), (gv a 3)] w)) fun h w => M.ap.j3 e a c d h w K
def M.ap.j1 (a : List Value) (b c : KL) : QQ := fun w K => gt (fun d => biT P .len #[T.ah] T.c [false] [(gv a 5)] w fun e w => bK .gtr T.c 8 e i0 w fun f w => ia f (d [] w) (b [(gv a 0), (gv a 1), (gv a 2), (gv a 3), (gv a 4), (gv a 5)] w)) fun g w => M.ap.j2 a c w K
def M.ap (a : Value) : QQ := fun w K => gt (fun b => jh [undef, undef, nS, bF, nS, a] w fun c d w => M.ap.j1 d b c w K) fun e w => K (.tuple #[(gv e 4), bY]) w
theorem M.ap.calls : C1 F.dx M.ap := mk1 [0, 2, 3, 4, 5, 6] pN Tryz.func210
theorem M.ap.fcall : fC F.dx := fcN Tryz.func210
def M.dk (a b : Value) : QQ := fun w K => gr P F.bz [a, b] w fun c w => K c w
theorem M.dk.calls : C2 F.dy M.dk := mk2 [0, 1, 4] pN Tryz.func211
theorem M.dk.fcall : fC F.dy := fcN Tryz.func211
def M.ah.j2 (a : List Value) (b c d : Value) (e : KL) : QQ := fun w K => bT .gtr T.c 21 22 (gv a 0) (gv a 1) w fun f w => ia f (bT .sub T.c 25 26 b (gv a 0) w fun g w => gr P F.am [c, g, b, (gv a 1), d] w fun n w => bT .sub T.c 32 33 (gv a 0) (gv a 1) w fun h w => e [h, (gv a 1)] w) (bT .sub T.c 36 37 b (gv a 0) w fun i w => bT .add T.c 39 40 b (gv a 1) w fun j w => bT .sub T.c 41 42 j (gv a 0) w fun l w => gr P F.am [c, i, l, (gv a 0), d] w fun o w => bT .sub T.c 47 48 (gv a 1) (gv a 0) w fun m w => e [(gv a 0), m] w)
def M.ah (c f a g d : Value) : QQ := fun w K => bT .sub T.c 12 13 a f w fun h w => bT .sub T.c 15 16 g a w fun i w => gt (fun j => jh [h, i] w fun l b w => gt (fun m => bT .neq T.c 18 19 (gv b 0) (gv b 1) w fun n w => ia n (m [] w) (j [(gv b 0), (gv b 1)] w)) fun p w => M.ah.j2 b a c d l w K) fun e w => bT .sub T.c 51 52 a (gv e 0) w fun o w => gr P F.am [c, o, a, (gv e 0), d] w fun q w => K (.tuple #[]) w
theorem M.ah.calls : C5 F.bk M.ah := mk5 [0, 1, 2, 3, 4, 10, 11] pN Tryz.func213
theorem M.ah.fcall : fC F.bk := fcN Tryz.func213
end Go.Proofs.YtfnhoaemapheoaaGreat
