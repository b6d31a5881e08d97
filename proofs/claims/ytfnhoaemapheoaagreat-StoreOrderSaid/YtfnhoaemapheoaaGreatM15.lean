/-
  Printed by wip/Shallow.lean: functions of the program, read shallow; each is what its code does. No condition.
-/
import Derived.Test.YtfnhoaemapheoaaGreatN
set_option maxRecDepth 1000000
namespace Go.Proofs.YtfnhoaemapheoaaGreat
open Go.Eng
def M.q.j2 (c : Value) (a : List Value) (d : Value) (e : KL) : QQ := fun w K => gj (fun f => iaT P T.j c (gv a 2) w fun g w => ldT P T.q g w fun h w => nf P d [h] w fun i w => gk i (K (gv a 2) w) (f [(gv a 2), (gv a 1)] w)) fun b w => bK .add T.b 8 (gv a 2) i1 w fun j w => e [(gv b 0), (gv b 1), j] w
def M.q (b d : Value) : QQ := fun w K => gj (fun e => biT P .len #[T.j] T.b [false] [b] w fun c w => jd [undef, i0, i0] w fun f a w => bT .lss T.b 8 7 (gv a 2) c w fun g w => gj (fun h => gk g (h [] w) (e [c, (gv a 2), (gv a 0), (gv a 1)] w)) fun i w => M.q.j2 b a d f w K) fun j w => K (.int .i64 (-1)) w
theorem M.q.calls : C2 F.ay M.q := mk2 [0, 1, 4, 5, 8, 7] pN Tryz.func208
theorem M.q.fcall : fC F.ay := fcN Tryz.func208
def M.ej.j2 (d : Value) (a : List Value) (e : KL) : QQ := fun w K => gj (fun f => iaT P T.f d (gv a 2) w fun g w => ldT P T.am g w fun b w => cvT P T.am T.bc b w fun h w => ib P .xor T.bc (.tmp 16) (.tmp 18) (gv a 1) h w fun i w => gi P F.fi [i, (.int .i64 8)] w fun j w => f [b, j] w) fun c w => bK .add T.b 12 (gv a 2) i1 w fun l w => e [(gv c 0), (gv c 1), l] w
def M.ej (d b : Value) : QQ := fun w K => unT P .xor d w fun e w => gj (fun f => biT P .len #[T.f] T.b [false] [b] w fun c w => jd [undef, e, i0] w fun g a w => bT .lss T.b 12 11 (gv a 2) c w fun h w => gj (fun i => gk h (i [] w) (f [b, c, (gv a 2), (gv a 0), (gv a 1)] w)) fun m w => M.ej.j2 b a g w K) fun j w => unT P .xor (gv j 4) w fun l w => K l w
theorem M.ej.calls : C2 F.fp M.ej := mk2 [0, 1, 4, 5, 7, 12, 11, 10] pN Tryz.func209
theorem M.ej.fcall : fC F.fp := fcN Tryz.func209
def M.an.j3 (a : Value) (b : List Value) (c : Value) (e : KL) (d : List Value) : QQ := fun w K => bsT P T.ax 1 #[(0, a)] w fun f w => biT P .append #[T.ax, T.ax] T.ax [false, false] [(gv b 4), f] w fun g w => slT P T.ae (gv b 5) (some c) none none w fun h w => e [a, c, (gv d 0), (gv d 1), g, h] w
def M.an.j2 (a : List Value) (d : KL) : QQ := fun w K => gi P F.ea [(gv a 5)] w fun b w => exT P b 0 w fun e w => exT P b 1 w fun c w => gj (fun f => bK .eql T.b 15 c i0 w fun g w => gk g (K (.tuple #[nS, bF]) w) (f [(gv a 2), (gv a 3)] w)) fun h w => M.an.j3 e a c d h w K
def M.an.j1 (a : List Value) (b c : KL) : QQ := fun w K => gj (fun d => biT P .len #[T.ae] T.b [false] [(gv a 5)] w fun e w => bK .gtr T.b 8 e i0 w fun f w => gk f (d [] w) (b [(gv a 0), (gv a 1), (gv a 2), (gv a 3), (gv a 4), (gv a 5)] w)) fun g w => M.an.j2 a c w K
def M.an (a : Value) : QQ := fun w K => gj (fun b => jd [undef, undef, nS, bF, nS, a] w fun c d w => M.an.j1 d b c w K) fun e w => K (.tuple #[(gv e 4), bY]) w
theorem M.an.calls : C1 F.dr M.an := mk1 [0, 2, 3, 4, 5, 6] pN Tryz.func210
theorem M.an.fcall : fC F.dr := fcN Tryz.func210
def M.dd (a b : Value) : QQ := fun w K => gi P F.bz [a, b] w fun c w => K c w
theorem M.dd.calls : C2 F.ds M.dd := mk2 [0, 1, 4] pN Tryz.func211
theorem M.dd.fcall : fC F.ds := fcN Tryz.func211
def M.af.j2 (a : List Value) (b c d : Value) (e : KL) : QQ := fun w K => bT .gtr T.b 21 22 (gv a 0) (gv a 1) w fun f w => gk f (bT .sub T.b 25 26 b (gv a 0) w fun g w => gi P F.am [c, g, b, (gv a 1), d] w fun n w => bT .sub T.b 32 33 (gv a 0) (gv a 1) w fun h w => e [h, (gv a 1)] w) (bT .sub T.b 36 37 b (gv a 0) w fun i w => bT .add T.b 39 40 b (gv a 1) w fun j w => bT .sub T.b 41 42 j (gv a 0) w fun l w => gi P F.am [c, i, l, (gv a 0), d] w fun o w => bT .sub T.b 47 48 (gv a 1) (gv a 0) w fun m w => e [(gv a 0), m] w)
def M.af (c f a g d : Value) : QQ := fun w K => bT .sub T.b 12 13 a f w fun h w => bT .sub T.b 15 16 g a w fun i w => gj (fun j => jd [h, i] w fun l b w => gj (fun m => bT .neq T.b 18 19 (gv b 0) (gv b 1) w fun n w => gk n (m [] w) (j [(gv b 0), (gv b 1)] w)) fun p w => M.af.j2 b a c d l w K) fun e w => bT .sub T.b 51 52 a (gv e 0) w fun o w => gi P F.am [c, o, a, (gv e 0), d] w fun q w => K (.tuple #[]) w
theorem M.af.calls : C5 F.bl M.af := mk5 [0, 1, 2, 3, 4, 10, 11] pN Tryz.func213
theorem M.af.fcall : fC F.bl := fcN Tryz.func213
end Go.Proofs.YtfnhoaemapheoaaGreat
