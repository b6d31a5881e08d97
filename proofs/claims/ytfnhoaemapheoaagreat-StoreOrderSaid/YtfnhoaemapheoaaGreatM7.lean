/-
  Printed by wip/Shallow.lean: functions of the program, read shallow; each is what its code does. No condition.
-/
import Derived.Test.YtfnhoaemapheoaaGreatN
set_option maxRecDepth 1000000
namespace Go.Proofs.YtfnhoaemapheoaaGreat
open Go.Eng
def M.y (a : Value) : QQ := fun w K => my P T.s a w fun b w => amr P (.func F.b) [] [b] w fun c w => K c w
theorem M.y.calls : C1 F.ah M.y := mk1 [0, 2] pN Tryz.func78
theorem M.y.fcall : fC F.ah := fcN Tryz.func78
def M.ce.j2 (c : Value) (b : List Value) (d : Value) (e : KL) : QQ := fun w K => gj (fun f => jc w fun w => w = w ∧ w = w ∧ gg (iaT P T.af c (gv b 1) w) w fun g => gg (faT P T.ar g 1 w) w fun h => gg (faT P T.e h 0 w) w fun i => gg (ldT P T.g i w) w fun j => gg (faT P T.e d 0 w) w fun l => gg (ldT P T.g l w) w fun m => gg (bT .eql T.g 17 19 j m w) w fun a => w = w ∧ gg (fun K' => gh (isB a true) (fun K' => K' c w) w K') w fun n => gg (fun K' => gh (isB a true) (fun K' => K' (gv b 1) w) w K') w fun o => gg (gh (isB a true) (iaT P T.af n o w) w) w fun p => gg (gh (isB a true) (faT P T.ar p 1 w) w) w fun q => gg (gh (isB a true) (faT P T.e q 1 w) w) w fun r => gg (gh (isB a true) (ldT P T.g r w) w) w fun s => gg (gh (isB a true) (faT P T.e d 1 w) w) w fun t => gg (gh (isB a true) (ldT P T.g t w) w) w fun u => gg (gh (isB a true) (bT .eql T.g 27 29 s u w) w) w fun v => gg (ic a v bF w) w fun x => gk x (K bY w) (f [(gv b 0)] w)) fun y w => bK .add T.b 10 (gv b 1) i1 w fun z w => e [(gv y 0), z] w
def M.ce (b c : Value) : QQ := fun w K => my P T.e c w fun d w => gj (fun e => jd [bF, i0] w fun f a w => gj (fun g => biT P .len #[T.af] T.b [false] [b] w fun h w => bT .lss T.b 6 8 (gv a 1) h w fun i w => gk i (g [] w) (e [(gv a 1), (gv a 0)] w)) fun j w => M.ce.j2 b a d f w K) fun l w => K bF w
theorem M.ce.calls : C2 F.eg M.ce := mk2 [0, 1, 4, 5, 3] (fun id => cond (Nat.beq id 4) ⟨(gS 0 20 .nil), [], false, [0, 0, 3, 7, 15, 31, 0, 64, 255, 511, 1023, 1023, 4095, 8191, 16383, 32767, 1023, 66559, 262143, 524287]⟩ p0) Tryz.func79
theorem M.ce.fcall : fC F.eg := fcN Tryz.func79
def M.co (b : Value) : QQ := fun w K => gi P F.cl [b] w fun a w => gi P F.d [a] w fun c w => K a w
theorem M.co.calls : C1 F.bo M.co := mk1 [0, 2, 3] pN Tryz.func83
theorem M.co.fcall : fC F.bo := fcN Tryz.func83
def M.s (a : Value) : QQ := fun w K => my P T.k a w fun b w => amr P (.func F.a) [] [b] w fun c w => K c w
theorem M.s.calls : C1 F.z M.s := mk1 [0, 2] pN Tryz.func84
theorem M.s.fcall : fC F.z := fcN Tryz.func84
def M.eb.j2 (b : Value) (a : List Value) (f : KL) : QQ := fun w K => gj (fun g => iaT P T.ad b (gv a 3) w fun h w => ldT P T.b h w fun e w => bK .add T.b 13 e (.int .i64 64) w fun i w => bK .sub T.b 14 i i1 w fun j w => ib P .rem T.b (.tmp 15) (.const (.int .i64 64)) j (.int .i64 64) w fun l w => gi P F.ce [b, l] w fun m w => unT P .not m w fun c w => gh (isB c true) (fun K' => K' (gv a 3) w) w fun n w => gh (isB c true) (bK .gtr T.b 20 n i0 w) w fun o w => ic c o bF w fun p w => gk p (jc w fun w => w = w ∧ w = w ∧ gg (slT P T.ad b (some (gv a 3)) none none w) w fun q => w = w ∧ w = w ∧ gg (slT P T.ad b none (some (gv a 3)) none w) w fun r => bsT P T.az 2 #[(0, q), (1, r)] w fun s w => gi P F.bv [s] w fun t w => K t w) (g [(gv a 3), e, (gv a 2)] w)) fun d w => bK .add T.b 7 (gv a 3) i1 w fun u w => f [(gv d 0), (gv d 1), (gv d 2), u] w
def M.eb (b : Value) : QQ := fun w K => gj (fun d => biT P .len #[T.ad] T.b [false] [b] w fun c w => jd [undef, undef, nS, i0] w fun e a w => bT .lss T.b 7 6 (gv a 3) c w fun f w => gj (fun g => gk f (g [] w) (d [b, c, (gv a 3), (gv a 0), (gv a 1), (gv a 2)] w)) fun h w => M.eb.j2 b a e w K) fun i w => K b w
theorem M.eb.calls : C1 F.ff M.eb := mk1 [0, 2, 3, 4, 7, 6, 5] (fun id => cond (Nat.beq id 5) ⟨(gS 0 6 (.eff 6 (.eff 7 (.eff 8 .nil .ig) .ig) .ig)), [6, 7, 8], false, [0, 0, 3, 0, 0, 24, 63, 127, 255]⟩ p0) Tryz.func86
theorem M.eb.fcall : fC F.ff := fcN Tryz.func86
def M.ay.j1 (a b c : Value) : QQ := fun w K => jc w fun w => w = w ∧ w = w ∧ gg (iaT P T.l a i0 w) w fun e => gg (ldT P T.f e w) w fun f => w = w ∧ gg (slT P T.l a (some i1) none none w) w fun d => w = w ∧ gi P F.ew [f] w fun g w => gq (fun K' => K' b w) w b ∧ gq (slT P T.l a (some i1) none none w) w d ∧ gq (fun K' => K' a w) w a ∧ gq (fun K' => K' c w) w c ∧ gg (cvT P T.g T.b g w) w fun h => gg (kf P T.ac #[(0, c), (1, h), (2, d), (3, b)] w) w fun i => my P T.ac i w fun j w => K (.tuple #[j, i0]) w
def M.ay.j0 (f o p g : Value) (c : List Value) : QQ := fun w K => gi P F.fg [f] w fun h w => exT P h 0 w fun d w => exT P h 1 w fun e w => exT P h 2 w fun S w => gj (fun q => unT P .not o w fun b w => gh (isB b true) (fun K' => K' e w) w fun s w => gh (isB b true) (fun K' => K' f w) w fun t w => gh (isB b true) (biT P .len #[T.f] T.b [false] [t] w) w fun u w => gh (isB b true) (bT .lss T.b 36 38 s u w) w fun v w => ic b v bF w fun i w => gk i (K (.tuple #[nP, (.int .i64 6)]) w) (biT P .len #[T.l] T.b [false] [d] w fun x w => bK .eql T.b 43 x i0 w fun r w => gh (isB r true) (fun K' => K' o w) w fun y w => ic r y bF w fun j w => gk j (ja p w fun z w => faT P T.ab z 0 w fun A w => ldT P T.an A w fun B w => gi P F.dp [B, g] w fun C w => K (.tuple #[nP, C]) w) (biT P .len #[T.l] T.b [false] [d] w fun D w => bK .eql T.b 56 D i0 w fun a w => gh (isB a false) (fun K' => K' d w) w fun E w => gh (isB a false) (iaT P T.l E i0 w) w fun G w => gh (isB a false) (ldT P T.f G w) w fun H w => gh (isB a false) (biT P .len #[T.f] T.b [false] [H] w) w fun I w => gh (isB a false) (bK .neq T.b 62 I (.int .i64 8) w) w fun J w => ic a bY J w fun l w => gk l (K (.tuple #[nP, (.int .i64 6)]) w) (biT P .len #[T.f] T.b [false] [f] w fun L w => bT .lss T.b 66 68 e L w fun m w => gk m (ja p w fun N w => faT P T.ab N 0 w fun O w => ldT P T.an O w fun Q w => gi P F.eo [Q, g, e] w fun n w => bK .neq T.w 77 n i0 w fun R w => gk R (K (.tuple #[nP, n]) w) (q [i, (gv c 0), (gv c 1), j, l, m, n] w)) (q [i, (gv c 0), (gv c 1), j, l, m, undef] w))))) fun U w => M.ay.j1 d e g w K
def M.ay (a b e : Value) : QQ := fun w K => ja a w fun f w => faT P T.ab f 0 w fun g w => ldT P T.an g w fun h w => gi P F.dd [h, b] w fun c w => exT P c 0 w fun i w => exT P c 1 w fun d w => gj (fun j => bK .neq T.w 23 d i0 w fun l w => gk l (K (.tuple #[nP, d]) w) (j [nP, i0] w)) fun m w => M.ay.j0 i e a b m w K
theorem M.ay.calls : C3 F.co M.ay := mk3 [0, 1, 2, 6, 7, 8, 9, 10, 11, 12, 32, 41, 54, 65, 13] (fun id => cond (Nat.beq id 15) ⟨(gS 0 4 (gS 6 3 (.eff 4 (.go 5 (.go 9 (.eff 10 (.eff 11 (.eff 12 .nil .ig) .ig) .ig))) .ig))), [4, 10, 11, 12], false, [0, 0, 2, 6, 14, 30, 0, 64, 0, 511, 1023, 2047, 4095]⟩ p0) Tryz.func87
theorem M.ay.fcall : fC F.co := fcN Tryz.func87
theorem M.ay.rcall : rC F.co := rcN Tryz.func87
def M.ct.j0 (a : Value) : QQ := fun w K => jc w fun w => w = w ∧ gg (ja a w) w fun b => gg (faT P T.ac b 1 w) w fun c => gg (ldT P T.b c w) w fun d => w = w ∧ gg (ja a w) w fun e => gg (faT P T.ac e 2 w) w fun f => gg (ldT P T.l f w) w fun g => gg (biT P .len #[T.l] T.b [false] [g] w) w fun h => gg (bT .add T.b 11 16 d h w) w fun i => K i w
def M.ct (b : Value) : QQ := fun w K => gi P F.cc [b] w fun a w => gj (fun c => ib P .eql T.aa (.tmp 6) (.const nP) a nP w fun d w => gk d (K i0 w) (c [i0] w)) fun e w => M.ct.j0 a w K
theorem M.ct.calls : C1 F.ec M.ct := mk1 [0, 2, 3] (fun id => cond (Nat.beq id 4) ⟨(gS 0 10 (.eff 10 .nil .ig)), [10], false, [0, 1, 3, 7, 0, 16, 48, 112, 240, 511, 1023]⟩ p0) Tryz.func88
theorem M.ct.fcall : fC F.ec := fcN Tryz.func88
def M.cd (a : Value) : QQ := fun w K => gj (fun b => ib P .eql T.f (.tmp 3) (.const nS) a nS w fun c w => gk c (K nS w) (b [nS] w)) fun f w => bsT P T.f 0 #[] w fun d w => biT P .append #[T.f, T.f] T.f [false, false] [d, a] w fun e w => K e w
theorem M.cd.calls : C1 F.af M.cd := mk1 [0, 2] pN Tryz.func89
theorem M.cd.fcall : fC F.af := fcN Tryz.func89
def M.ep.j2 (d : Value) (a : List Value) (e : KL) : QQ := fun w K => gj (fun f => iaT P T.f d (gv a 2) w fun g w => ldT P T.am g w fun b w => ib P .shl T.g (.tmp 12) (.const (.int .u64 8)) (gv a 1) (.int .u64 8) w fun h w => cvT P T.am T.g b w fun i w => ib P .or T.g (.tmp 13) (.tmp 15) h i w fun j w => f [b, j] w) fun c w => bK .add T.b 8 (gv a 2) i1 w fun l w => e [(gv c 0), (gv c 1), l] w
def M.ep (d : Value) : QQ := fun w K => gj (fun e => slT P T.f d none (some (.int .i64 8)) none w fun b w => biT P .len #[T.f] T.b [false] [b] w fun c w => jd [undef, u0, i0] w fun f a w => bT .lss T.b 8 7 (gv a 2) c w fun g w => gj (fun h => gk g (h [] w) (e [b, c, (gv a 2), (gv a 0), (gv a 1)] w)) fun j w => M.ep.j2 b a f w K) fun i w => K (gv i 4) w
theorem M.ep.calls : C1 F.ew M.ep := mk1 [0, 2, 4, 8, 7, 6] pN Tryz.func90
theorem M.ep.fcall : fC F.ew := fcN Tryz.func90
def M.cu.j0 (a : Value) : QQ := fun w K => jc w fun w => w = w ∧ gg (ja a w) w fun b => gg (faT P T.ab b 2 w) w fun c => gg (ldT P T.v c w) w fun d => w = w ∧ gg (ja a w) w fun e => gg (faT P T.ab e 2 w) w fun f => gg (ldT P T.v f w) w fun g => gg (biT P .len #[T.v] T.b [false] [g] w) w fun h => gg (bK .sub T.b 17 h i1 w) w fun i => gg (iaT P T.v d i w) w fun j => gg (ldT P T.aa j w) w fun l => K l w
def M.cu (a : Value) : QQ := fun w K => gj (fun b => ja a w fun c w => faT P T.ab c 2 w fun d w => ldT P T.v d w fun e w => biT P .len #[T.v] T.b [false] [e] w fun f w => bK .eql T.b 7 f i0 w fun g w => gk g (K nP w) (b [nP] w)) fun h w => M.cu.j0 a w K
theorem M.cu.calls : C1 F.cc M.cu := mk1 [0, 2] (fun id => cond (Nat.beq id 3) ⟨(gS 0 12 (.eff 12 .nil .ig)), [12], false, [0, 1, 3, 7, 0, 16, 48, 112, 240, 496, 1023, 2047, 4095]⟩ p0) Tryz.func92
theorem M.cu.fcall : fC F.cc := fcN Tryz.func92
def M.dk (e f : Value) : QQ := fun w K => gi P F.bx [e, f] w fun b w => exT P b 0 w fun a w => exT P b 1 w fun c w => gj (fun d => bK .eql T.w 13 c i0 w fun g w => gk g (gi P F.ct [a] w fun h w => ja a w fun i w => faT P T.ah i 0 w fun j w => stT P T.f j h w fun _ w => ja a w fun l w => faT P T.ah l 1 w fun m w => stT P T.f m nS w fun _ w => d [] w) (d [] w)) fun n w => K c w
theorem M.dk.calls : C2 F.dc M.dk := mk2 [0, 1, 4, 5, 6] pN Tryz.func93
theorem M.dk.fcall : fC F.dc := fcN Tryz.func93
def M.da (b : Value) : QQ := fun w K => gi P F.de [b] w fun a w => gi P F.ab [a] w fun c w => K a w
theorem M.da.calls : C1 F.ca M.da := mk1 [0, 2, 3] pN Tryz.func94
theorem M.da.fcall : fC F.ca := fcN Tryz.func94
def M.ag (a : Value) : QQ := fun w K => my P T.o a w fun b w => amr P (.func F.c) [] [b] w fun c w => K c w
theorem M.ag.calls : C1 F.au M.ag := mk1 [0, 2] pN Tryz.func95
theorem M.ag.fcall : fC F.au := fcN Tryz.func95
def M.bf.j0 (a d : Value) : QQ := fun w K => gj (fun c => biT P .cap #[T.f] T.b [false] [a] w fun e w => biT P .len #[T.f] T.b [false] [a] w fun f w => bT .sub T.b 10 12 e f w fun g w => bT .sub T.b 8 13 d g w fun b w => bK .gtr T.b 15 b i0 w fun h w => gk h (biT P .cap #[T.f] T.b [false] [a] w fun i w => slT P T.f a none (some i) none w fun j w => biT P .append #[T.f, T.b] T.f [false, false] [j, b] w fun l w => biT P .len #[T.f] T.b [false] [a] w fun m w => slT P T.f l none (some m) none w fun n w => c [b, n] w) (c [b, a] w)) fun o w => K (gv o 1) w
def M.bf (c a : Value) : QQ := fun w K => gj (fun b => bK .lss T.b 5 a i0 w fun d w => gk d (uz P T.ae (.string ⟨#[99, 97, 110, 110, 111, 116, 32, 98, 101, 32, 110, 101, 103, 97, 116, 105, 118, 101]⟩) w fun e w => ako w fun _ w => b [] w) (b [] w)) fun f w => M.bf.j0 c a w K
theorem M.bf.calls : C2 F.ck M.bf := mk2 [0, 1, 4] pN Tryz.func96
theorem M.bf.fcall : fC F.ck := fcN Tryz.func96
end Go.Proofs.YtfnhoaemapheoaaGreat
