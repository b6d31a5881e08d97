/-
  Registers: their value, equality of structs that hold structs. No condition.
-/
import Derived.Test.YtfnhoaemapheoaaGreatZSrtUD
import Derived.Test.YtfnhoaemapheoaaGreatZSpn0
import Derived.Test.YtfnhoaemapheoaaGreatZEngSl
set_option maxRecDepth 100000
namespace Go.Proofs.YtfnhoaemapheoaaGreat
open Go.Eng
def alc (r : Rg) : List Value := [.int .u64 r.p.n, .int .u64 r.p.gh, .int .u64 r.t.n, .int .u64 r.t.gh, .int .i64 r.v]
def jv (r : Rg) : Value := .agg #[.int .u64 r.p.n, .int .u64 r.p.gh, .int .u64 r.t.n, .int .u64 r.t.gh, .int .i64 r.v]
theorem anb (r : Rg) : ∀ u ∈ alc r, jr u = true := fun u hu => by
 simp only [alc, List.mem_cons, List.not_mem_nil, or_false] at hu
 rcases hu with rfl | rfl | rfl | rfl | rfl <;> rfl
theorem bhg {t : TypeId} {fs : Array Field} {i : TypeInfo} (hu : P.underlying t = some (.struct fs)) (hi : P.info? t = some i) (xs : Array Value) (o : Nat) (w : World) : (part t xs o).run P w = .ok (.agg (xs.extract o (o + i.size))) w := by
 have ha : (isAgg t).run P w = .ok true w := by
  unfold isAgg
  rw [Sem.run_bind, ii hu]
  rfl
 unfold part
 rw [Sem.run_bind, ha]
 simp only [Result.andThen, if_true, Sem.run_bind, xo hi, Sem.run_pure]
theorem bas {d : Nat} {xs ys : Array Value} {f : Field} {fs : List Field} {w : World} {b c : Bool} {ff : Array Field} {i : TypeInfo} (hn : f.name ≠ "_") (hu : P.underlying f.type = some (.struct ff)) (hi : P.info? f.type = some i)
  (he : (Op.equalIn d f.type (.agg (xs.extract f.offset (f.offset + i.size))) (.agg (ys.extract f.offset (f.offset + i.size)))).run P w = .ok b w) (hr : (Op.eqFields d xs ys fs).run P w = .ok c w) : (Op.eqFields d xs ys (f :: fs)).run P w = .ok (b && c) w := by
 simp only [Op.eqFields]
 rw [if_pos hn]
 simp only [Sem.run_bind, bhg hu hi, he, Result.andThen]
 cases b
 ·rfl
 ·simpa using hr
theorem akg (d : Nat) (x y : Bal) (w : World) : (Op.equalIn (d + 2) T.c (jd x) (jd y)).run P w = .ok (decide (x = y)) w := by
 have hS : P.underlying T.c = some (.struct (P.fieldsOf T.c)) := by kernel_rfl
 have hp : P.stoodInHeld T.c = false := by kernel_rfl
 rw [← aup]
 unfold jd
 rw [run_equalIn_agg w (d + 1) T.c _ _ hS hp]
 simp only [Program.fieldsOf, show P.underlying T.c = _ from Tryz.underlying40]
 have u22 : P.underlying T.d = some (.int .u64) := by kernel_rfl
 have a22 : yr P T.d = false := by kernel_rfl
 refine eqF (by decide) a22 rfl rfl (run_equalIn_int w d T.d _ _ _ _ u22) ?_
 have := eqF (fs := []) (d := d + 1) (xs := #[.int .u64 x.n, .int .u64 x.gh]) (ys := #[.int .u64 y.n, .int .u64 y.gh]) (f := { name := "Node", type := T.d, offset := 1, embedded := false, tag := "", pkgPath := "", byteOffset := 8 }) (w := w) (c := true) (by decide) a22 rfl rfl (run_equalIn_int w d T.d _ _ _ _ u22) rfl
 simpa using this
def aoe : Array Field := #[{ name := "Promised", type := T.c, offset := 0, embedded := false, tag := "", pkgPath := "", byteOffset := 0 }, { name := "Taken", type := T.c, offset := 2, embedded := false, tag := "", pkgPath := "", byteOffset := 16 }, { name := "V", type := T.j, offset := 4, embedded := false, tag := "", pkgPath := "", byteOffset := 32 }]
theorem bhy (x y : Rg) : (decide (x.p = y.p) && (decide (x.t = y.t) && (x.v == y.v))) = decide (x = y) := by
 obtain ⟨a, b, c⟩ := x
 obtain ⟨a', b', c'⟩ := y
 simp only [Rg.mk.injEq]
 by_cases h1 : a = a' <;> by_cases h2 : b = b' <;> by_cases h3 : c = c' <;> simp [h1, h2, h3]
theorem anq {t : TypeId} (hu : P.underlying t = some (.struct aoe)) (hp : P.stoodInHeld t = false) (d : Nat) (x y : Rg) (w : World) : (Op.equalIn (d + 3) t (jv x) (jv y)).run P w = .ok (decide (x = y)) w := by
 have hF : P.fieldsOf t = aoe := by simp only [Program.fieldsOf, hu]
 have hS : P.underlying t = some (.struct (P.fieldsOf t)) := by rw [hF]; exact hu
 obtain ⟨bi, hbi, hsz⟩ : ∃ i, P.info? T.c = some i ∧ i.size = 2 := by
  have : (P.info? T.c).map (·.size) = some 2 := by kernel_rfl
  exact Option.map_eq_some_iff.1 this
 have bu := Tryz.underlying40
 have vu : P.underlying T.j = some (.int .i64) := by kernel_rfl
 have va : yr P T.j = false := by kernel_rfl
 rw [← bhy]
 unfold jv
 rw [run_equalIn_agg w (d + 2) t _ _ hS hp, hF]
 unfold aoe
 refine bas (by decide) bu hbi ?_ (bas (by decide) bu hbi ?_ ?_)
 ·rw [hsz]; exact akg d x.p y.p w
 ·rw [hsz]; exact akg d x.t y.t w
 ·have := eqF (fs := []) (d := d + 2) (xs := #[.int .u64 x.p.n, .int .u64 x.p.gh, .int .u64 x.t.n, .int .u64 x.t.gh, .int .i64 x.v]) (ys := #[.int .u64 y.p.n, .int .u64 y.p.gh, .int .u64 y.t.n, .int .u64 y.t.gh, .int .i64 y.v]) (f := { name := "V", type := T.j, offset := 4, embedded := false, tag := "", pkgPath := "", byteOffset := 32 }) (w := w) (c := true) (by decide) va rfl rfl (run_equalIn_int w (d + 1) T.j _ _ _ _ vu) rfl
  simpa using this
theorem aye (rx ry : Operand) (x y : Rg) (w : World) (K : KV) : fi P .neq T.g rx ry (jv x) (jv y) w K = K (.bool !(decide (x = y))) w := by
 have hm : P.eqGuardType P.depth T.g = false := by kernel_rfl
 have hg := run_eqGuard_agg (P := P) w .neq T.g rx ry #[.int .u64 x.p.n, .int .u64 x.p.gh, .int .u64 x.t.n, .int .u64 x.t.gh, .int .i64 x.v] #[.int .u64 y.p.n, .int .u64 y.p.gh, .int .u64 y.t.n, .int .u64 y.t.gh, .int .i64 y.v] hm
 have he := anq (t := T.g) (by kernel_rfl) (by kernel_rfl) 9997 x y w
 unfold fi ip
 unfold jv at he ⊢
 rw [Sem.run_bind, hg]
 simp only [Result.andThen]
 rw [run_neq_struct, he]
 rfl
def yv (o : Int × Rg) : List Value := .int .u64 o.1 :: alc o.2
def afe (o : Int × Rg) : Value := .agg #[.int .u64 o.1, .int .u64 o.2.p.n, .int .u64 o.2.p.gh, .int .u64 o.2.t.n, .int .u64 o.2.t.gh, .int .i64 o.2.v]
theorem yx (o : Int × Rg) : (yv o).length = 6 := rfl
theorem aoz (o : Int × Rg) : ∀ u ∈ yv o, jr u = true := fun u hu => by
 rcases List.mem_cons.1 hu with rfl | hu
 ·rfl
 ·exact anb _ u hu
abbrev SlO (w : World) (v : Value) (l : iu) : Prop := Sl w 6 yv v l
def auv : Array Field := #[{ name := "Trace", type := T.d, offset := 0, embedded := false, tag := "", pkgPath := "", byteOffset := 0 }, { name := "R", type := T.i, offset := 1, embedded := false, tag := "", pkgPath := "", byteOffset := 8 }]
theorem ayr (x y : Int × Rg) (w : World) : (Op.equalIn 10000 T.x (afe x) (afe y)).run P w = .ok (decide (x = y)) w := by
 have hu : P.underlying T.x = some (.struct auv) := by kernel_rfl
 have hF : P.fieldsOf T.x = auv := by simp only [Program.fieldsOf, hu]
 have hS : P.underlying T.x = some (.struct (P.fieldsOf T.x)) := by rw [hF]; exact hu
 have hp : P.stoodInHeld T.x = false := by kernel_rfl
 have ru : P.underlying T.i = some (.struct aoe) := by kernel_rfl
 obtain ⟨ri, hri, hsz⟩ : ∃ i, P.info? T.i = some i ∧ i.size = 5 := by
  have : (P.info? T.i).map (·.size) = some 5 := by kernel_rfl
  exact Option.map_eq_some_iff.1 this
 have u22 : P.underlying T.d = some (.int .u64) := by kernel_rfl
 have a22 : yr P T.d = false := by kernel_rfl
 have hd : decide (x = y) = ((x.1 == y.1) && decide (x.2 = y.2)) := by
  obtain ⟨a, b⟩ := x
  obtain ⟨a', b'⟩ := y
  simp only [Prod.mk.injEq]
  by_cases h1 : a = a' <;> by_cases h2 : b = b' <;> simp [h1, h2]
 rw [hd]
 unfold afe
 rw [run_equalIn_agg w 9999 T.x _ _ hS hp, hF]
 unfold auv
 refine eqF (by decide) a22 rfl rfl (run_equalIn_int w 9998 T.d _ _ _ _ u22) ?_
 have := bas (fs := []) (d := 9999) (xs := #[.int .u64 x.1, .int .u64 x.2.p.n, .int .u64 x.2.p.gh, .int .u64 x.2.t.n, .int .u64 x.2.t.gh, .int .i64 x.2.v]) (ys := #[.int .u64 y.1, .int .u64 y.2.p.n, .int .u64 y.2.p.gh, .int .u64 y.2.t.n, .int .u64 y.2.t.gh, .int .i64 y.2.v]) (f := { name := "R", type := T.i, offset := 1, embedded := false, tag := "", pkgPath := "", byteOffset := 8 }) (w := w) (b := decide (x.2 = y.2)) (c := true) (by decide) ru hri (by rw [hsz]; exact anq ru (by kernel_rfl) 9996 x.2 y.2 w) rfl
 simpa using this
theorem axi (rx ry : Operand) (x y : Int × Rg) (w : World) (K : KV) : fi P .neq T.x rx ry (afe x) (afe y) w K = K (.bool !(decide (x = y))) w := by
 have hm : P.eqGuardType P.depth T.x = false := by kernel_rfl
 have hg := run_eqGuard_agg (P := P) w .neq T.x rx ry #[.int .u64 x.1, .int .u64 x.2.p.n, .int .u64 x.2.p.gh, .int .u64 x.2.t.n, .int .u64 x.2.t.gh, .int .i64 x.2.v] #[.int .u64 y.1, .int .u64 y.2.p.n, .int .u64 y.2.p.gh, .int .u64 y.2.t.n, .int .u64 y.2.t.gh, .int .i64 y.2.v] hm
 have he := ayr x y w
 unfold fi ip
 unfold afe at he ⊢
 rw [Sem.run_bind, hg]
 simp only [Result.andThen]
 rw [run_neq_struct, he]
 rfl
set_option maxRecDepth 100000
def xk (a b : Int) : Int := if a < b then -1 else if b < a then 1 else 0
theorem aib {w : World} (a b : Int) {K : KV} (h : K (.int .i64 (xk a b)) w) : fj P F.bw [.int .u64 a, .int .u64 b] w K := by
 have nan : ∀ (z : Int) {K : KV}, K (.bool false) w → fj P F.az [.int .u64 z] w K := fun z K hK => by
  rw [M.cx.fcall]
  apply M.cx.calls
  unfold M.cx
  simpa using hK
 rw [M.ci.fcall]
 apply M.ci.calls
 unfold M.ci
 refine nan a ?_
 refine nan b ?_
 simp
 unfold M.ci.j2
 unfold xk at h
 by_cases h1 : a < b
 ·simp [h1] at h ⊢; exact h
 ·by_cases h2 : b < a
  ·simp [h1, h2] at h ⊢; exact h
  ·simp [h1, h2] at h ⊢; exact h
theorem bgc {w : World} {v : Value} {l : List Int} (hs : Sl w 1 aba v l) (hlen : l.length ≤ 1000) {K : KV} (h : K (.int .i64 (orK l)) w) : ja P F.eu [v] w K := by
 apply M.eg.calls
 unfold M.eg
 simp only [fm]
 rw [hs.im (by simp)]
 refine ⟨OrI w l, fun x _ => l.length - ms x 2, ⟨_, _, 0, rfl, rfl, Nat.zero_le _, fun j k _ h => by omega⟩, ?_⟩
 rintro x w1 ⟨a, b, i, rfl, rfl, hi, hz⟩
 have gv2 : gv [a, b, .int .i64 (i : Int)] 2 = .int .i64 (i : Int) := rfl
 simp only [gv2]
 by_cases hil : i < l.length
 ·obtain ⟨bb, o, cap, rfl, hb, _, hr⟩ := hs.at hil
  have e0 := hr 0 _ rfl
  simp only [Nat.mul_one, Nat.add_zero] at e0
  have hw : IntKind.i64.wrap ((i : Int) + 1) = ((i + 1 : Nat) : Int) := by rw [fq (by omega) (by omega)]; rfl
  simp [hil]
  unfold M.eg.j2
  simp only [fm, gv2]
  by_cases hk : l[i] = 0
  ·simp [hil, e0, hk, hw]
   refine ⟨⟨_, _, i + 1, rfl, rfl, by omega, fun j k hj hlt => ?_⟩, by simp [ms, gv]; omega⟩
   by_cases hji : j = i
   ·subst hji
    rw [List.getElem?_eq_getElem hil] at hj
    cases hj; exact hk
   ·exact hz j k hj (by omega)
  ·simp [hil, e0, hk]
   have : orK l = l[i] := by
    unfold orK
    have : l.find? (fun k => !decide (k = 0)) = some l[i] := by
     rw [List.find?_eq_some_iff_getElem]
     refine ⟨by simpa using hk, i, hil, rfl, fun j hj => ?_⟩
     have := hz j _ (List.getElem?_eq_getElem (by omega)) hj
     simp [this]
    rw [this]; rfl
   rw [this] at h; exact h
 ·simp [hil]
  have : orK l = 0 := by
   unfold orK
   have : l.find? (fun k => !decide (k = 0)) = none := by
    rw [List.find?_eq_none]
    intro k hk
    obtain ⟨j, hj, rfl⟩ := List.mem_iff_getElem.1 hk
    have := hz j _ (List.getElem?_eq_getElem hj) (by omega)
    simp [this]
   rw [this]; rfl
  rw [this] at h; exact h
theorem or2 (a b : Int) : orK [a, b] = if a = 0 then b else a := by
 unfold orK
 by_cases ha : a = 0 <;> by_cases hb : b = 0 <;> simp [ha, hb]
theorem azz {a b : Bal} : decide ((orK [xk a.n b.n, xk a.gh b.gh]) < 0) = a.sm b := by
 rw [or2]
 unfold xk Bal.sm
 apply decide_eq_decide.2
 repeat' split
 all_goals omega
theorem xq {w : World} {b : Nat} {x : Bal} {f : Nat × Nat} (h : w.heap[b]? = some (.cells #[.int .u64 x.n, .int .u64 x.gh] T.c f)) : ft w b 0 = some (.int .u64 x.n) ∧ ft w b 1 = some (.int .u64 x.gh) ∧ ∀ K, ldN P 2 b 0 w K = K (jd x) w :=
 ⟨by rw [fx h]; rfl, by rw [fx h]; rfl, fun K => acx (by rw [fx h]; rfl) (by rw [fx h]; rfl) K⟩
theorem ban (x y : Bal) {w : World} {Q : Value → Value → World → Prop} (h : ∀ w1 b1 b2, St w w1 (ga b2 #[.int .u64 y.n, .int .u64 y.gh] T.c :: ga b1 #[.int .u64 x.n, .int .u64 x.gh] T.c :: []) → Q (jb b1) (jb b2) w1) :
  jz P T.c (jd x) w fun v1 w1 => jz P T.c (jd y) w1 fun v2 w2 => Q v1 v2 w2 := by
 rw [ws, ws]
 exact h _ _ _ (adj (adj (St.jc w) #[.int .u64 x.n, .int .u64 x.gh] T.c) #[.int .u64 y.n, .int .u64 y.gh] T.c)
theorem ayq {w : World} (x y : Bal) {K : KV} (h : ∀ w', Fr (fun _ => False) w w' → K (.int .i64 (orK [xk x.n y.n, xk x.gh y.gh])) w') : fj P F.em [jd x, jd y] w K := by
 rw [M.et.fcall]
 apply M.et.calls
 unfold M.et
 refine ban x y fun w1 b1 b2 S1 => ?_
 have S2 := S1.iq ((Fr.refl _ w1).dr 1)
 obtain ⟨y0, y1, _⟩ := xq S2.blk
 obtain ⟨x0, x1, _⟩ := xq S2.swap.blk
 simp only [jb]
 rw [pw]
 simp only [me] at x0 x1 y0 y1
 simp [x0, x1, y0, y1]
 refine aib _ _ ?_
 simp [x1, y1]
 refine aib _ _ ?_
 simp
 have S3 : St w ((dr w1 1).alloc (.cells #[.int .i64 (xk x.n y.n), .int .i64 (xk x.gh y.gh)] T.b)) _ := adj S2 #[.int .i64 (xk x.n y.n), .int .i64 (xk x.gh y.gh)] T.b
 have hsl : Sl ((dr w1 1).alloc (.cells #[.int .i64 (xk x.n y.n), .int .i64 (xk x.gh y.gh)] T.b)) 1 aba (.slice (some ⟨w1.heap.size, 0, none⟩) 2 2) [xk x.n y.n, xk x.gh y.gh] := by
  have hh := S3.blk
  rw [show (dr w1 1).heap.size = w1.heap.size from rfl] at hh
  refine ⟨some ⟨w1.heap.size, 0, none⟩, 2, rfl, by simp, by simp [maxLen], fun i z hz => ⟨w1.heap.size, 0, rfl, pq hh, fun j u hj => ?_⟩⟩
  rw [fx hh]
  match i, j with
  | 0, 0 => simp [aba] at hz hj ⊢; rw [hz]; exact hj
  | 1, 0 => simp [aba] at hz hj ⊢; rw [hz]; exact hj
  | i + 2, _ => simp at hz
  | _, j + 1 => simp [aba] at hj
 rw [M.eg.fcall]
 exact bgc hsl (by simp) (h _ S3.fr)
theorem apq {w : World} (x y : Bal) {K : KV} (h : ∀ w', Fr (fun _ => False) w w' → K (.bool (x.sm y)) w') : fj P F.eh [jd x, jd y] w K := by
 rw [M.ex.fcall]
 apply M.ex.calls
 unfold M.ex
 refine ban x y fun w1 b1 b2 S1 => ?_
 obtain ⟨_, _, y2⟩ := xq S1.blk
 obtain ⟨_, _, x2⟩ := xq S1.swap.blk
 simp only [jb]
 simp [x2, y2]
 refine ayq x y fun w2 f2 => ?_
 simp
 rw [azz]
 exact h w2 (S1.fr.trans f2)
theorem ajz {w : World} (x y : Bal) {K : KV} (h : ∀ w', Fr (fun _ => False) w w' → K (.bool (x.sm y)) w') : fj P F.ch [jd x, jd y] w K := by
 rw [M.du.fcall]
 apply M.du.calls
 unfold M.du
 refine ban x y fun w1 b1 b2 S1 => ?_
 obtain ⟨y0, y1, _⟩ := xq S1.blk
 obtain ⟨x0, x1, _⟩ := xq S1.swap.blk
 simp only [jb]
 have fin := h w1 S1.fr
 unfold Bal.sm at fin
 by_cases h1 : x.n < y.n
 ·simp [x0, x1, y0, y1, h1] at fin ⊢; exact fin
 ·by_cases h2 : x.n = y.n
  ·simp [x0, x1, y0, y1, h2] at fin ⊢; exact fin
  ·simp [x0, x1, y0, y1, h1, h2] at fin ⊢; exact fin
theorem aav (b : Nat) (w : World) (K : KV) : lc P T.g (.pointer (some ⟨b, 0, none⟩)) w K = ldN P 5 b 0 w K := .trans (by kernel_rfl) rfl
theorem yw (b : Nat) (w : World) (K : KV) : lc P T.i (.pointer (some ⟨b, 0, none⟩)) w K = ldN P 5 b 0 w K := .trans (by kernel_rfl) rfl
section
variable {w0 w : World} {b : Nat} {t : TypeId} {R : List Asn}
def rgC (r : Rg) : Array Value := #[.int .u64 r.p.n, .int .u64 r.p.gh, .int .u64 r.t.n, .int .u64 r.t.gh, .int .i64 r.v]
theorem iw {r : Rg} (S : St w0 w (ga b (rgC r) t :: R)) : (∀ K, ldN P 2 b 0 w K = K (jd r.p) w) ∧ (∀ K, ldN P 2 b 2 w K = K (jd r.t) w) ∧ ft w b 4 = some (.int .i64 r.v) ∧ ∀ K, ldN P 5 b 0 w K = K (jv r) w :=
 ⟨fun K => S.ldA [.int .u64 r.p.n, .int .u64 r.p.gh] rfl rfl K, fun K => S.ldA [.int .u64 r.t.n, .int .u64 r.t.gh] rfl rfl K, by rw [S.cell]; rfl, fun K => S.ldA (alc r) rfl rfl K⟩
theorem qw {x : Bal} (S : St w0 w (ga b #[.int .u64 x.n, .int .u64 x.gh] t :: R)) : ft w b 0 = some (.int .u64 x.n) ∧ ft w b 1 = some (.int .u64 x.gh) ∧ ∀ K, ldN P 2 b 0 w K = K (jd x) w :=
 ⟨by rw [S.cell]; rfl, by rw [S.cell]; rfl, fun K => S.ldA [.int .u64 x.n, .int .u64 x.gh] rfl rfl K⟩
theorem oz {r r' : Rg} (S : St w0 w (ga b (rgC r) t :: R)) {K : KV} (h : ∀ w', St w0 w' (ga b (rgC r') t :: R) → K undef w') : stN P b 0 [.int .u64 r'.p.n, .int .u64 r'.p.gh, .int .u64 r'.t.n, .int .u64 r'.t.gh, .int .i64 r'.v] w K :=
 S.put (vs := [.int .u64 r'.p.n, .int .u64 r'.p.gh, .int .u64 r'.t.n, .int .u64 r'.t.gh, .int .i64 r'.v]) (anb r') (by simp [rgC]) rfl h
theorem tp (S : St w0 w R) (t : TypeId) : St w0 (w.alloc (.cells #[.int .u64 0, .int .u64 0, .int .u64 0, .int .u64 0, .int .i64 0] t)) (ga w.heap.size (rgC rg0) t :: R) := S.mkB (rgC rg0) t
theorem aop {w : World} {v : Int} {K : KV} (h : K (.bool (kg v)) w) : fj P F.dr [.int .i64 v] w K := by
 rw [M.ej.fcall]
 apply M.ej.calls
 unfold M.ej
 unfold kg at h
 by_cases h1 : 1 ≤ v
 ·by_cases h2 : v ≤ 3
  ·rw [decide_eq_true ⟨h1, h2⟩] at h
   simp [h1, h2]; exact h
  ·rw [decide_eq_false (fun hh => h2 hh.2)] at h
   simp [h1, h2]; exact h
 ·rw [decide_eq_false (fun hh => h1 hh.1)] at h
  simp [h1]; exact h
theorem amv {w : World} (r : Rg) (x : Bal) {K : KV} (h : ∀ w', Fr (fun _ => False) w w' → K (.bool (r.ll x)) w') : fj P F.bs [jv r, jd x] w K := by
 rw [M.dl.fcall]
 apply M.dl.calls
 unfold M.dl
 refine St.pm (St.jc w) fun b1 w1 S1 => ?_
 refine St.pm S1 fun b2 w2 S2 => ?_
 obtain ⟨x0, _, xl⟩ := qw S2
 obtain ⟨rp, _, _, _⟩ := iw S2.swap
 unfold Rg.ll at h
 by_cases hn : 0 < x.n
 ·simp [x0, hn, xl, rp]
  refine apq x r.p fun w3 f3 => ?_
  simp
  simpa [hn] using h w3 (S2.fr.trans f3)
 ·simp [x0, hn]
  simpa [hn] using h w2 S2.fr
theorem bdx {w : World} (r : Rg) (x : Bal) {K : KV} (h : ∀ w', Fr (fun _ => False) w w' → K (.tuple #[jv (r.qo x).1, .bool (r.qo x).2]) w') : fj P F.dk [jv r, jd x] w K := by
 rw [M.cw.fcall]
 apply M.cw.calls
 unfold M.cw
 refine St.pm (St.jc w) fun b1 w1 S1 => ?_
 refine St.pm S1 fun b2 w2 S2 => ?_
 simp
 have S3 := tp S2 T.g
 generalize w2.heap.size = b3 at *
 generalize w2.alloc _ = w3 at *
 obtain ⟨_, _, xl⟩ := qw S3.swap
 obtain ⟨_, _, _, rl⟩ := iw S3.up2
 simp [rl, xl]
 refine amv r x fun w4 f4 => ?_
 have S4 := S3.iq f4
 obtain ⟨_, _, xl⟩ := qw S4.swap
 obtain ⟨_, _, _, rl⟩ := iw S4.up2
 unfold Rg.qo at h
 cases hs : r.ll x with
 | false =>
  simp [rl]
  unfold jv
  simp
  refine oz S4 fun w5 S5 => ?_
  obtain ⟨_, _, _, rl5⟩ := iw S5
  rw [aav, rl5]
  refine ⟨rfl, ?_⟩
  simpa [hs] using h w5 S5.fr
 | true =>
  simp
  unfold M.cw.j0
  simp [xl]
  unfold jd
  simp
  refine St.put (cs' := rgC ⟨x, r.t, r.v⟩) (vs := [.int .u64 x.n, .int .u64 x.gh]) S4.up2 (by simp) (by simp [rgC]) rfl fun w5 S5 => ?_
  obtain ⟨_, _, _, rl5⟩ := iw S5
  rw [rl5]
  unfold jv
  simp
  refine oz (r' := ⟨x, r.t, r.v⟩) S5.swap fun w6 S6 => ?_
  obtain ⟨_, _, _, rl6⟩ := iw S6
  rw [aav, rl6]
  refine ⟨rfl, ?_⟩
  simpa [hs] using h w6 S6.fr
theorem bfv {w : World} (r : Rg) (x : Bal) (v : Int) {K : KV} (h : ∀ w', Fr (fun _ => False) w w' → K (.tuple #[jv (r.acc x v).1, .bool (r.acc x v).2]) w') : fj P F.dv [jv r, jd x, .int .i64 v] w K := by
 rw [M.cr.fcall]
 apply M.cr.calls
 unfold M.cr
 refine St.pm (St.jc w) fun b1 w1 S1 => ?_
 refine St.pm S1 fun b2 w2 S2 => ?_
 simp
 have S3 := tp S2 T.g
 generalize w2.heap.size = b3 at *
 generalize w2.alloc _ = w3 at *
 obtain ⟨_, _, xl⟩ := qw S3.swap
 obtain ⟨_, _, _, rl⟩ := iw S3.up2
 simp [rl, xl]
 refine amv r x fun w4 f4 => ?_
 have S4 := S3.iq f4
 obtain ⟨_, _, xl⟩ := qw S4.swap
 obtain ⟨_, rt, rv, rl⟩ := iw S4.up2
 have no : (¬ (r.ll x = true ∧ kg v = true ∧ ¬ (r.t = x ∧ r.v ≠ v))) → stN P b3 0 [.int .u64 r.p.n, .int .u64 r.p.gh, .int .u64 r.t.n, .int .u64 r.t.gh, .int .i64 r.v] w4 (fun _ w => fg (fun K' => lc P T.g (.pointer (some ⟨b3, 0, none⟩)) w K') w fun r0 => K (.tuple #[r0, .bool false]) w) := fun hc => by
  refine oz S4 fun w5 S5 => ?_
  obtain ⟨_, _, _, rl5⟩ := iw S5
  rw [ny, aav, rl5]
  refine ⟨rfl, ?_⟩
  have fin := h w5 S5.fr
  unfold Rg.acc at fin
  rw [if_neg hc] at fin
  exact fin
 simp only [ny] at no
 cases hs : r.ll x with
 | false =>
  have no' := no (by simp [hs])
  simp [rl]
  unfold jv
  simp
  exact no'
 | true =>
  simp
  refine aop ?_
  cases hv : kg v with
  | false =>
   have no' := no (by simp [hv])
   simp [rl]
   unfold jv
   simp
   exact no'
  | true =>
   simp [rt, xl, pp]
   have yes : (r.ll x = true ∧ kg v = true ∧ ¬ (r.t = x ∧ r.v ≠ v)) → M.cr.j0 (.pointer (some ⟨b2, 0, none⟩)) (.int .i64 v) (.pointer (some ⟨b3, 0, none⟩)) w4 K := fun hc => by
    unfold M.cr.j0
    simp [xl]
    unfold jd
    simp
    refine oz (r' := ⟨x, x, v⟩) S4 fun w5 S5 => ?_
    obtain ⟨_, _, _, rl5⟩ := iw S5
    rw [aav, rl5]
    refine ⟨rfl, ?_⟩
    have fin := h w5 S5.fr
    unfold Rg.acc at fin
    rw [if_pos hc] at fin
    exact fin
   by_cases ht : r.t = x
   ·by_cases hvv : r.v = v
    ·have yes' := yes ⟨hs, hv, fun hh => hh.2 hvv⟩
     simp [ht, rv, hvv]
     exact yes'
    ·have no' := no (fun hh => hh.2.2 ⟨ht, hvv⟩)
     simp [ht, rv, hvv, rl]
     unfold jv
     simp
     exact no'
   ·have yes' := yes ⟨hs, hv, fun hh => ht hh.1⟩
    simp [ht]
    exact yes'
theorem bda : Value.agg #[.int .u64 0, .int .u64 0] = jd gt := rfl
theorem ayn {w : World} (r : Rg) {K : KV} (h : ∀ w', Fr (fun _ => False) w w' → K (.bool r.right) w') : fj P F.ee [jv r] w K := by
 rw [M.dk.fcall]
 apply M.dk.calls
 unfold M.dk
 refine St.pm (St.jc w) fun b1 w1 S1 => ?_
 have S1' : St w w1 (ga b1 (rgC r) T.g :: []) := S1
 obtain ⟨rp, rt, rv, _⟩ := iw S1'
 have fin := fun f => h w1 f
 unfold Rg.right at h fin
 simp [rt, bda, pp]
 by_cases ht : r.t = gt
 ·simp [ht, rv] at fin ⊢
  exact fin S1.fr
 ·simp [ht] at fin h ⊢
  unfold M.dk.j0
  simp [rv]
  refine aop ?_
  cases hv : kg r.v with
  | false =>
   simp [hv] at fin ⊢
   exact fin S1.fr
  | true =>
   simp [rp, rt]
   refine apq _ _ fun w2 f2 => ?_
   have := h w2 (S1.fr.trans f2)
   simpa [hv] using this
theorem azm {w : World} (r : Rg) (x : Bal) (hx : 0 ≤ x.n) {K : KV} (h : ∀ w', Fr (fun _ => False) w w' → K (.tuple #[jv (r.qo x).1, .bool (r.qo x).2]) w') : fj P F.cj [jv r, jd x] w K := by
 rw [M.cc.fcall]
 apply M.cc.calls
 unfold M.cc
 refine St.pm (St.jc w) fun b1 w1 S1 => ?_
 refine St.pm S1 fun b2 w2 S2 => ?_
 simp
 have S3 := tp S2 T.i
 generalize w2.heap.size = b3 at *
 generalize w2.alloc _ = w3 at *
 obtain ⟨_, _, xl⟩ := qw S3.swap
 obtain ⟨rp, _, _, rl⟩ := iw S3.up2
 simp [rp, xl]
 refine ajz x r.p fun w4 f4 => ?_
 have S4 := S3.iq f4
 obtain ⟨x0, _, xl⟩ := qw S4.swap
 obtain ⟨_, _, _, rl⟩ := iw S4.up2
 unfold Rg.qo at h
 have no : ¬ r.ll x = true → stN P b3 0 [.int .u64 r.p.n, .int .u64 r.p.gh, .int .u64 r.t.n, .int .u64 r.t.gh, .int .i64 r.v] w4 (fun _ w => lc P T.i (.pointer (some ⟨b3, 0, none⟩)) w fun r0 w' => w' = w ∧ K (.tuple #[r0, .bool false]) w) := fun hc => by
  refine oz S4 fun w5 S5 => ?_
  obtain ⟨_, _, _, rl5⟩ := iw S5
  rw [yw, rl5]
  refine ⟨rfl, ?_⟩
  have fin := h w5 S5.fr
  rw [if_neg hc] at fin
  exact fin
 cases hl : x.sm r.p with
 | true =>
  have no' := no (by unfold Rg.ll; simp [hl])
  simp [rl]
  unfold jv
  simp
  exact no'
 | false =>
  by_cases hn : x.n = 0
  ·have no' := no (by unfold Rg.ll; simp [hl, hn])
   simp [x0, hn, rl]
   unfold jv
   simp
   exact no'
  ·have hs : r.ll x = true := by
    unfold Rg.ll
    simp [hl]; omega
   simp [x0, hn]
   unfold M.cc.j0
   simp [xl]
   unfold jd
   simp
   refine St.put (cs' := rgC ⟨x, r.t, r.v⟩) (vs := [.int .u64 x.n, .int .u64 x.gh]) S4.up2 (by simp) (by simp) rfl fun w5 S5 => ?_
   obtain ⟨_, _, _, rl5⟩ := iw S5
   rw [rl5]
   unfold jv
   simp
   refine oz (r' := ⟨x, r.t, r.v⟩) S5.swap fun w6 S6 => ?_
   obtain ⟨_, _, _, rl6⟩ := iw S6
   rw [yw, rl6]
   refine ⟨rfl, ?_⟩
   have fin := h w6 S6.fr
   rw [if_pos hs] at fin
   exact fin
theorem bds {w : World} (r : Rg) (x : Bal) (v : Int) (hx : 0 ≤ x.n) {K : KV} (h : ∀ w', Fr (fun _ => False) w w' → K (.tuple #[jv (r.acc x v).1, .bool (r.acc x v).2]) w') : fj P F.cr [jv r, jd x, .int .i64 v] w K := by
 rw [M.bz.fcall]
 apply M.bz.calls
 unfold M.bz
 refine St.pm (St.jc w) fun b1 w1 S1 => ?_
 refine St.pm S1 fun b2 w2 S2 => ?_
 simp
 have S3 := tp S2 T.i
 generalize w2.heap.size = b3 at *
 generalize w2.alloc _ = w3 at *
 obtain ⟨_, _, xl⟩ := qw S3.swap
 obtain ⟨rp, _, _, rl⟩ := iw S3.up2
 simp [rp, xl]
 refine ajz x r.p fun w4 f4 => ?_
 have S4 := S3.iq f4
 obtain ⟨x0, _, xl⟩ := qw S4.swap
 obtain ⟨_, rt, rv, rl⟩ := iw S4.up2
 unfold Rg.acc at h
 have no : (¬ (r.ll x = true ∧ kg v = true ∧ ¬ (r.t = x ∧ r.v ≠ v))) → stN P b3 0 [.int .u64 r.p.n, .int .u64 r.p.gh, .int .u64 r.t.n, .int .u64 r.t.gh, .int .i64 r.v] w4 (fun _ w => lc P T.i (.pointer (some ⟨b3, 0, none⟩)) w fun r0 w' => w' = w ∧ K (.tuple #[r0, .bool false]) w) := fun hc => by
  refine oz S4 fun w5 S5 => ?_
  obtain ⟨_, _, _, rl5⟩ := iw S5
  rw [yw, rl5]
  refine ⟨rfl, ?_⟩
  have fin := h w5 S5.fr
  rw [if_neg hc] at fin
  exact fin
 have yes : (r.ll x = true ∧ kg v = true ∧ ¬ (r.t = x ∧ r.v ≠ v)) → M.bz.j0 (.pointer (some ⟨b2, 0, none⟩)) (.int .i64 v) (.pointer (some ⟨b3, 0, none⟩)) w4 K := fun hc => by
  unfold M.bz.j0
  simp [xl]
  unfold jd
  simp
  refine oz (r' := ⟨x, x, v⟩) S4 fun w5 S5 => ?_
  obtain ⟨_, _, _, rl5⟩ := iw S5
  rw [yw, rl5]
  refine ⟨rfl, ?_⟩
  have fin := h w5 S5.fr
  rw [if_pos hc] at fin
  exact fin
 cases hl : x.sm r.p with
 | true =>
  have no' := no (by unfold Rg.ll; simp [hl])
  simp [rl]
  unfold jv
  simp
  exact no'
 | false =>
 by_cases hn : x.n = 0
 ·have no' := no (by unfold Rg.ll; simp [hl, hn])
  simp [x0, hn, rl]
  unfold jv
  simp
  exact no'
 have hs : r.ll x = true := by
  unfold Rg.ll
  simp [hl]; omega
 by_cases h1 : v < 1
 ·have no' := no (by unfold kg; simp; omega)
  simp [x0, hn, h1, rl]
  unfold jv
  simp
  exact no'
 by_cases h3 : 3 < v
 ·have no' := no (by unfold kg; simp; omega)
  simp [x0, hn, h1, h3, rl]
  unfold jv
  simp
  exact no'
 have hv : kg v = true := by unfold kg; simp; omega
 by_cases ht : x = r.t
 ·by_cases hvv : v = r.v
  ·have yes' := yes ⟨hs, hv, fun hh => hh.2 hvv.symm⟩
   have hd : decide (x = r.t) = true := decide_eq_true ht
   have hd2 : decide (v = r.v) = true := decide_eq_true hvv
   simp [x0, hn, h1, h3, xl, rt, pp, hd, rv, hd2]
   exact yes'
  ·have no' := no (fun hh => hh.2.2 ⟨ht.symm, fun hh => hvv hh.symm⟩)
   have hd : decide (x = r.t) = true := decide_eq_true ht
   simp [x0, hn, h1, h3, xl, rt, pp, hd, rv, hvv, rl]
   unfold jv
   simp
   exact no'
 ·have yes' := yes ⟨hs, hv, fun hh => ht hh.1.symm⟩
  simp [x0, hn, h1, h3, xl, rt, pp, ht]
  exact yes'
end
set_option maxRecDepth 100000
open Go.Eng
def pk0 (k tr : Int) (x s : Bal) (v : Int) (ok : Bool) : Pk := ⟨k, tr, x, s, v, ok, .slice none 0 0, .slice none 0 0, .slice none 0 0⟩
theorem qv (k tr : Int) (x s : Bal) (v : Int) (ok : Bool) : ∀ u ∈ pkC (pk0 k tr x s v ok), jr u = true := fun u hu => by
 simp only [pkC, pk0, List.mem_cons, List.not_mem_nil, or_false] at hu
 rcases hu with rfl | rfl | rfl | rfl | rfl | rfl | rfl | rfl | rfl | rfl | rfl <;> rfl
theorem akb (w : World) (k tr : Int) (x s : Bal) (v : Int) (ok : Bool) : nq w (pk0 k tr x s v ok) [] [] [] := ⟨Sl.nil, Sl.nil, Sl.nil, by simp, by simp, by simp⟩
def pkZ : Pk := pk0 0 0 gt gt 0 false
def aev (r : Rg) (tr : Int) (x : Bal) (ok kf : Bool) : Pk := pk0 (if kf = true then 7 else 5) tr x (if ok = false then r.p else if kf = false then r.t else gt) (if ok = true ∧ kf = false then r.v else 0) ok
section
variable {w0 w : World} {b : Nat} {R : List Asn}
theorem ach {cs : Array Value} {q : Pk} (S : St w0 w (ga b cs T.a :: R)) (hs : cs.size = 11) (h1 : ∀ u ∈ pkC q, jr u = true) {K : KV} (h : ∀ w', St w0 w' (ga b (pkC q).toArray T.a :: R) → K undef w') : stN P b 0 (pkC q) w K :=
 S.put h1 (by simp [pkC, hs]) (by
  have hl : cs.toList.length = 11 := by simpa using hs
  have h2 : (pkC q).length = 11 := rfl
  rw [h2, List.take_zero, List.nil_append, List.drop_eq_nil_of_le (by omega), List.append_nil]) h
theorem wz (S : St w0 w R) : St w0 (w.alloc (.cells #[.int .i64 0, .int .u64 0, .int .u64 0, .int .u64 0, .int .u64 0, .int .u64 0, .int .i64 0, .bool false, .slice none 0 0, .slice none 0 0, .slice none 0 0] T.a)) (ga w.heap.size (pkC pkZ).toArray T.a :: R) := S.mkB (pkC pkZ).toArray T.a
theorem sq {q : Pk} (S : St w0 w (ga b (pkC q).toArray T.a :: R)) (K : KV) : ldN P 11 b 0 w K = K (pkA q) w := S.ldA (pkC q) rfl rfl K
theorem bhm {q : Pk} (S : St w0 w (ga b (pkC q).toArray T.a :: R)) (K : KV) : lc P T.a (.pointer (some ⟨b, 0, none⟩)) w K = K (pkA q) w := by rw [ahn]; exact sq S K
theorem zm {cs : Array Value} {q : Pk} (S : St w0 w (ga b cs T.a :: R)) (hs : cs.size = 11) (h1 : ∀ u ∈ pkC q, jr u = true) {K : KV} (h : ∀ w', St w0 w' (ga b (pkC q).toArray T.a :: R) → K (pkA q) w') :
  stN P b 0 (pkC q) w fun _ w => lc P T.a (.pointer (some ⟨b, 0, none⟩)) w fun r0 w' => w' = w ∧ K r0 w :=
 ach S hs h1 fun w' S' => by rw [bhm S']; exact ⟨rfl, h w' S'⟩
theorem axh {w : World} (r : Rg) (tr : Int) (x : Bal) (ok kf : Bool) {K : KV} (h : ∀ w', Fr (fun _ => False) w w' → K (pkA (aev r tr x ok kf)) w') : fj P F.dw [jv r, .int .u64 tr, jd x, .bool ok, .bool kf] w K := by
 rw [M.cs.fcall]
 apply M.cs.calls
 unfold M.cs
 refine St.pm (St.jc w) fun b1 w1 S1 => ?_
 refine St.pm S1 fun b2 w2 S2 => ?_
 simp
 have S3 := wz S2
 generalize w2.heap.size = b3 at *
 generalize w2.alloc _ = w3 at *
 obtain ⟨_, _, xl⟩ := qw S3.swap
 rw [xl]
 unfold jd
 simp
 have S4 := wz S3
 generalize w3.heap.size = b4 at *
 generalize w3.alloc _ = w4 at *
 refine ach (q := pk0 5 tr x gt 0 ok) S4 rfl (qv _ _ _ _ _ _) fun w5 S5 => ?_
 obtain ⟨rp, rt, rv, _⟩ := iw S5.up3
 have fin : ∀ w6 (s : Bal) (v : Int), s = (if ok = false then r.p else if kf = false then r.t else gt) → v = (if ok = true ∧ kf = false then r.v else 0) → St w w6 (ga b4 (pkC (pk0 5 tr x s v ok)).toArray T.a :: ga b3 (pkC pkZ).toArray T.a :: ga b2 #[.int .u64 x.n, .int .u64 x.gh] T.c :: ga b1 (rgC r) T.g :: []) → M.cs.j0 (.bool kf) (.pointer (some ⟨b4, 0, none⟩)) (.pointer (some ⟨b3, 0, none⟩)) w6 K := fun w6 s v es ev S6 => by
  unfold M.cs.j0
  cases kf with
  | false =>
   simp
   rw [sq S6]
   have e : pkA (pk0 5 tr x s v ok) = .agg #[.int .i64 5, .int .u64 tr, .int .u64 x.n, .int .u64 x.gh, .int .u64 s.n, .int .u64 s.gh, .int .i64 v, .bool ok, .slice none 0 0, .slice none 0 0, .slice none 0 0] := rfl
   rw [e]
   simp
   refine zm (q := pk0 5 tr x s v ok) S6.swap rfl (qv _ _ _ _ _ _) fun w7 S7 => ?_
   subst es ev
   exact h w7 S7.fr
  | true =>
   simp
   refine S6.ue rfl (by simp [pkC]) fun w7 S7 => ?_
   have S7' : St w w7 (ga b4 (pkC (pk0 7 tr x s v ok)).toArray T.a :: _) := S7
   rw [sq S7']
   have e : pkA (pk0 7 tr x s v ok) = .agg #[.int .i64 7, .int .u64 tr, .int .u64 x.n, .int .u64 x.gh, .int .u64 s.n, .int .u64 s.gh, .int .i64 v, .bool ok, .slice none 0 0, .slice none 0 0, .slice none 0 0] := rfl
   rw [e]
   simp
   refine zm (q := pk0 7 tr x s v ok) S7'.swap rfl (qv _ _ _ _ _ _) fun w8 S8 => ?_
   subst es ev
   exact h w8 S8.fr
 cases ok with
 | false =>
  simp [rp]
  unfold jd
  simp
  refine St.put (cs' := (pkC (pk0 5 tr x r.p 0 false)).toArray) (vs := [.int .u64 r.p.n, .int .u64 r.p.gh]) S5 (by simp) (by simp [pkC]) rfl fun w6 S6 => ?_
  exact fin w6 r.p 0 rfl rfl S6
 | true =>
  cases kf with
  | true =>
   simp
   exact fin w5 gt 0 rfl rfl S5
  | false =>
   simp
   have S5d := S5.iq ((Fr.refl _ w5).dr 1)
   obtain ⟨_, rt', rv', _⟩ := iw S5d.up3
   simp only [me] at rv'
   simp [rt', rv']
   unfold jd
   simp
   refine St.put (cs' := (pkC (pk0 5 tr x r.t 0 true)).toArray) (vs := [.int .u64 r.t.n, .int .u64 r.t.gh]) S5d (by simp) (by simp [pkC]) rfl fun w6 S6 => ?_
   obtain ⟨_, _, rv6, _⟩ := iw S6.up3
   simp [rv6]
   refine S6.ue rfl (by simp [pkC]) fun w7 S7 => ?_
   exact fin w7 r.t r.v rfl rfl S7
theorem avq {w : World} (r : Rg) (tr : Int) (x : Bal) (ok kf : Bool) {K : KV} (h : ∀ w', Fr (fun _ => False) w w' → K (pkA (aev r tr x ok kf)) w') : fj P F.cs [jv r, .int .u64 tr, jd x, .bool ok, .bool kf] w K := by
 rw [M.ca.fcall]
 apply M.ca.calls
 unfold M.ca
 refine St.pm (St.jc w) fun b1 w1 S1 => ?_
 refine St.pm S1 fun b2 w2 S2 => ?_
 simp
 have S3 := wz S2
 generalize w2.heap.size = b3 at *
 generalize w2.alloc _ = w3 at *
 obtain ⟨_, _, xl⟩ := qw S3.swap
 rw [xl]
 unfold jd
 simp
 have S4 := wz S3
 generalize w3.heap.size = b4 at *
 generalize w3.alloc _ = w4 at *
 refine ach (q := pk0 5 tr x gt 0 ok) S4 rfl (qv _ _ _ _ _ _) fun w5 S5 => ?_
 have fin : ∀ w6 (k : Int) (s : Bal) (v : Int), k = (if kf = true then 7 else 5) → s = (if ok = false then r.p else if kf = false then r.t else gt) → v = (if ok = true ∧ kf = false then r.v else 0) → St w w6 (ga b4 (pkC (pk0 k tr x s v ok)).toArray T.a :: ga b3 (pkC pkZ).toArray T.a :: ga b2 #[.int .u64 x.n, .int .u64 x.gh] T.c :: ga b1 (rgC r) T.i :: []) →
   ldN P 11 b4 0 w6 fun t w => stT P T.a (.pointer (some ⟨b3, 0, none⟩)) t w fun _ w => lc P T.a (.pointer (some ⟨b3, 0, none⟩)) w fun v w' => w' = w ∧ K v w := fun w6 k s v ek es ev S6 => by
  rw [sq S6]
  have e : pkA (pk0 k tr x s v ok) = .agg #[.int .i64 k, .int .u64 tr, .int .u64 x.n, .int .u64 x.gh, .int .u64 s.n, .int .u64 s.gh, .int .i64 v, .bool ok, .slice none 0 0, .slice none 0 0, .slice none 0 0] := rfl
  rw [e]
  simp
  refine zm (q := pk0 k tr x s v ok) S6.swap rfl (qv _ _ _ _ _ _) fun w7 S7 => ?_
  subst es ev ek
  exact h w7 S7.fr
 have mid : ∀ w6 (k : Int), k = (if kf = true then 7 else 5) → St w w6 (ga b4 (pkC (pk0 k tr x gt 0 ok)).toArray T.a :: ga b3 (pkC pkZ).toArray T.a :: ga b2 #[.int .u64 x.n, .int .u64 x.gh] T.c :: ga b1 (rgC r) T.i :: []) → M.ca.j0 (.bool ok) (.pointer (some ⟨b1, 0, none⟩)) (.pointer (some ⟨b4, 0, none⟩)) (.bool kf) (.pointer (some ⟨b3, 0, none⟩)) w6 K := fun w6 k ek S6 => by
  obtain ⟨rp, rt, rv, _⟩ := iw S6.up3
  unfold M.ca.j0
  cases ok with
  | false =>
   simp [rp]
   unfold jd
   simp
   refine St.put (cs' := (pkC (pk0 k tr x r.p 0 false)).toArray) (vs := [.int .u64 r.p.n, .int .u64 r.p.gh]) S6 (by simp) (by simp [pkC]) rfl fun w7 S7 => ?_
   exact fin w7 k r.p 0 ek rfl rfl S7
  | true =>
   cases kf with
   | true =>
    simp
    exact fin w6 k gt 0 ek rfl rfl S6
   | false =>
    simp [rt]
    unfold jd
    simp
    refine St.put (cs' := (pkC (pk0 k tr x r.t 0 true)).toArray) (vs := [.int .u64 r.t.n, .int .u64 r.t.gh]) S6 (by simp) (by simp [pkC]) rfl fun w7 S7 => ?_
    obtain ⟨_, _, rv6, _⟩ := iw S7.up3
    simp [rv6]
    refine S7.ue rfl (by simp [pkC]) fun w8 S8 => ?_
    exact fin w8 k r.t r.v ek rfl rfl S8
 cases kf with
 | false =>
  simp
  exact mid w5 5 rfl S5
 | true =>
  simp
  refine S5.ue rfl (by simp [pkC]) fun w6 S6 => ?_
  exact mid w6 7 rfl S6
theorem bfg {w : World} (r : Rg) {K : KV} (h : ∀ w', Fr (fun _ => False) w w' → K (jv r) w') : fj P F.dj [jv r] w K := by
 rw [M.dv.fcall]
 apply M.dv.calls
 unfold M.dv
 refine St.pm (St.jc w) fun b1 w1 S1 => ?_
 simp
 have S2 : St w (w1.alloc (.cells #[.int .u64 0, .int .u64 0, .int .u64 0, .int .u64 0, .int .i64 0] T.i)) (ga w1.heap.size (rgC rg0) T.i :: ga b1 (rgC r) T.g :: []) := tp S1 _
 generalize w1.heap.size = b2 at *
 generalize w1.alloc _ = w2 at *
 obtain ⟨rp, rt, rv, _⟩ := iw S2.swap
 simp [rp, rt, rv]
 unfold jd
 simp
 refine oz (r' := r) S2 fun w3 S3 => ?_
 obtain ⟨_, _, _, rl⟩ := iw S3
 rw [yw, rl]
 exact ⟨rfl, h w3 S3.fr⟩
end
set_option maxRecDepth 100000
open Go.Eng
def rn (l1 l2 : List Spn) : Bool := decide (l1.length = l2.length) && (List.zipWith ut l1 l2).all id
theorem anp {l1 l2 : List Spn} {i : Nat} (h1 : i < l1.length) (h2 : i < l2.length) (h : ut l1[i] l2[i] = false) : rn l1 l2 = false := by
 unfold rn
 have : (List.zipWith ut l1 l2).all id = false := by
  rw [List.all_eq_false]
  refine ⟨ut l1[i] l2[i], ?_, by simp [h]⟩
  rw [List.mem_iff_getElem]
  exact ⟨i, by simp; omega, by simp⟩
 rw [this, Bool.and_false]
theorem aen {l1 l2 : List Spn} (hl : l1.length = l2.length) (h : ∀ j (h1 : j < l1.length) (h2 : j < l2.length), ut l1[j] l2[j] = true) : rn l1 l2 = true := by
 unfold rn
 rw [decide_eq_true hl, Bool.true_and, List.all_eq_true]
 intro x hx
 obtain ⟨j, hj, rfl⟩ := List.getElem_of_mem hx
 simp only [List.length_zipWith] at hj
 rw [List.getElem_zipWith]
 exact h j (by omega) (by omega)
theorem ase (l : List Spn) : rn l l = true := aen rfl fun j _ _ => avz _
theorem asb {w : World} {v1 v2 : Value} {l1 l2 : List Spn} (h1 : SlS w v1 l1) (h2 : SlS w v2 l2) (hn : l1.length ≤ 1000000) {K : KV}
  (h : ∀ w', Fr (fun _ => False) w w' → K (.bool (rn l1 l2)) w') : fj P F.db [v1, v2] w K := by
 rw [M.bq.fcall]
 apply M.bq.calls
 unfold M.bq
 simp only [fm]
 rw [h1.im (by simp), h2.im (by simp)]
 by_cases hne : l1.length = l2.length
 case neg =>
  have hne' : ¬ (l1.length : Int) = (l2.length : Int) := by omega
  have hz : rn l1 l2 = false := by unfold rn; simp [hne]
  rw [hz] at h
  simp [hne']
  exact h w (Fr.refl _ _)
 simp [hne]
 unfold M.bq.j0
 simp only [fm]
 refine ⟨bfw w l1 l2, fun x _ => l1.length - ms x 1, ⟨_, 0, rfl, Nat.zero_le _, fun j _ _ h => by omega, Fr.refl _ _⟩, ?_⟩
 rintro x w1 ⟨a, i, rfl, hin, hpre, hf1⟩
 have g1 : gv [a, .int .i64 (i : Int)] 1 = .int .i64 (i : Int) := rfl
 simp only [g1]
 have hr1 : SlS w1 v1 l1 := h1.fr hf1 fun _ _ _ h => h
 have hr2 : SlS w1 v2 l2 := h2.fr hf1 fun _ _ _ h => h
 rw [hr1.im (by simp)]
 by_cases hlt : i < l1.length
 ·have hlt2 : i < l2.length := by omega
  obtain ⟨b1, o1, c1, rfl, _, _, k1⟩ := hr1.at hlt
  obtain ⟨b2, o2, c2, rfl, _, _, k2⟩ := hr2.at hlt2
  have hw : IntKind.i64.wrap ((i : Int) + 1) = ((i + 1 : Nat) : Int) := by rw [fq (by omega) (by omega)]; rfl
  have d1 : ∀ K, ldN P 8 b1 (o1 + i * 8) (dr w1 1) K = K (tu l1[i]) (dr w1 1) := fun K => ldS (w := dr w1 1) k1 K
  have d2 : ∀ K, ldN P 8 b2 (o2 + i * 8) (dr w1 1) K = K (tu l2[i]) (dr w1 1) := fun K => ldS (w := dr w1 1) k2 K
  simp [hlt]
  unfold M.bq.j3
  simp only [fm, g1]
  cases hs : ut l1[i] l2[i] with
  | true =>
   simp [hlt, hlt2, d1, d2, aly, hs, hw]
   refine ⟨⟨_, i + 1, rfl, by omega, fun j a1 a2 hj => ?_, hf1.dr 1⟩, by simp [ms, gv]; omega⟩
   by_cases hji : j = i
   ·subst hji; exact hs
   ·exact hpre j a1 a2 (by omega)
  | false =>
   rw [anp hlt hlt2 hs] at h
   simp [hlt, hlt2, d1, d2, aly, hs]
   exact h _ (hf1.dr 1)
 ·simp [hlt]
  have := h _ hf1
  rw [aen hne fun j a1 a2 => hpre j a1 a2 (by omega)] at this
  exact this
def kh (p q : Pk) : Bool := decide (p.fu = q.fu) && (decide (p.tr = q.tr) && (decide (p.b = q.b) && (decide (p.il = q.il) && (decide (p.v = q.v) && (p.ok == q.ok)))))
def pz (p q : Pk) (ls ls' : List Spn) (lm lm' : List Mem) (lu lu' : List Int) : Bool := decide (lm = lm') && (decide (lu = lu') && (rn ls ls' && kh p q))
theorem yo.one {w : World} {p : Pk} {ls : List Spn} {lm : List Mem} {lu : List Int} (h : yo w p ls lm lu) : jr p.sv = true ∧ jr p.mv = true ∧ jr p.iv = true := by
 obtain ⟨a1, c1, h1, _⟩ := h.s
 obtain ⟨a2, c2, h2, _⟩ := h.m
 obtain ⟨a3, c3, h3, _⟩ := h.u
 rw [h1, h2, h3]
 exact ⟨rfl, rfl, rfl⟩
theorem nq.sl {w : World} {p : Pk} {ls : List Spn} {lm : List Mem} {lu : List Int} (h : nq w p ls lm lu) : yo w p ls lm lu := ⟨h.s, h.m, h.u⟩
theorem aks {α : Type} {l1 l2 : List α} (hl : l1.length = l2.length) (h : ∀ j (h1 : j < l1.length) (h2 : j < l2.length), l1[j] = l2[j]) : l1 = l2 := List.ext_getElem hl h
def SaM (W : World) (pb qb : Nat) (p q : Pk) (lm lm' : List Mem) : KL := fun x w1 => ∃ (u : Value) (i : Nat), x = [u, .int .i64 (i : Nat)] ∧ i ≤ lm.length ∧ (∀ j (h1 : j < lm.length) (h2 : j < lm'.length), j < i → lm[j] = lm'[j]) ∧ St W w1 (ga qb (pkC q).toArray T.a :: ga pb (pkC p).toArray T.a :: [])
def SaU (W : World) (pb qb : Nat) (p q : Pk) (lu lu' : List Int) : KL := fun x w1 => ∃ (u : Value) (i : Nat), x = [u, .int .i64 (i : Nat)] ∧ i ≤ lu.length ∧ (∀ j (h1 : j < lu.length) (h2 : j < lu'.length), j < i → lu[j] = lu'[j]) ∧ St W w1 (ga qb (pkC q).toArray T.a :: ga pb (pkC p).toArray T.a :: [])
theorem atz (rx ry : Operand) (x y : Mem) (w : World) (K : KV) : fi P .neq T.v rx ry (pu x) (pu y) w K = K (.bool !(decide (x = y))) w := axr rx ry x y w K
theorem agd {w : World} {p q : Pk} {ls ls' : List Spn} {lm lm' : List Mem} {lu lu' : List Int} (hp : nq w p ls lm lu) (hq : nq w q ls' lm' lu') {K : KV}
  (h : ∀ w', Fr (fun _ => False) w w' → K (.bool (pz p q ls ls' lm lm' lu lu')) w') : fj P F.bf [pkA p, pkA q] w K := by
 rw [M.w.fcall]
 apply M.w.calls
 unfold M.w
 refine St.pm (St.jc w) fun pb w1 S1 => ?_
 refine St.pm S1 fun qb w2 S2 => ?_
 have S2' : St w w2 (ga qb (pkC q).toArray T.a :: ga pb (pkC p).toArray T.a :: []) := S2
 have hp2 := hp.fr S2'.fr
 have hq2 := hq.fr S2'.fr
 obtain ⟨q0, q1, q2, q4, q6, q7, q8, q9, q10, _⟩ := ij S2'
 obtain ⟨p0, p1, p2, p4, p6, p7, p8, p9, p10, _⟩ := ij S2'.swap
 have lm1 : ∀ w' K, biT P .len #[T.o] T.b [false] [p.mv] w' K = K (.int .i64 lm.length) w' := fun w' K => hp.m.im (by kernel_rfl) [false]
 have lm2 : ∀ w' K, biT P .len #[T.o] T.b [false] [q.mv] w' K = K (.int .i64 lm'.length) w' := fun w' K => hq.m.im (by kernel_rfl) [false]
 have lu1 : ∀ w' K, biT P .len #[T.f] T.b [false] [p.iv] w' K = K (.int .i64 lu.length) w' := fun w' K => hp.u.im (by kernel_rfl) [false]
 have lu2 : ∀ w' K, biT P .len #[T.f] T.b [false] [q.iv] w' K = K (.int .i64 lu'.length) w' := fun w' K => hq.u.im (by kernel_rfl) [false]
 have no : ∀ w', Fr (fun _ => False) w w' → pz p q ls ls' lm lm' lu lu' = false → K (.bool false) w' := fun w' f e => by
  have := h w' f
  rwa [e] at this
 by_cases hm : lm.length = lm'.length
 case neg =>
  have hm' : ¬ (lm.length : Int) = (lm'.length : Int) := by omega
  simp [p9, q9, lm1, lm2, hm']
  refine no _ S2.fr ?_
  unfold pz
  rw [decide_eq_false fun he => hm (congrArg List.length he)]
  rfl
 by_cases hu : lu.length = lu'.length
 case neg =>
  have hu' : ¬ (lu.length : Int) = (lu'.length : Int) := by omega
  simp [p9, q9, lm1, lm2, hm, p10, q10, lu1, lu2, hu']
  refine no _ S2.fr ?_
  unfold pz
  rw [decide_eq_false (p := lu = lu') fun he => hu (congrArg List.length he)]
  simp
 simp [p9, q9, lm1, lm2, hm, p10, q10, lu1, lu2, hu, p8, q8]
 refine asb hp2.s hq2.s hp.ls fun w3 f3 => ?_
 have S3 := S2'.iq f3
 cases hs : rn ls ls' with
 | false =>
  simp
  refine no _ S3.fr ?_
  unfold pz
  simp [hs]
 | true =>
 simp
 unfold M.w.j0
 refine ⟨SaM w pb qb p q lm lm', fun x _ => lm.length - ms x 1, ⟨_, 0, rfl, Nat.zero_le _, fun j _ _ h => by omega, S3⟩, ?_⟩
 rintro x w4 ⟨u, i, rfl, hi, hpre, S4⟩
 unfold M.w.j2
 obtain ⟨q0, q1, q2, q4, q6, q7, q8, q9, q10, _⟩ := ij S4
 obtain ⟨p0, p1, p2, p4, p6, p7, p8, p9, p10, _⟩ := ij S4.swap
 by_cases hil : i < lm.length
 ·have hil' : (i : Int) < (lm.length : Int) := by omega
  have hil2 : i < lm'.length := by omega
  have hw : IntKind.i64.wrap ((i : Int) + 1) = ((i + 1 : Nat) : Int) := by have := hp.lm; rw [fq (by omega) (by omega)]; rfl
  simp [p9, lm1, hil]
  unfold M.w.j3
  obtain ⟨b1, o1, c1, e1, _, _, k1⟩ := (hp.fr S4.fr).m.at hil
  obtain ⟨b2, o2, c2, e2, _, _, k2⟩ := (hq.fr S4.fr).m.at hil2
  have i1 : ∀ w' K, iaT P T.o p.mv (.int .i64 (i : Nat)) w' K = K (.pointer (some ⟨b1, o1 + i * 3, none⟩)) w' := fun w' K => by rw [e1]; simp [hil]
  have i2 : ∀ w' K, iaT P T.o q.mv (.int .i64 (i : Nat)) w' K = K (.pointer (some ⟨b2, o2 + i * 3, none⟩)) w' := fun w' K => by rw [e2]; simp [hil2]
  have d1 : ∀ K, ldN P 3 b1 (o1 + i * 3) (dr w4 1) K = K (pu lm[i]) (dr w4 1) := fun K => ldM (w := dr w4 1) k1 K
  have d2 : ∀ K, ldN P 3 b2 (o2 + i * 3) (dr w4 1) K = K (pu lm'[i]) (dr w4 1) := fun K => ldM (w := dr w4 1) k2 K
  by_cases he : lm[i] = lm'[i]
  ·simp [p9, q9, i1, i2, d1, d2, atz, he, hw]
   refine ⟨⟨_, i + 1, rfl, by omega, fun j a1 a2 hj => ?_, S4.iq ((Fr.refl _ w4).dr 1)⟩, by simp [ms, gv]; omega⟩
   by_cases hji : j = i
   ·subst hji; exact he
   ·exact hpre j a1 a2 (by omega)
  ·simp [p9, q9, i1, i2, d1, d2, atz, he]
   refine no _ (S4.iq ((Fr.refl _ w4).dr 1)).fr ?_
   unfold pz
   rw [decide_eq_false (p := lm = lm') fun hee => he (by simp [hee])]
   rfl
 have hil' : ¬ (i : Int) < (lm.length : Int) := by omega
 have hme : lm = lm' := aks hm fun j a1 a2 => hpre j a1 a2 (by omega)
 simp [p9, lm1, hil]
 refine ⟨SaU w pb qb p q lu lu', fun x _ => lu.length - ms x 1, ⟨_, 0, rfl, Nat.zero_le _, fun j _ _ h => by omega, S4⟩, ?_⟩
 rintro x w5 ⟨u, i, rfl, hi, hpre2, S5⟩
 unfold M.w.j6
 obtain ⟨q0, q1, q2, q4, q6, q7, q8, q9, q10, _⟩ := ij S5
 obtain ⟨p0, p1, p2, p4, p6, p7, p8, p9, p10, _⟩ := ij S5.swap
 by_cases hil : i < lu.length
 ·have hil' : (i : Int) < (lu.length : Int) := by omega
  have hil2 : i < lu'.length := by omega
  have hw : IntKind.i64.wrap ((i : Int) + 1) = ((i + 1 : Nat) : Int) := by have := hp.lu; rw [fq (by omega) (by omega)]; rfl
  simp [p10, lu1, hil]
  unfold M.w.j7
  obtain ⟨b1, o1, c1, e1, _, k1⟩ := yb (hp.fr S5.fr).u hil
  obtain ⟨b2, o2, c2, e2, _, k2⟩ := yb (hq.fr S5.fr).u hil2
  have i1 : ∀ w' K, iaT P T.f p.iv (.int .i64 (i : Nat)) w' K = K (.pointer (some ⟨b1, o1 + i, none⟩)) w' := fun w' K => by rw [e1]; simp [hil]
  have i2 : ∀ w' K, iaT P T.f q.iv (.int .i64 (i : Nat)) w' K = K (.pointer (some ⟨b2, o2 + i, none⟩)) w' := fun w' K => by rw [e2]; simp [hil2]
  by_cases he : lu[i] = lu'[i]
  ·simp [p10, q10, i1, i2, k1, k2, he, hw]
   refine ⟨⟨_, i + 1, rfl, by omega, fun j a1 a2 hj => ?_, S5.iq ((Fr.refl _ w5).dr 1)⟩, by simp [ms, gv]; omega⟩
   by_cases hji : j = i
   ·subst hji; exact he
   ·exact hpre2 j a1 a2 (by omega)
  ·simp [p10, q10, i1, i2, k1, k2, he]
   refine no _ (S5.iq ((Fr.refl _ w5).dr 1)).fr ?_
   unfold pz
   rw [decide_eq_false (p := lu = lu') fun hee => he (by simp [hee])]
   simp
 have hil' : ¬ (i : Int) < (lu.length : Int) := by omega
 have hue : lu = lu' := aks hu fun j a1 a2 => hpre2 j a1 a2 (by omega)
 simp [p10, lu1, hil]
 unfold M.w.j5
 have fin := h w5 S5.fr
 unfold pz at fin
 rw [decide_eq_true hme, decide_eq_true hue, hs, Bool.true_and, Bool.true_and, Bool.true_and] at fin
 unfold kh at fin
 have hbo : acm P T.ap = true := by kernel_rfl
 by_cases a0 : p.fu = q.fu
 case neg =>
  simp [a0] at fin
  simp [p0, q0, a0]
  exact fin
 by_cases a1 : p.tr = q.tr
 case neg =>
  simp [a1] at fin
  simp [p0, q0, a0, p1, q1, a1]
  exact fin
 by_cases a2 : p.b = q.b
 case neg =>
  simp [a2] at fin
  simp [p0, q0, a0, p1, q1, a1, p2, q2, pp, a2]
  exact fin
 by_cases a3 : p.il = q.il
 case neg =>
  simp [a3] at fin
  simp [p0, q0, a0, p1, q1, a1, p2, q2, pp, a2, p4, q4, a3]
  exact fin
 by_cases a4 : p.v = q.v
 case neg =>
  simp [a4] at fin
  simp [p0, q0, a0, p1, q1, a1, p2, q2, pp, a2, p4, q4, a3, p6, q6, a4]
  exact fin
 simp [a0, a1, a2, a3, a4] at fin
 simp [p0, q0, a0, p1, q1, a1, p2, q2, pp, a2, p4, q4, a3, p6, q6, a4, p7, q7, aez hbo]
 exact fin
def jx (p : Pk) : Pk := ⟨p.fu, if p.fu = 3 then 0 else p.tr, if p.fu = 4 ∨ p.fu = 5 ∨ p.fu = 6 ∨ p.fu = 7 ∨ p.fu = 9 then p.b else gt, if p.fu = 5 ∨ p.fu = 7 then p.il else gt, if p.fu = 5 ∨ p.fu = 6 ∨ p.fu = 8 then p.v else 0, if p.fu = 5 ∨ p.fu = 7 then p.ok else false,
 if p.fu = 1 ∨ p.fu = 2 ∨ p.fu = 9 then p.sv else .slice none 0 0, if p.fu = 3 then p.mv else .slice none 0 0, if p.fu = 10 then p.iv else .slice none 0 0⟩
def om (p : Pk) (l : List Spn) : List Spn := if p.fu = 1 ∨ p.fu = 2 ∨ p.fu = 9 then l else []
def ou (p : Pk) (l : List Mem) : List Mem := if p.fu = 3 then l else []
def og (p : Pk) (l : List Int) : List Int := if p.fu = 10 then l else []
theorem asu {w : World} {p : Pk} {ls : List Spn} {lm : List Mem} {lu : List Int} (h : nq w p ls lm lu) : nq w (jx p) (om p ls) (ou p lm) (og p lu) := by
 refine ⟨?_, ?_, ?_, ?_, ?_, ?_⟩
 ·unfold jx om; simp only; split
  ·exact h.s
  ·exact Sl.nil
 ·unfold jx ou; simp only; split
  ·exact h.m
  ·exact Sl.nil
 ·unfold jx og; simp only; split
  ·exact h.u
  ·exact Sl.nil
 ·unfold om; split
  ·exact h.ls
  ·simp
 ·unfold ou; split
  ·exact h.lm
  ·simp
 ·unfold og; split
  ·exact h.lu
  ·simp
theorem adr (b : Nat) (q : Pk) (w : World) (K : KV) : stT P T.a (.pointer (some ⟨b, 0, none⟩)) (pkA q) w K = stN P b 0 (pkC q) w K := by simp [pkA, pkC]
theorem bed {q : Pk} (h1 : jr q.sv = true) (h2 : jr q.mv = true) (h3 : jr q.iv = true) : ∀ u ∈ pkC q, jr u = true := fun u hu => by
 simp only [pkC, List.mem_cons, List.not_mem_nil, or_false] at hu
 rcases hu with rfl | rfl | rfl | rfl | rfl | rfl | rfl | rfl | rfl | rfl | rfl <;> first | rfl | assumption
theorem nq.cells {w : World} {p : Pk} {ls : List Spn} {lm : List Mem} {lu : List Int} (h : nq w p ls lm lu) : ∀ u ∈ pkC p, jr u = true := bed h.sl.one.1 h.sl.one.2.1 h.sl.one.2.2
theorem bez {w : World} {p : Pk} {ls : List Spn} {lm : List Mem} {lu : List Int} (hp : nq w p ls lm lu) {K : KV} (h : ∀ w', Fr (fun _ => False) w w' → K (pkA (jx p)) w') : fj P F.dl [pkA p] w K := by
 rw [M.ao.fcall]
 apply M.ao.calls
 unfold M.ao
 refine St.pm (St.jc w) fun b1 w1 S1 => ?_
 have S1' : St w w1 (ga b1 (pkC p).toArray T.a :: []) := S1
 obtain ⟨c0, c1, c2, c4, c6, c7, c8, c9, c10, _⟩ := ij S1'
 simp
 have S2 := wz S1'
 generalize w1.heap.size = b2 at *
 generalize w1.alloc _ = w2 at *
 obtain ⟨c0, c1, c2, c4, c6, c7, c8, c9, c10, _⟩ := ij S2.swap
 simp [c0, c1]
 have S3 := wz S2
 generalize w2.heap.size = b3 at *
 generalize w2.alloc _ = w3 at *
 refine ach (q := pk0 p.fu p.tr gt gt 0 false) S3 rfl (qv _ _ _ _ _ _) fun w4 S4 => ?_
 obtain ⟨o1, o2, o3⟩ := hp.sl.one
 obtain ⟨⟨a1, k1, h1⟩, ⟨a2, k2, h2⟩, a3, k3, h3⟩ := hp.one
 have fin : ∀ w' q, jx p = q → St w w' (ga b3 (pkC q).toArray T.a :: ga b2 (pkC pkZ).toArray T.a :: ga b1 (pkC p).toArray T.a :: []) →
   ldN P 11 b3 0 w' fun t w => stT P T.a (.pointer (some ⟨b2, 0, none⟩)) t w fun _ w => lc P T.a (.pointer (some ⟨b2, 0, none⟩)) w fun v w' => w' = w ∧ K v w := fun w' q e S' => by
  rw [sq S', adr]
  refine zm S'.swap rfl ?_ fun w7 S7 => ?_
  ·rw [← e]
   exact (asu hp).cells
  ·have := h w7 S7.fr
   rwa [e] at this
 obtain ⟨c0, c1, c2, c4, c6, c7, c8, c9, c10, _⟩ := ij S4.up2
 simp only [jd] at c2 c4
 by_cases q1 : p.fu = 1
 ·have e : jx p = ⟨p.fu, p.tr, gt, gt, 0, false, (.slice a1 ls.length k1), gq, gq⟩ := by unfold jx; simp [q1, h1]
  rw [h1] at c8
  rw [h2] at c9
  rw [h3] at c10
  simp [c0, q1]
  unfold M.ao.j1
  simp [c2, c4, c6, c7, c8, c9, c10]
  refine S4.ue rfl (by simp [pkC]) fun w5 S5 => ?_
  have S5 : St w w5 (ga b3 (pkC ⟨p.fu, p.tr, gt, gt, 0, false, (.slice a1 ls.length k1), gq, gq⟩).toArray T.a :: _) := S5
  obtain ⟨d0, d1, d2, d4, d6, d7, d8, d9, d10, _⟩ := ij S5.up2
  simp only [jd] at d2 d4
  rw [h1] at d8
  rw [h2] at d9
  rw [h3] at d10
  exact fin _ _ e S5
 by_cases q2 : p.fu = 2
 ·have e : jx p = ⟨p.fu, p.tr, gt, gt, 0, false, (.slice a1 ls.length k1), gq, gq⟩ := by unfold jx; simp [q2, h1]
  rw [h1] at c8
  rw [h2] at c9
  rw [h3] at c10
  simp [c0, q2]
  unfold M.ao.j1
  simp [c2, c4, c6, c7, c8, c9, c10]
  refine S4.ue rfl (by simp [pkC]) fun w5 S5 => ?_
  have S5 : St w w5 (ga b3 (pkC ⟨p.fu, p.tr, gt, gt, 0, false, (.slice a1 ls.length k1), gq, gq⟩).toArray T.a :: _) := S5
  obtain ⟨d0, d1, d2, d4, d6, d7, d8, d9, d10, _⟩ := ij S5.up2
  simp only [jd] at d2 d4
  rw [h1] at d8
  rw [h2] at d9
  rw [h3] at d10
  exact fin _ _ e S5
 by_cases q3 : p.fu = 3
 ·have e : jx p = ⟨p.fu, 0, gt, gt, 0, false, gq, (.slice a2 lm.length k2), gq⟩ := by unfold jx; simp [q3, h2]
  rw [h1] at c8
  rw [h2] at c9
  rw [h3] at c10
  simp [c0, q3]
  unfold M.ao.j1
  simp [c2, c4, c6, c7, c8, c9, c10]
  refine S4.ue rfl (by simp [pkC]) fun w5 S5 => ?_
  have S5 : St w w5 (ga b3 (pkC ⟨p.fu, 0, gt, gt, 0, false, gq, gq, gq⟩).toArray T.a :: _) := S5
  obtain ⟨d0, d1, d2, d4, d6, d7, d8, d9, d10, _⟩ := ij S5.up2
  simp only [jd] at d2 d4
  rw [h1] at d8
  rw [h2] at d9
  rw [h3] at d10
  simp [d2, d4, d6, d7, d8, d9, d10]
  refine S5.ue rfl (by simp [pkC]) fun w6 S6 => ?_
  have S6 : St w w6 (ga b3 (pkC ⟨p.fu, 0, gt, gt, 0, false, gq, (.slice a2 lm.length k2), gq⟩).toArray T.a :: _) := S6
  obtain ⟨d0, d1, d2, d4, d6, d7, d8, d9, d10, _⟩ := ij S6.up2
  simp only [jd] at d2 d4
  rw [h1] at d8
  rw [h2] at d9
  rw [h3] at d10
  exact fin _ _ e S6
 by_cases q4 : p.fu = 4
 ·have e : jx p = ⟨p.fu, p.tr, p.b, gt, 0, false, gq, gq, gq⟩ := by unfold jx; simp [q4]
  rw [h1] at c8
  rw [h2] at c9
  rw [h3] at c10
  simp [c0, q4]
  unfold M.ao.j1
  simp [c2, c4, c6, c7, c8, c9, c10]
  refine St.put (cs' := (pkC ⟨p.fu, p.tr, p.b, gt, 0, false, gq, gq, gq⟩).toArray) (vs := [.int .u64 p.b.n, .int .u64 p.b.gh]) S4 (by simp) (by simp [pkC]) rfl fun w5 S5 => ?_
  obtain ⟨d0, d1, d2, d4, d6, d7, d8, d9, d10, _⟩ := ij S5.up2
  simp only [jd] at d2 d4
  rw [h1] at d8
  rw [h2] at d9
  rw [h3] at d10
  exact fin _ _ e S5
 by_cases q5 : p.fu = 5
 ·have e : jx p = ⟨p.fu, p.tr, p.b, p.il, p.v, p.ok, gq, gq, gq⟩ := by unfold jx; simp [q5]
  have S4 := S4.iq ((Fr.refl _ w4).dr 1)
  obtain ⟨d0, d1, d2, d4, d6, d7, d8, d9, d10, _⟩ := ij S4.up2
  simp only [me, jd] at d2 d4 d6 d7 d8
  rw [h1] at d8
  simp [c0, q5]
  unfold M.ao.j1
  simp [d2, d4, d6, d7, d8]
  refine St.put (cs' := (pkC ⟨p.fu, p.tr, p.b, gt, 0, false, gq, gq, gq⟩).toArray) (vs := [.int .u64 p.b.n, .int .u64 p.b.gh]) S4 (by simp) (by simp [pkC]) rfl fun w5 S5 => ?_
  obtain ⟨d0, d1, d2, d4, d6, d7, d8, d9, d10, _⟩ := ij S5.up2
  simp only [jd] at d2 d4
  rw [h1] at d8
  rw [h2] at d9
  rw [h3] at d10
  simp [d2, d4, d6, d7, d8, d9, d10]
  refine S5.ue rfl (by simp [pkC]) fun w6 S6 => ?_
  have S6 : St w w6 (ga b3 (pkC ⟨p.fu, p.tr, p.b, gt, 0, p.ok, gq, gq, gq⟩).toArray T.a :: _) := S6
  obtain ⟨d0, d1, d2, d4, d6, d7, d8, d9, d10, _⟩ := ij S6.up2
  simp only [jd] at d2 d4
  rw [h1] at d8
  rw [h2] at d9
  rw [h3] at d10
  simp [d2, d4, d6, d7, d8, d9, d10]
  refine St.put (cs' := (pkC ⟨p.fu, p.tr, p.b, p.il, 0, p.ok, gq, gq, gq⟩).toArray) (vs := [.int .u64 p.il.n, .int .u64 p.il.gh]) S6 (by simp) (by simp [pkC]) rfl fun w7 S7 => ?_
  obtain ⟨d0, d1, d2, d4, d6, d7, d8, d9, d10, _⟩ := ij S7.up2
  simp only [jd] at d2 d4
  rw [h1] at d8
  rw [h2] at d9
  rw [h3] at d10
  simp [d2, d4, d6, d7, d8, d9, d10]
  refine S7.ue rfl (by simp [pkC]) fun w8 S8 => ?_
  have S8 : St w w8 (ga b3 (pkC ⟨p.fu, p.tr, p.b, p.il, p.v, p.ok, gq, gq, gq⟩).toArray T.a :: _) := S8
  obtain ⟨d0, d1, d2, d4, d6, d7, d8, d9, d10, _⟩ := ij S8.up2
  simp only [jd] at d2 d4
  rw [h1] at d8
  rw [h2] at d9
  rw [h3] at d10
  exact fin _ _ e S8
 by_cases q6 : p.fu = 6
 ·have e : jx p = ⟨p.fu, p.tr, p.b, gt, p.v, false, gq, gq, gq⟩ := by unfold jx; simp [q6]
  have S4 := S4.iq ((Fr.refl _ w4).dr 1)
  obtain ⟨d0, d1, d2, d4, d6, d7, d8, d9, d10, _⟩ := ij S4.up2
  simp only [me, jd] at d2 d4 d6 d7 d8
  rw [h1] at d8
  simp [c0, q6]
  unfold M.ao.j1
  simp [d2, d4, d6, d7, d8]
  refine St.put (cs' := (pkC ⟨p.fu, p.tr, p.b, gt, 0, false, gq, gq, gq⟩).toArray) (vs := [.int .u64 p.b.n, .int .u64 p.b.gh]) S4 (by simp) (by simp [pkC]) rfl fun w5 S5 => ?_
  obtain ⟨d0, d1, d2, d4, d6, d7, d8, d9, d10, _⟩ := ij S5.up2
  simp only [jd] at d2 d4
  rw [h1] at d8
  rw [h2] at d9
  rw [h3] at d10
  simp [d2, d4, d6, d7, d8, d9, d10]
  refine S5.ue rfl (by simp [pkC]) fun w6 S6 => ?_
  have S6 : St w w6 (ga b3 (pkC ⟨p.fu, p.tr, p.b, gt, p.v, false, gq, gq, gq⟩).toArray T.a :: _) := S6
  obtain ⟨d0, d1, d2, d4, d6, d7, d8, d9, d10, _⟩ := ij S6.up2
  simp only [jd] at d2 d4
  rw [h1] at d8
  rw [h2] at d9
  rw [h3] at d10
  exact fin _ _ e S6
 by_cases q7 : p.fu = 7
 ·have e : jx p = ⟨p.fu, p.tr, p.b, p.il, 0, p.ok, gq, gq, gq⟩ := by unfold jx; simp [q7]
  have S4 := S4.iq ((Fr.refl _ w4).dr 1)
  obtain ⟨d0, d1, d2, d4, d6, d7, d8, d9, d10, _⟩ := ij S4.up2
  simp only [me, jd] at d2 d4 d6 d7 d8
  rw [h1] at d8
  simp [c0, q7]
  unfold M.ao.j1
  simp [d2, d4, d6, d7, d8]
  refine St.put (cs' := (pkC ⟨p.fu, p.tr, p.b, gt, 0, false, gq, gq, gq⟩).toArray) (vs := [.int .u64 p.b.n, .int .u64 p.b.gh]) S4 (by simp) (by simp [pkC]) rfl fun w5 S5 => ?_
  obtain ⟨d0, d1, d2, d4, d6, d7, d8, d9, d10, _⟩ := ij S5.up2
  simp only [jd] at d2 d4
  rw [h1] at d8
  rw [h2] at d9
  rw [h3] at d10
  simp [d2, d4, d6, d7, d8, d9, d10]
  refine S5.ue rfl (by simp [pkC]) fun w6 S6 => ?_
  have S6 : St w w6 (ga b3 (pkC ⟨p.fu, p.tr, p.b, gt, 0, p.ok, gq, gq, gq⟩).toArray T.a :: _) := S6
  obtain ⟨d0, d1, d2, d4, d6, d7, d8, d9, d10, _⟩ := ij S6.up2
  simp only [jd] at d2 d4
  rw [h1] at d8
  rw [h2] at d9
  rw [h3] at d10
  simp [d2, d4, d6, d7, d8, d9, d10]
  refine St.put (cs' := (pkC ⟨p.fu, p.tr, p.b, p.il, 0, p.ok, gq, gq, gq⟩).toArray) (vs := [.int .u64 p.il.n, .int .u64 p.il.gh]) S6 (by simp) (by simp [pkC]) rfl fun w7 S7 => ?_
  obtain ⟨d0, d1, d2, d4, d6, d7, d8, d9, d10, _⟩ := ij S7.up2
  simp only [jd] at d2 d4
  rw [h1] at d8
  rw [h2] at d9
  rw [h3] at d10
  exact fin _ _ e S7
 by_cases q8 : p.fu = 8
 ·have e : jx p = ⟨p.fu, p.tr, gt, gt, p.v, false, gq, gq, gq⟩ := by unfold jx; simp [q8]
  rw [h1] at c8
  rw [h2] at c9
  rw [h3] at c10
  simp [c0, q8]
  unfold M.ao.j1
  simp [c2, c4, c6, c7, c8, c9, c10]
  refine S4.ue rfl (by simp [pkC]) fun w5 S5 => ?_
  have S5 : St w w5 (ga b3 (pkC ⟨p.fu, p.tr, gt, gt, p.v, false, gq, gq, gq⟩).toArray T.a :: _) := S5
  obtain ⟨d0, d1, d2, d4, d6, d7, d8, d9, d10, _⟩ := ij S5.up2
  simp only [jd] at d2 d4
  rw [h1] at d8
  rw [h2] at d9
  rw [h3] at d10
  exact fin _ _ e S5
 by_cases q9 : p.fu = 9
 ·have e : jx p = ⟨p.fu, p.tr, p.b, gt, 0, false, (.slice a1 ls.length k1), gq, gq⟩ := by unfold jx; simp [q9, h1]
  have S4 := S4.iq ((Fr.refl _ w4).dr 1)
  obtain ⟨d0, d1, d2, d4, d6, d7, d8, d9, d10, _⟩ := ij S4.up2
  simp only [me, jd] at d2 d4 d6 d7 d8
  rw [h1] at d8
  simp [c0, q9]
  unfold M.ao.j1
  simp [d2, d4, d6, d7, d8]
  refine St.put (cs' := (pkC ⟨p.fu, p.tr, p.b, gt, 0, false, gq, gq, gq⟩).toArray) (vs := [.int .u64 p.b.n, .int .u64 p.b.gh]) S4 (by simp) (by simp [pkC]) rfl fun w5 S5 => ?_
  obtain ⟨d0, d1, d2, d4, d6, d7, d8, d9, d10, _⟩ := ij S5.up2
  simp only [jd] at d2 d4
  rw [h1] at d8
  rw [h2] at d9
  rw [h3] at d10
  simp [d2, d4, d6, d7, d8, d9, d10]
  refine S5.ue rfl (by simp [pkC]) fun w6 S6 => ?_
  have S6 : St w w6 (ga b3 (pkC ⟨p.fu, p.tr, p.b, gt, 0, false, (.slice a1 ls.length k1), gq, gq⟩).toArray T.a :: _) := S6
  obtain ⟨d0, d1, d2, d4, d6, d7, d8, d9, d10, _⟩ := ij S6.up2
  simp only [jd] at d2 d4
  rw [h1] at d8
  rw [h2] at d9
  rw [h3] at d10
  exact fin _ _ e S6
 by_cases q10 : p.fu = 10
 ·have e : jx p = ⟨p.fu, p.tr, gt, gt, 0, false, gq, gq, (.slice a3 lu.length k3)⟩ := by unfold jx; simp [q10, h3]
  rw [h1] at c8
  rw [h2] at c9
  rw [h3] at c10
  simp [c0, q10]
  unfold M.ao.j1
  simp [c2, c4, c6, c7, c8, c9, c10]
  refine S4.ue rfl (by simp [pkC]) fun w5 S5 => ?_
  have S5 : St w w5 (ga b3 (pkC ⟨p.fu, p.tr, gt, gt, 0, false, gq, gq, (.slice a3 lu.length k3)⟩).toArray T.a :: _) := S5
  obtain ⟨d0, d1, d2, d4, d6, d7, d8, d9, d10, _⟩ := ij S5.up2
  simp only [jd] at d2 d4
  rw [h1] at d8
  rw [h2] at d9
  rw [h3] at d10
  exact fin _ _ e S5
 have e : jx p = ⟨p.fu, p.tr, gt, gt, 0, false, gq, gq, gq⟩ := by unfold jx; simp [q1, q2, q3, q4, q5, q6, q7, q8, q9, q10]
 simp [c0, q1, q2]
 unfold M.ao.j1
 simp [q3, q4, q5, q6, q7, q8, q9, q10]
 exact fin _ _ e S4
def bia (W : World) (l1 l2 : List Spn) : KL := fun x w1 => ∃ (u0 u1 : Value) (i : Nat), x = [u0, u1, .int .i64 (i : Nat)] ∧ i ≤ l1.length ∧ (∀ j (h1 : j < l1.length) (h2 : j < l2.length), j < i → ut l1[j] l2[j] = true) ∧ Fr (fun _ => False) W w1
def bin (W : World) (l1 l2 : List Int) : KL := fun x w1 => ∃ (u0 u1 : Value) (i : Nat), x = [u0, u1, .int .i64 (i : Nat)] ∧ i ≤ l1.length ∧ (∀ j (h1 : j < l1.length) (h2 : j < l2.length), j < i → l1[j] = l2[j]) ∧ Fr (fun _ => False) W w1
theorem awj {w : World} {v1 v2 : Value} {l1 l2 : List Spn} (s1 : SlS w v1 l1) (s2 : SlS w v2 l2) (hlen : l1.length ≤ 1000000) {K : KV} (h : ∀ w', Fr (fun _ => False) w w' → K (.bool (rn l1 l2)) w') : fj P F.au [v1, v2] w K := by
 rw [M.y.fcall]
 apply M.y.calls
 unfold M.y
 simp only [fm]
 rw [s1.im (by kernel_rfl), s2.im (by kernel_rfl)]
 by_cases hne : l1.length = l2.length
 ·simp [hne]
  unfold M.y.j0
  simp only [fm]
  rw [s1.im (by kernel_rfl)]
  refine ⟨bia w l1 l2, fun x _ => l1.length - ms x 2, ⟨_, _, 0, rfl, Nat.zero_le _, fun j _ _ h => by omega, Fr.refl _ _⟩, ?_⟩
  rintro x w1 ⟨u0, u1, i, rfl, hi, hpre, f1⟩
  by_cases hil : i < l1.length
  ·have hili : (i : Int) < (l1.length : Int) := by omega
   obtain ⟨b1, o1, cap1, hv1, _, _, e1⟩ := (s1.fr f1 fun _ _ _ h => h : SlS w1 v1 l1).at hil
   obtain ⟨b2, o2, cap2, hv2, _, _, e2⟩ := (s2.fr f1 fun _ _ _ h => h : SlS w1 v2 l2).at (show i < l2.length by omega)
   have hl2i : i < l2.length := by omega
   have q1 : ∀ w' K, iaT P T.n v1 (.int .i64 (i : Nat)) w' K = K (.pointer (some ⟨b1, o1 + i * 8, none⟩)) w' := fun w' K => by rw [hv1]; simp [hil]
   have q2 : ∀ w' K, iaT P T.n v2 (.int .i64 (i : Nat)) w' K = K (.pointer (some ⟨b2, o2 + i * 8, none⟩)) w' := fun w' K => by rw [hv2]; simp [hl2i]
   have g1 : ∀ K, ldN P 8 b1 (o1 + i * 8) (dr w1 1) K = K (tu l1[i]) (dr w1 1) := fun K => ldS (fun k v hk => by rw [me]; exact e1 k v hk) K
   have g2 : ∀ K, ldN P 8 b2 (o2 + i * 8) (dr w1 1) K = K (tu l2[i]) (dr w1 1) := fun K => ldS (fun k v hk => by rw [me]; exact e2 k v hk) K
   have hw : IntKind.i64.wrap ((i : Int) + 1) = ((i + 1 : Nat) : Int) := by rw [fq (by omega) (by omega)]; omega
   simp [hili]
   unfold M.y.j3
   simp [q1, q2, g1, g2, aly]
   cases hs : ut l1[i] l2[i] with
   | true =>
    simp
    rw [hw]
    refine ⟨⟨_, _, i + 1, rfl, hil, fun j a1 a2 hj => ?_, f1.dr 1⟩, by simp [ms, gv]; omega⟩
    by_cases hji : j = i
    ·subst hji; exact hs
    ·exact hpre j a1 a2 (by omega)
   | false =>
    simp
    have := h _ (f1.dr 1)
    rw [anp hil hl2i hs] at this
    exact this
  ·have hili : ¬ (i : Int) < (l1.length : Int) := by omega
   simp [hili]
   have := h w1 f1
   rw [aen hne fun j a1 a2 => hpre j a1 a2 (by omega)] at this
   exact this
 ·have hni : ¬ (l1.length : Int) = (l2.length : Int) := by omega
  simp [hni]
  have := h w (Fr.refl _ _)
  have hz : rn l1 l2 = false := by unfold rn; simp [hne]
  rw [hz] at this
  exact this
theorem awh {w : World} {v1 v2 : Value} {l1 l2 : List Int} (s1 : SlU w v1 l1) (s2 : SlU w v2 l2) (hlen : l1.length ≤ 1000000) {K : KV} (h : ∀ w', Fr (fun _ => False) w w' → K (.bool (decide (l1 = l2))) w') : fj P F.bd [v1, v2] w K := by
 rw [M.aj.fcall]
 apply M.aj.calls
 unfold M.aj
 simp only [fm]
 rw [s1.im (by kernel_rfl), s2.im (by kernel_rfl)]
 by_cases hne : l1.length = l2.length
 ·simp [hne]
  unfold M.aj.j0
  simp only [fm]
  rw [s1.im (by kernel_rfl)]
  refine ⟨bin w l1 l2, fun x _ => l1.length - ms x 2, ⟨_, _, 0, rfl, Nat.zero_le _, fun j _ _ h => by omega, Fr.refl _ _⟩, ?_⟩
  rintro x w1 ⟨u0, u1, i, rfl, hi, hpre, f1⟩
  by_cases hil : i < l1.length
  ·have hili : (i : Int) < (l1.length : Int) := by omega
   have hl2i : i < l2.length := by omega
   obtain ⟨b1, o1, cap1, hv1, _, e1⟩ := yb (s1.fr f1 fun _ _ _ h => h : SlU w1 v1 l1) hil
   obtain ⟨b2, o2, cap2, hv2, _, e2⟩ := yb (s2.fr f1 fun _ _ _ h => h : SlU w1 v2 l2) hl2i
   have q1 : ∀ w' K, iaT P T.f v1 (.int .i64 (i : Nat)) w' K = K (.pointer (some ⟨b1, o1 + i, none⟩)) w' := fun w' K => by rw [hv1]; simp [hil]
   have q2 : ∀ w' K, iaT P T.f v2 (.int .i64 (i : Nat)) w' K = K (.pointer (some ⟨b2, o2 + i, none⟩)) w' := fun w' K => by rw [hv2]; simp [hl2i]
   have hw : IntKind.i64.wrap ((i : Int) + 1) = ((i + 1 : Nat) : Int) := by rw [fq (by omega) (by omega)]; omega
   simp [hili]
   unfold M.aj.j3
   simp [q1, q2, e1, e2]
   by_cases hs : l1[i] = l2[i]
   ·simp [hs]
    rw [hw]
    refine ⟨⟨_, _, i + 1, rfl, hil, fun j a1 a2 hj => ?_, f1.dr 1⟩, by simp [ms, gv]; omega⟩
    by_cases hji : j = i
    ·subst hji; exact hs
    ·exact hpre j a1 a2 (by omega)
   ·simp [hs]
    have := h _ (f1.dr 1)
    rw [decide_eq_false fun he => hs (by simp [he])] at this
    exact this
  ·have hili : ¬ (i : Int) < (l1.length : Int) := by omega
   simp [hili]
   have := h w1 f1
   rw [decide_eq_true (aks hne fun j a1 a2 => hpre j a1 a2 (by omega))] at this
   exact this
 ·have hni : ¬ (l1.length : Int) = (l2.length : Int) := by omega
  simp [hni]
  have := h w (Fr.refl _ _)
  rw [decide_eq_false fun he => hne (congrArg List.length he)] at this
  exact this
theorem azu {w : World} {p q : Pk} {ls ls' : List Spn} {lm lm' : List Mem} {lu lu' : List Int} (hp : nq w p ls lm lu) (hq : nq w q ls' lm' lu') {K : KV}
  (h : ∀ w', Fr (fun _ => False) w w' → K (.bool (pz p q ls ls' lm lm' lu lu')) w') : fj P F.ek [pkA p, pkA q] w K := by
 rw [M.ek.fcall]
 apply M.ek.calls
 unfold M.ek
 rw [aqx hp, aqx (hq.fr ((Fr.refl _ w).alloc _))]
 have S1 : St w (w.alloc (.cells (pkC p).toArray T.a)) (ga w.heap.size (pkC p).toArray T.a :: []) := (St.jc w).add ((Fr.refl _ w).alloc _) (B := fun x => x = w.heap.size) ⟨by rw [gj, if_pos rfl], rfl⟩ fun x hx => by subst hx; rw [iz]; omega
 generalize w.alloc (.cells (pkC p).toArray T.a) = w1 at *
 have S2 : St w (w1.alloc (.cells (pkC q).toArray T.a)) (ga w1.heap.size (pkC q).toArray T.a :: _) := S1.add ((Fr.refl _ w1).alloc _) (B := fun x => x = w1.heap.size) ⟨by rw [gj, if_pos rfl], rfl⟩ fun x hx => by subst hx; rw [iz]; omega
 generalize w1.alloc (.cells (pkC q).toArray T.a) = w2 at *
 generalize w.heap.size = pb at *
 generalize w1.heap.size = qb at *
 obtain ⟨q0, q1, q2, q4, q6, q7, q8, q9, q10, _⟩ := ij S2
 obtain ⟨p0, p1, p2, p4, p6, p7, p8, p9, p10, _⟩ := ij S2.swap
 have hbo : acm P T.ap = true := by kernel_rfl
 have no : ∀ bb : Bool, bb = false → (kh p q = false) → K (.bool bb) w2 := fun bb hb hl => by
  subst hb
  have := h w2 S2.fr
  unfold pz at this
  rw [hl, Bool.and_false, Bool.and_false, Bool.and_false] at this
  exact this
 by_cases a0 : p.fu = q.fu
 case neg =>
  simp [p0, q0, a0]
  exact no false rfl (by simp [kh, a0])
 by_cases a1 : p.tr = q.tr
 case neg =>
  simp [p0, q0, a0, p1, q1, a1]
  exact no false rfl (by simp [kh, a1])
 by_cases a2 : p.b = q.b
 case neg =>
  simp [p0, q0, a0, p1, q1, a1, p2, q2, pp, a2]
  exact no false rfl (by simp [kh, a2])
 by_cases a3 : p.il = q.il
 case neg =>
  simp [p0, q0, a0, p1, q1, a1, p2, q2, pp, a2, p4, q4, a3]
  exact no false rfl (by simp [kh, a3])
 by_cases a4 : p.v = q.v
 case neg =>
  simp [p0, q0, a0, p1, q1, a1, p2, q2, pp, a2, p4, q4, a3, p6, q6, a4]
  exact no false rfl (by simp [kh, a4])
 by_cases a5 : p.ok = q.ok
 case neg =>
  have a5' : (p.ok == q.ok) = false := by simpa using a5
  simp [p0, q0, a0, p1, q1, a1, p2, q2, pp, a2, p4, q4, a3, p6, q6, a4, p7, q7, aez hbo, a5']
  exact no false rfl (by simp [kh, a5])
 obtain ⟨⟨sa, sc, es⟩, ⟨ma, mc, em⟩, ua, uc, eu⟩ := hp.one
 obtain ⟨⟨sa', sc', es'⟩, ⟨ma', mc', em'⟩, ua', uc', eu'⟩ := hq.one
 simp [p0, q0, a0, p1, q1, a1, p2, q2, pp, a2, p4, q4, a3, p6, q6, a4, p7, q7, aez hbo, a5, p8, q8]
 have hp2 := hp.fr S2.fr
 have hq2 := hq.fr S2.fr
 have fb : kh p q = true := by simp [kh, a0, a1, a2, a3, a4, a5]
 have fin := h
 unfold pz at fin
 rw [fb] at fin
 refine awj hp2.s hq2.s hp.ls fun w3 f3 => ?_
 have S3 := S2.iq f3
 obtain ⟨_, _, _, _, _, _, _, q9, _, _⟩ := ij S3
 obtain ⟨_, _, _, _, _, _, _, p9, _, _⟩ := ij S3.swap
 have hp3 := hp.fr S3.fr
 have hq3 := hq.fr S3.fr
 cases hb1 : rn ls ls' with
 | false =>
  simp
  have := fin w3 S3.fr
  rw [hb1] at this
  simpa using this
 | true =>
 rw [hb1] at fin
 simp [p9, q9]
 refine axw hp3.m hq3.m hp.lm fun w4 f4 => ?_
 have S4 := S3.iq f4
 obtain ⟨_, _, _, _, _, _, _, _, q10, _⟩ := ij S4
 obtain ⟨_, _, _, _, _, _, _, _, p10, _⟩ := ij S4.swap
 have hp4 := hp.fr S4.fr
 have hq4 := hq.fr S4.fr
 by_cases hm : lm = lm'
 case neg =>
  simp [hm]
  have := fin w4 S4.fr
  simpa [hm] using this
 simp [hm, p10, q10]
 refine awh hp4.u hq4.u hp.lu fun w5 f5 => ?_
 have := fin w5 (S4.iq f5).fr
 simpa [hm] using this
def byt (s : ByteArray) (k : Nat) : Nat := (s.get! k).toNat
theorem ayp (s : ByteArray) {i : Nat} (h : i < s.size) {k : IntKind} (w : World) (K : KV) : ixT P T.al (.string s) (.int k (i : Int)) w K = K (.int .u8 (byt s i)) w := by
 have hu : P.underlying T.al = some .string := wk amj
 have hg : s[i]? = some (s.get! i) := by
  rw [getElem?_pos s i h]
  have e : s.get! i = s[i]'h := by
   simp [ByteArray.get!, getElem!_pos, h]
   rfl
  rw [e]
 simp [ixT, ip, Instr.index, asIntOf, Sem.run_bind, ii hu, Result.andThen, Sem.run_pure, hg, byt]
theorem bge {s d : TypeId} {ks k2 : IntKind} (hs : P.underlying s = some (.int ks)) (hd : P.underlying d = some (.int k2)) (k : IntKind) (x : Int) (w : World) (K : KV) : cvT P s d (.int k x) w K = K (.int k2 (k2.wrap x)) w := by
 simp [cvT, ip, convert, Sem.run_bind, ii hs, ii hd, Result.andThen, Conv.intToInt, Sem.run_pure]
def ji (t : ByteArray) (r : Nat) : Nat → Nat
 | 0 => r
 | k + 1 => ji t r k * 64 + byt t (k + 1) - 128
def su (t : ByteArray) (k : Nat) : Bool := decide (128 ≤ byt t k) && decide (byt t k ≤ 191)
def lj (b0 : Nat) : Nat × Nat × Nat := if 194 ≤ b0 ∧ b0 ≤ 223 then (2, 128, b0 - 192) else if 224 ≤ b0 ∧ b0 ≤ 239 then (3, 2048, b0 - 224) else if 240 ≤ b0 ∧ b0 ≤ 244 then (4, 65536, b0 - 240) else (0, 0, 0)
def si (t : ByteArray) : Nat → Bool
 | 0 => true
 | k + 1 => si t k && su t (k + 1)
def rr (t : ByteArray) : Nat × Nat :=
 if t.size = 0 then (0, 0) else if byt t 0 < 128 then (byt t 0, 1) else
 if (lj (byt t 0)).1 = 0 ∨ t.size < (lj (byt t 0)).1 then (0, 0) else
 if si t ((lj (byt t 0)).1 - 1) = false then (0, 0) else
 if ji t (lj (byt t 0)).2.2 ((lj (byt t 0)).1 - 1) < (lj (byt t 0)).2.1 ∨ 1114111 < ji t (lj (byt t 0)).2.2 ((lj (byt t 0)).1 - 1) ∨ (55296 ≤ ji t (lj (byt t 0)).2.2 ((lj (byt t 0)).1 - 1) ∧ ji t (lj (byt t 0)).2.2 ((lj (byt t 0)).1 - 1) ≤ 57343) then (0, 0) else (ji t (lj (byt t 0)).2.2 ((lj (byt t 0)).1 - 1), (lj (byt t 0)).1)
theorem afz (t : ByteArray) (k : Nat) : byt t k < 256 := UInt8.toNat_lt _
theorem apz (t : ByteArray) {r : Nat} (hr : r ≤ 31) : ∀ k, si t k = true → ji t r k + 1 ≤ 32 * 64 ^ k
 | 0, _ => by simp [ji]; omega
 | k + 1, h => by
  simp only [si, Bool.and_eq_true, su, decide_eq_true_eq] at h
  have := apz t hr k h.1
  simp only [ji, Nat.pow_succ]
  omega
theorem ahj (x : Int) (w : World) (K : KV) : cvT P T.an T.ar (.int .u8 x) w K = K (.int .i32 (IntKind.i32.wrap x)) w := bge (ks := .u8) (by kernel_rfl) (by kernel_rfl) .u8 x w K
theorem uw {x : Int} (h0 : -2147483648 ≤ x) (h1 : x < 2147483648) : IntKind.i32.wrap x = x := by
 show (if (true && decide (x % 4294967296 ≥ 2147483648)) = true then x % 4294967296 - 4294967296 else x % 4294967296) = x
 by_cases h : x % 4294967296 ≥ 2147483648
 ·simp [h]; omega
 ·simp [h]; omega
theorem ais {t : ByteArray} {k : Nat} (h : su t (k + 1) = false) : ∀ {n : Nat}, k + 1 < n → si t (n - 1) = false
 | 0, hn => by omega
 | n + 1, hn => by
  rw [Nat.add_sub_cancel]
  by_cases hk : k + 1 = n
  ·subst hk; simp [si, h]
  ·have := ais h (n := n) (by omega)
   cases n with
   | zero => omega
   | succ n => rw [Nat.add_sub_cancel] at this; simp [si, this]
def bhi (w : World) (t : ByteArray) (r n : Nat) : KL := fun x w1 => ∃ (a b : Value) (k : Nat), x = [a, b, .int .i32 (ji t r k : Nat), .int .i64 ((k + 1 : Nat) : Int)] ∧ w1 = w ∧ k + 1 ≤ n ∧ si t k = true
theorem axy {w : World} {t : ByteArray} {n least r : Nat} (hn : 2 ≤ n) (hn4 : n ≤ 4) (hr : r ≤ 31) (hl : least ≤ 65536) (hsz : n ≤ t.size) {x3 x2 : List Value} (e1 : gv x2 1 = .int .i64 (n : Nat)) (e2 : gv x2 2 = .int .i32 (least : Nat)) (e3 : gv x2 3 = .int .i32 (r : Nat)) {K : KV}
  (h : K (.tuple #[.int .i32 ((if si t (n - 1) = false then 0 else if ji t r (n - 1) < least ∨ 1114111 < ji t r (n - 1) ∨ (55296 ≤ ji t r (n - 1) ∧ ji t r (n - 1) ≤ 57343) then 0 else ji t r (n - 1) : Nat) : Int), .int .i64 ((if si t (n - 1) = false then 0 else if ji t r (n - 1) < least ∨ 1114111 < ji t r (n - 1) ∨ (55296 ≤ ji t r (n - 1) ∧ ji t r (n - 1) ≤ 57343) then 0 else n : Nat) : Int)]) w) :
  M.q.j3 x3 x2 (.string t) w K := by
 unfold M.q.j3
 simp only [fm, e3]
 refine ⟨bhi w t r n, fun x _ => n - ms x 3, ⟨_, _, 0, rfl, rfl, by omega, rfl⟩, ?_⟩
 rintro x w1 ⟨a, b, k, rfl, rfl, hk, hc⟩
 have g2 : gv [a, b, .int .i32 (ji t r k : Nat), .int .i64 ((k + 1 : Nat) : Int)] 2 = .int .i32 (ji t r k : Nat) := rfl
 have g3 : gv [a, b, .int .i32 (ji t r k : Nat), .int .i64 ((k + 1 : Nat) : Int)] 3 = .int .i64 ((k + 1 : Nat) : Int) := rfl
 simp only [e1, g3]
 have hb := apz t hr k hc
 have hp : (64 : Nat) ^ k ≤ 64 ^ 3 := Nat.pow_le_pow_right (by omega) (by omega)
 by_cases hlt : k + 1 < n
 ·have hlt' : ((k + 1 : Nat) : Int) < n := by omega
  have hix : ∀ K, ixT P T.al (.string t) (.int .i64 ((k + 1 : Nat) : Int)) w1 K = K (.int .u8 (byt t (k + 1))) w1 := fun K => ayp t (by omega) w1 K
  simp only [ke, hlt', decide_true, Eng.cond_true]
  unfold M.q.j6
  have hix' := hix
  push_cast at hix'
  have hbl := afz t (k + 1)
  have hw : IntKind.i64.wrap (((k + 1 : Nat) : Int) + 1) = ((k + 1 + 1 : Nat) : Int) := by rw [fq (by omega) (by omega)]; rfl
  simp only [fm, g2, g3, hix]
  by_cases h1 : byt t (k + 1) < 128
  ·have h1' : (byt t (k + 1) : Int) < 128 := by omega
   have hcf : si t (n - 1) = false := ais (by simp [su]; omega) hlt
   simp [h1']
   rw [hcf] at h
   simpa using h
  ·have h1' : ¬ (byt t (k + 1) : Int) < 128 := by omega
   by_cases h2 : 191 < byt t (k + 1)
   ·have h2' : (191 : Int) < byt t (k + 1) := by omega
    have hcf : si t (n - 1) = false := ais (by simp [su]; omega) hlt
    simp [h1', hix', h2']
    rw [hcf] at h
    simpa using h
   ·have h2' : ¬ (191 : Int) < byt t (k + 1) := by omega
    simp [h1', hix', h2']
    unfold M.q.j8
    have hm1 : IntKind.i32.wrap ((ji t r k : Int) * 64) = (ji t r k : Int) * 64 := uw (by omega) (by omega)
    have hm2 : IntKind.i32.wrap (byt t (k + 1) : Int) = byt t (k + 1) := uw (by omega) (by omega)
    have hm3 : IntKind.i32.wrap ((ji t r k : Int) * 64 + byt t (k + 1)) = (ji t r k : Int) * 64 + byt t (k + 1) := uw (by omega) (by omega)
    have hm4 : IntKind.i32.wrap ((ji t r k : Int) * 64 + byt t (k + 1) - 128) = ((ji t r (k + 1) : Nat) : Int) := by
     rw [uw (by omega) (by omega)]
     simp only [ji]; omega
    push_cast at g2 g3 hw
    simp only [g2, g3, hix', ahj, tm, jh, jl, hm1, hm2, hm3, hm4, hw]
    refine ⟨⟨_, _, k + 1, rfl, rfl, by omega, by simp [si, hc, su]; omega⟩, ?_⟩
    simp [ms, gv]; omega
 ·have hke : n - 1 = k := by omega
  have hlt' : ¬ ((k + 1 : Nat) : Int) < n := by omega
  rw [hke, hc] at h
  simp only [ke, hlt', decide_false, Eng.cond_false]
  unfold M.q.j4
  have q3 : ∀ p q s u : Value, gv [p, q, s, u] 3 = u := fun _ _ _ _ => rfl
  simp only [fm, q3, g2, e1, e2]
  generalize ji t r k = v at *
  simp only [Bool.true_eq_false, if_false] at h
  by_cases a1 : v < least
  ·have a1' : (v : Int) < least := by omega
   simp [a1, a1'] at h ⊢
   exact h
  by_cases a2 : 1114111 < v
  ·have a1' : ¬ (v : Int) < least := by omega
   have a2' : (1114111 : Int) < v := by omega
   simp [a1, a1', a2, a2'] at h ⊢
   exact h
  by_cases a3 : 55296 ≤ v
  ·by_cases a4 : v ≤ 57343
   ·have a1' : ¬ (v : Int) < least := by omega
    have a2' : ¬ (1114111 : Int) < v := by omega
    have a3' : (55296 : Int) ≤ v := by omega
    have a4' : (v : Int) ≤ 57343 := by omega
    simp [a1, a1', a2, a2', a3, a3', a4, a4'] at h ⊢
    exact h
   ·have a1' : ¬ (v : Int) < least := by omega
    have a2' : ¬ (1114111 : Int) < v := by omega
    have a3' : (55296 : Int) ≤ v := by omega
    have a4' : ¬ (v : Int) ≤ 57343 := by omega
    simp [a1, a1', a2, a2', a3, a3', a4, a4'] at h ⊢
    exact h
  ·have a1' : ¬ (v : Int) < least := by omega
   have a2' : ¬ (1114111 : Int) < v := by omega
   have a3' : ¬ (55296 : Int) ≤ v := by omega
   simp [a1, a1', a2, a2', a3, a3'] at h ⊢
   exact h
theorem bep {w : World} (t : ByteArray) {K : KV} (h : K (.tuple #[.int .i32 ((rr t).1 : Nat), .int .i64 ((rr t).2 : Nat)]) w) : ja P F.dp [.string t] w K := by
 apply M.q.calls
 unfold M.q
 simp only [fm]
 unfold rr at h
 by_cases h0 : t.size = 0
 ·simp [h0] at h ⊢
  exact h
 have hsz : 0 < t.size := by omega
 have hix : ∀ K, ixT P T.al (.string t) (.int .i64 0) w K = K (.int .u8 (byt t 0)) w := fun K => ayp t hsz w K
 have hbl := afz t 0
 have hw0 : IntKind.i32.wrap (byt t 0 : Int) = byt t 0 := uw (by omega) (by omega)
 simp [h0] at h ⊢
 unfold M.q.j0
 simp only [fm, hix]
 by_cases h1 : byt t 0 < 128
 ·have h1' : (byt t 0 : Int) < 128 := by omega
  simp [h1, h1', ahj, hw0] at h ⊢
  exact h
 have h1' : ¬ (byt t 0 : Int) < 128 := by omega
 simp [h1, h1'] at h ⊢
 unfold M.q.j1
 simp only [fm]
 have fin : ∀ (n least r : Nat) (x2 : List Value), lj (byt t 0) = (n, least, r) → n ≠ 0 → 2 ≤ n → n ≤ 4 → r ≤ 31 → least ≤ 65536 → gv x2 1 = .int .i64 (n : Nat) → gv x2 2 = .int .i32 (least : Nat) → gv x2 3 = .int .i32 (r : Nat) → M.q.j2 x2 (.string t) [.int .i32 0, .int .i64 0] w K := by
  intro n least r x2 hc hn0 hn hn4 hr hl e1 e2 e3
  rw [hc] at h
  unfold M.q.j2
  have hn0' : ¬ (n : Int) = 0 := by omega
  by_cases hs : t.size < n
  ·have hs' : (t.size : Int) < n := by omega
   simp [e1, hn0, hn0', hs, hs'] at h ⊢
   exact h
  ·have hs' : ¬ (t.size : Int) < n := by omega
   simp only [fm]
   simp [e1, hn0, hn0', hs, hs'] at h ⊢
   refine axy hn hn4 hr hl (by omega) e1 e2 e3 ?_
   by_cases hcs : si t (n - 1) = false
   ·simp [hcs] at h ⊢; exact h
   ·by_cases hv : ji t r (n - 1) < least ∨ 1114111 < ji t r (n - 1) ∨ (55296 ≤ ji t r (n - 1) ∧ ji t r (n - 1) ≤ 57343)
    ·simp [hcs, hv] at h ⊢; exact h
    ·simp [hcs, hv] at h ⊢; exact h
 generalize hb0 : byt t 0 = b0 at *
 have hsub : ∀ (y : Int), 0 ≤ y → y < 300 → (b0 : Int) - y = (((b0 : Int) - y)) := fun _ _ _ => rfl
 by_cases c1 : 194 ≤ b0 ∧ b0 ≤ 223
 ·have p1 : (194 : Int) ≤ b0 := by omega
  have p2 : (b0 : Int) ≤ 223 := by omega
  have hw1 : IntKind.i32.wrap ((b0 : Int) - 192) = ((b0 - 192 : Nat) : Int) := by rw [uw (by omega) (by omega)]; omega
  simp [p1, p2, ahj, hw0, hw1]
  refine fin 2 128 (b0 - 192) _ (by simp [lj, c1]) (by decide) (by decide) (by decide) (by omega) (by decide) rfl rfl rfl
 have hz : ∀ x2, gv x2 1 = .int .i64 0 → lj b0 = (0, 0, 0) → M.q.j2 x2 (.string t) [.int .i32 0, .int .i64 0] w K := by
  intro x2 e1 hc
  rw [hc] at h
  unfold M.q.j2
  simp only [fm]
  simp [e1] at h ⊢
  exact h
 by_cases d1 : 224 ≤ b0
 ·have p1 : (194 : Int) ≤ b0 := by omega
  have p2 : ¬ (b0 : Int) ≤ 223 := by omega
  have p3 : (224 : Int) ≤ b0 := by omega
  by_cases d2 : b0 ≤ 239
  ·have p4 : (b0 : Int) ≤ 239 := by omega
   have hw1 : IntKind.i32.wrap ((b0 : Int) - 224) = ((b0 - 224 : Nat) : Int) := by rw [uw (by omega) (by omega)]; omega
   simp [p1, p2, p3, p4, ahj, hw0, hw1]
   exact fin 3 2048 (b0 - 224) _ (by simp [lj, c1, d1, d2]) (by decide) (by decide) (by decide) (by omega) (by decide) rfl rfl rfl
  ·have p4 : ¬ (b0 : Int) ≤ 239 := by omega
   have p5 : (240 : Int) ≤ b0 := by omega
   by_cases d3 : b0 ≤ 244
   ·have p6 : (b0 : Int) ≤ 244 := by omega
    have hw1 : IntKind.i32.wrap ((b0 : Int) - 240) = ((b0 - 240 : Nat) : Int) := by rw [uw (by omega) (by omega)]; omega
    simp [p1, p2, p3, p4, p5, p6, ahj, hw0, hw1]
    exact fin 4 65536 (b0 - 240) _ (by unfold lj; rw [if_neg c1, if_neg (by omega), if_pos (by omega)]) (by decide) (by decide) (by decide) (by omega) (by decide) rfl rfl rfl
   ·have p6 : ¬ (b0 : Int) ≤ 244 := by omega
    simp [p1, p2, p3, p4, p5, p6, ahj, hw0]
    exact hz _ rfl (by unfold lj; rw [if_neg c1, if_neg (by omega), if_neg (by omega)])
 ·have p1 : ¬ (194 : Int) ≤ b0 := by omega
  have p3 : ¬ (224 : Int) ≤ b0 := by omega
  have p5 : ¬ (240 : Int) ≤ b0 := by omega
  simp [p1, p3, p5]
  exact hz _ rfl (by unfold lj; rw [if_neg c1, if_neg (by omega), if_neg (by omega)])
theorem akv {t : ByteArray} (h0 : 0 < t.size) (h1 : ¬ byt t 0 < 128) {n least r : Nat} (hc : lj (byt t 0) = (n, least, r)) :
  rr t = if n = 0 ∨ t.size < n then (0, 0) else if si t (n - 1) = false then (0, 0) else if ji t r (n - 1) < least ∨ 1114111 < ji t r (n - 1) ∨ (55296 ≤ ji t r (n - 1) ∧ ji t r (n - 1) ≤ 57343) then (0, 0) else (ji t r (n - 1), n) := by
 unfold rr
 rw [if_neg (by omega), if_neg h1, hc]
theorem bci (v : Nat) : Utf8.valid (v : Int) = decide (¬ (1114111 < v ∨ (55296 ≤ v ∧ v ≤ 57343))) := by
 unfold Utf8.valid
 rw [Bool.eq_iff_iff]
 simp only [Bool.or_eq_true, Bool.and_eq_true, decide_eq_true_eq]
 omega
def mw (t : ByteArray) (k : Nat) : Bool := decide (k < t.size) && su t k
def aje (least n v : Nat) : Nat × Nat := if least ≤ v ∧ ¬ (1114111 < v ∨ (55296 ≤ v ∧ v ≤ 57343)) then (v, n) else (65533, 1)
theorem zv (t : ByteArray) : Utf8.decode t 0 = if byt t 0 < 128 then (byt t 0, 1) else if byt t 0 / 32 = 6 ∧ mw t 1 = true then (if 128 ≤ byt t 0 % 32 * 64 + byt t 1 % 64 then (byt t 0 % 32 * 64 + byt t 1 % 64, 2) else (65533, 1))
  else if byt t 0 / 16 = 14 ∧ mw t 1 = true ∧ mw t 2 = true then aje 2048 3 (byt t 0 % 16 * 4096 + byt t 1 % 64 * 64 + byt t 2 % 64)
  else if byt t 0 / 8 = 30 ∧ mw t 1 = true ∧ mw t 2 = true ∧ mw t 3 = true then aje 65536 4 (byt t 0 % 8 * 262144 + byt t 1 % 64 * 4096 + byt t 2 % 64 * 64 + byt t 3 % 64) else (65533, 1) := by
 have e : ∀ k, (t.get! (0 + k)).toNat = byt t k := fun k => by rw [Nat.zero_add]; rfl
 have c0 : ∀ k, (decide (0 + k < t.size) && byt t k / 64 == 2) = mw t k := fun k => by
  have := afz t k
  have : (byt t k / 64 == 2) = su t k := by
   unfold su
   by_cases h : 128 ≤ byt t k <;> by_cases h' : byt t k ≤ 191
   ·have : byt t k / 64 = 2 := by omega
    simp [h, h', this]
   ·have : ¬ byt t k / 64 = 2 := by omega
    simp [h, h', this]
   ·have : ¬ byt t k / 64 = 2 := by omega
    simp [h, h', this]
   ·omega
  rw [this, Nat.zero_add]; rfl
 unfold Utf8.decode aje
 simp only [e, c0, bci, Bool.and_eq_true, beq_iff_eq, and_assoc, decide_eq_true_eq, ge_iff_le, Utf8.runeError]
theorem wy {t : ByteArray} {k : Nat} (h : mw t k = true) : k < t.size ∧ su t k = true ∧ 128 ≤ byt t k ∧ byt t k ≤ 191 := by
 unfold mw su at h
 simp only [Bool.and_eq_true, decide_eq_true_eq] at h
 exact ⟨h.1, by unfold su; simp [h.2], h.2.1, h.2.2⟩
def ada (c : Nat × Nat) : Nat × Nat := if c.2 = 0 then (65533, 1) else c
theorem alp {least n v : Nat} (hn : n ≠ 0) : aje least n v = ada (if v < least ∨ 1114111 < v ∨ (55296 ≤ v ∧ v ≤ 57343) then (0, 0) else (v, n)) := by
 unfold aje ada
 by_cases g : v < least ∨ 1114111 < v ∨ (55296 ≤ v ∧ v ≤ 57343)
 ·rw [if_pos g, if_neg (by omega)]; rfl
 ·rw [if_neg g, if_pos (by omega)]; simp [hn]
theorem afu {t : ByteArray} : ∀ {n : Nat}, si t n = true ↔ ∀ k, 1 ≤ k → k ≤ n → su t k = true
 | 0 => ⟨fun _ k h1 h2 => by omega, fun _ => rfl⟩
 | n + 1 => by
  simp only [si, Bool.and_eq_true, afu (n := n)]
  constructor
  ·rintro ⟨h1, h2⟩ k hk1 hk2
   by_cases hk : k = n + 1
   ·subst hk; exact h2
   ·exact h1 k hk1 (by omega)
  ·intro h
   exact ⟨fun k h1 h2 => h k h1 (by omega), h (n + 1) (by omega) (by omega)⟩
theorem aeg {t : ByteArray} (h0 : 0 < t.size) (h1 : ¬ byt t 0 < 128) {n least r : Nat} (hc : lj (byt t 0) = (n, least, r)) (hn : 2 ≤ n) (h : ∀ k, 1 ≤ k → k ≤ n - 1 → mw t k = true) :
  rr t = if ji t r (n - 1) < least ∨ 1114111 < ji t r (n - 1) ∨ (55296 ≤ ji t r (n - 1) ∧ ji t r (n - 1) ≤ 57343) then (0, 0) else (ji t r (n - 1), n) := by
 rw [akv h0 h1 hc]
 have := (wy (h (n - 1) (by omega) (by omega))).1
 rw [if_neg (by omega), if_neg]
 rw [afu.2 fun k h1 h2 => (wy (h k h1 h2)).2.1]; simp
theorem ahq {t : ByteArray} (h0 : 0 < t.size) (h1 : ¬ byt t 0 < 128) {n least r : Nat} (hc : lj (byt t 0) = (n, least, r)) (hn : 2 ≤ n) (h : ¬ ∀ k, 1 ≤ k → k ≤ n - 1 → mw t k = true) : rr t = (0, 0) := by
 rw [akv h0 h1 hc]
 by_cases hs : t.size < n
 ·rw [if_pos (.inr hs)]
 ·rw [if_neg (by omega), if_pos]
  cases hcs : si t (n - 1) with
  | false => rfl
  | true =>
   refine absurd (fun k h1 h2 => ?_) h
   unfold mw
   rw [afu.1 hcs k h1 h2]
   simp; omega
theorem auq {p : Nat → Prop} : (∀ k, 1 ≤ k → k ≤ 2 - 1 → p k) ↔ p 1 := ⟨fun h => h 1 (by omega) (by omega), fun h k h1 h2 => by
 obtain rfl : k = 1 := by omega
 exact h⟩
theorem awd {p : Nat → Prop} : (∀ k, 1 ≤ k → k ≤ 3 - 1 → p k) ↔ p 1 ∧ p 2 := ⟨fun h => ⟨h 1 (by omega) (by omega), h 2 (by omega) (by omega)⟩, fun h k h1 h2 => by
 have : k = 1 ∨ k = 2 := by omega
 rcases this with rfl | rfl
 ·exact h.1
 ·exact h.2⟩
theorem auu {p : Nat → Prop} : (∀ k, 1 ≤ k → k ≤ 4 - 1 → p k) ↔ p 1 ∧ p 2 ∧ p 3 := ⟨fun h => ⟨h 1 (by omega) (by omega), h 2 (by omega) (by omega), h 3 (by omega) (by omega)⟩, fun h k h1 h2 => by
 have : k = 1 ∨ k = 2 ∨ k = 3 := by omega
 rcases this with rfl | rfl | rfl
 ·exact h.1
 ·exact h.2.1
 ·exact h.2.2⟩
theorem ahg {x : Nat} (h1 : 128 ≤ x) (h2 : x ≤ 191) : x % 64 = x - 128 := by omega
theorem rf1 (t : ByteArray) (r : Nat) : ji t r 1 = r * 64 + byt t 1 - 128 := rfl
theorem rf2 (t : ByteArray) (r : Nat) : ji t r 2 = (r * 64 + byt t 1 - 128) * 64 + byt t 2 - 128 := rfl
theorem rf3 (t : ByteArray) (r : Nat) : ji t r 3 = ((r * 64 + byt t 1 - 128) * 64 + byt t 2 - 128) * 64 + byt t 3 - 128 := rfl
theorem bii {t : ByteArray} (h0 : 0 < t.size) (c1 : 194 ≤ byt t 0 ∧ byt t 0 ≤ 223) : Utf8.decode t 0 = ada (rr t) := by
 have h1 : ¬ byt t 0 < 128 := by omega
 have hc : lj (byt t 0) = (2, 128, byt t 0 - 192) := by unfold lj; rw [if_pos c1]
 rw [zv, if_neg h1]
 by_cases hd : mw t 1 = true
 ·rw [aeg h0 h1 hc (by decide) (auq.2 hd), if_pos ⟨by omega, hd⟩, ← alp (by decide)]
  obtain ⟨_, _, g1, g2⟩ := wy hd
  have hv : ji t (byt t 0 - 192) (2 - 1) = byt t 0 % 32 * 64 + byt t 1 % 64 := by
   show ji t (byt t 0 - 192) 1 = _
   rw [rf1, ahg g1 g2]; omega
  rw [hv]
  have hle : byt t 0 % 32 * 64 + byt t 1 % 64 < 55296 := by omega
  unfold aje
  by_cases hg : 128 ≤ byt t 0 % 32 * 64 + byt t 1 % 64
  ·rw [if_pos hg, if_pos ⟨hg, by omega⟩]
  ·rw [if_neg hg, if_neg fun h => hg h.1]
 ·rw [if_neg fun h => hd h.2, if_neg (by omega), if_neg (by omega), ahq h0 h1 hc (by decide) fun h => hd (auq.1 h)]; rfl
theorem big {t : ByteArray} (h0 : 0 < t.size) (c1 : 224 ≤ byt t 0 ∧ byt t 0 ≤ 239) : Utf8.decode t 0 = ada (rr t) := by
 have h1 : ¬ byt t 0 < 128 := by omega
 have hc : lj (byt t 0) = (3, 2048, byt t 0 - 224) := by unfold lj; rw [if_neg (by omega), if_pos c1]
 rw [zv, if_neg h1, if_neg (by omega)]
 by_cases hd : mw t 1 = true ∧ mw t 2 = true
 ·rw [aeg h0 h1 hc (by decide) (awd.2 hd), if_pos ⟨by omega, hd⟩, ← alp (by decide)]
  obtain ⟨_, _, g1, g2⟩ := wy hd.1
  obtain ⟨_, _, g3, g4⟩ := wy hd.2
  have hv : ji t (byt t 0 - 224) (3 - 1) = byt t 0 % 16 * 4096 + byt t 1 % 64 * 64 + byt t 2 % 64 := by
   show ji t (byt t 0 - 224) 2 = _
   rw [rf2, ahg g1 g2, ahg g3 g4]; omega
  rw [hv]
 ·rw [if_neg fun h => hd h.2, if_neg (by omega), ahq h0 h1 hc (by decide) fun h => hd (awd.1 h)]; rfl
theorem bid {t : ByteArray} (h0 : 0 < t.size) (c1 : 240 ≤ byt t 0 ∧ byt t 0 ≤ 244) : Utf8.decode t 0 = ada (rr t) := by
 have h1 : ¬ byt t 0 < 128 := by omega
 have hc : lj (byt t 0) = (4, 65536, byt t 0 - 240) := by unfold lj; rw [if_neg (by omega), if_neg (by omega), if_pos c1]
 rw [zv, if_neg h1, if_neg (by omega), if_neg (by omega)]
 by_cases hd : mw t 1 = true ∧ mw t 2 = true ∧ mw t 3 = true
 ·rw [aeg h0 h1 hc (by decide) (auu.2 hd), if_pos ⟨by omega, hd⟩, ← alp (by decide)]
  obtain ⟨_, _, g1, g2⟩ := wy hd.1
  obtain ⟨_, _, g3, g4⟩ := wy hd.2.1
  obtain ⟨_, _, g5, g6⟩ := wy hd.2.2
  have hv : ji t (byt t 0 - 240) (4 - 1) = byt t 0 % 8 * 262144 + byt t 1 % 64 * 4096 + byt t 2 % 64 * 64 + byt t 3 % 64 := by
   show ji t (byt t 0 - 240) 3 = _
   rw [rf3, ahg g1 g2, ahg g3 g4, ahg g5 g6]; omega
  rw [hv]
 ·rw [if_neg fun h => hd h.2, ahq h0 h1 hc (by decide) fun h => hd (auu.1 h)]; rfl
theorem ayy (t : ByteArray) (h0 : 0 < t.size) : Utf8.decode t 0 = ada (rr t) := by
 by_cases h1 : byt t 0 < 128
 ·have hr : rr t = (byt t 0, 1) := by unfold rr; rw [if_neg (by omega), if_pos h1]
  rw [zv, if_pos h1, hr]; rfl
 by_cases c1 : 194 ≤ byt t 0 ∧ byt t 0 ≤ 223
 ·exact bii h0 c1
 by_cases c2 : 224 ≤ byt t 0 ∧ byt t 0 ≤ 239
 ·exact big h0 c2
 by_cases c3 : 240 ≤ byt t 0 ∧ byt t 0 ≤ 244
 ·exact bid h0 c3
 have hc : lj (byt t 0) = (0, 0, 0) := by unfold lj; rw [if_neg c1, if_neg c2, if_neg c3]
 have hr : rr t = (0, 0) := by rw [akv h0 h1 hc]; simp
 have hb := afz t 0
 rw [hr, zv, if_neg h1]
 show _ = (65533, 1)
 by_cases d1 : byt t 0 / 32 = 6 ∧ mw t 1 = true
 ·obtain ⟨_, _, g1, g2⟩ := wy d1.2
  rw [if_pos d1, if_neg (by omega)]
 ·rw [if_neg d1, if_neg (by omega)]
  by_cases d3 : byt t 0 / 8 = 30 ∧ mw t 1 = true ∧ mw t 2 = true ∧ mw t 3 = true
  ·rw [if_pos d3]
   unfold aje
   rw [if_neg (by omega)]
  ·rw [if_neg d3]
def jm (s : ByteArray) (i : Nat) : ByteArray := s.extract i s.size
theorem ahb (s : ByteArray) (i : Nat) : (jm s i).size = s.size - i := by simp [jm]
theorem aqy (s : ByteArray) (k : Nat) : s.get! k = s.data[k]! := by cases s; rfl
theorem baa (s : ByteArray) (i k : Nat) : byt (jm s i) k = byt s (i + k) := by
 unfold byt
 rw [aqy, aqy]
 have h : (jm s i).data = s.data.extract i s.size := by simp [jm]
 rw [h, getElem!_def, getElem!_def, Array.getElem?_extract]
 have hs : s.size = s.data.size := rfl
 by_cases hk : k < min s.size s.data.size - i
 ·rw [if_pos (by omega)]
 ·rw [if_neg (by omega), Array.getElem?_eq_none (by omega)]
theorem azc (s : ByteArray) (i n : Nat) : jm (jm s i) n = jm s (i + n) := by
 unfold jm
 rw [ByteArray.extract_extract]
 congr 1
 simp; omega
theorem asd (s : ByteArray) (i : Nat) : Utf8.decode s i = Utf8.decode (jm s i) 0 := by
 have e : ∀ k, (s.get! (i + k)).toNat = byt (jm s i) k := fun k => by rw [baa]; rfl
 have e' : ∀ k, ((jm s i).get! (0 + k)).toNat = byt (jm s i) k := fun k => by rw [Nat.zero_add]; rfl
 have c : ∀ k, decide (i + k < s.size) = decide (0 + k < (jm s i).size) := fun k => by
  rw [ahb, decide_eq_decide]; omega
 unfold Utf8.decode
 simp only [e, e', c]
theorem bfa (t : ByteArray) : vk t wd = true ↔ 3 ≤ t.size ∧ byt t 0 = 239 ∧ byt t 1 = 191 ∧ byt t 2 = 189 := by
 have hs : t.size = t.data.toList.length := Array.length_toList.symm
 have hr : wd.toList = [239, 191, 189] := by decide +kernel
 have hz : wd.size = 3 := rfl
 unfold vk
 rw [hr, hz, Bool.and_eq_true, decide_eq_true_eq, beq_iff_eq]
 have he : (t.extract 0 3).toList = t.data.toList.take 3 := by
  rw [ByteArray.toList_eq]
  simp
 rw [he]
 have b : ∀ k, byt t k = (t.data.toList[k]?.getD default).toNat := fun k => by
  unfold byt
  rw [aqy, getElem!_def]
  simp only [Array.getElem?_toList]
  cases t.data[k]? <;> rfl
 rw [b, b, b, hs]
 have u : ∀ (x : UInt8) (n : Nat) (h : n < 256), x.toNat = n ↔ x = UInt8.ofNat n := fun x n h => by
  constructor
  ·intro hx; rw [← hx]; simp
  ·rintro rfl; simp; omega
 match t.data.toList with
 | [] => simp
 | [x] => simp
 | [x, y] => simp
 | x :: y :: z :: r =>
  simp [u x 239 (by decide), u y 191 (by decide), u z 189 (by decide)]
theorem bft (t : ByteArray) (h0 : 0 < t.size) : ((rr t).2 ≠ 0 ∧ (rr t).1 = 65533) ↔ (3 ≤ t.size ∧ byt t 0 = 239 ∧ byt t 1 = 191 ∧ byt t 2 = 189) := by
 have hb := afz t 0
 by_cases h1 : byt t 0 < 128
 ·have hr : rr t = (byt t 0, 1) := by unfold rr; rw [if_neg (by omega), if_pos h1]
  rw [hr]; simp; omega
 by_cases c1 : 194 ≤ byt t 0 ∧ byt t 0 ≤ 223
 ·have hc : lj (byt t 0) = (2, 128, byt t 0 - 192) := by unfold lj; rw [if_pos c1]
  by_cases hd : mw t 1 = true
  ·rw [aeg h0 h1 hc (by decide) (auq.2 hd)]
   obtain ⟨_, _, g1, g2⟩ := wy hd
   have hv : ji t (byt t 0 - 192) (2 - 1) = (byt t 0 - 192) * 64 + byt t 1 - 128 := rfl
   rw [hv]
   split <;> simp <;> omega
  ·rw [ahq h0 h1 hc (by decide) fun h => hd (auq.1 h)]; simp; omega
 by_cases c2 : 224 ≤ byt t 0 ∧ byt t 0 ≤ 239
 ·have hc : lj (byt t 0) = (3, 2048, byt t 0 - 224) := by unfold lj; rw [if_neg (by omega), if_pos c2]
  by_cases hd : mw t 1 = true ∧ mw t 2 = true
  ·rw [aeg h0 h1 hc (by decide) (awd.2 hd)]
   obtain ⟨_, _, g1, g2⟩ := wy hd.1
   obtain ⟨g5, _, g3, g4⟩ := wy hd.2
   have hv : ji t (byt t 0 - 224) (3 - 1) = ((byt t 0 - 224) * 64 + byt t 1 - 128) * 64 + byt t 2 - 128 := rfl
   rw [hv]
   split <;> simp <;> omega
  ·rw [ahq h0 h1 hc (by decide) fun h => hd (awd.1 h)]
   simp only [ne_eq, not_true_eq_false, false_and, false_iff]
   rintro ⟨k0, k1, k2, k3⟩
   apply hd
   unfold mw su
   simp [k2, k3]; omega
 by_cases c3 : 240 ≤ byt t 0 ∧ byt t 0 ≤ 244
 ·have hc : lj (byt t 0) = (4, 65536, byt t 0 - 240) := by unfold lj; rw [if_neg (by omega), if_neg (by omega), if_pos c3]
  by_cases hd : mw t 1 = true ∧ mw t 2 = true ∧ mw t 3 = true
  ·rw [aeg h0 h1 hc (by decide) (auu.2 hd)]
   generalize ji t (byt t 0 - 240) (4 - 1) = v
   split <;> simp <;> omega
  ·rw [ahq h0 h1 hc (by decide) fun h => hd (auu.1 h)]; simp; omega
 have hc : lj (byt t 0) = (0, 0, 0) := by unfold lj; rw [if_neg c1, if_neg c2, if_neg c3]
 have hr : rr t = (0, 0) := by rw [akv h0 h1 hc]; simp
 rw [hr]; simp; omega
theorem bap (t : ByteArray) : (rr t).2 ≤ t.size := by
 unfold rr
 by_cases h0 : t.size = 0
 ·rw [if_pos h0]; omega
 rw [if_neg h0]
 split
 ·simp; omega
 split
 ·simp
 split
 ·simp
 split
 ·simp
 ·simp; omega
def rrs (s : ByteArray) (i : Nat) : Option (List Nat) :=
 if h : i < s.size then (if h2 : (rr (jm s i)).2 = 0 then none else (rrs s (i + (rr (jm s i)).2)).map ((rr (jm s i)).1 :: ·)) else some []
termination_by s.size - i
decreasing_by omega
def ctl (c : Nat) : Bool := decide (c < 32) || (decide (127 ≤ c) && decide (c ≤ 159))
theorem baf (s : ByteArray) : ∀ (m i : Nat), s.size - i ≤ m → so s i = match rrs s i with
  | none => false
  | some l => l.all fun c => !ctl c := by
 intro m
 induction m with
 | zero =>
  intro i hm
  unfold so rrs
  rw [dif_neg (by omega), dif_neg (by omega)]; rfl
 | succ m ih =>
  intro i hm
  unfold so rrs
  by_cases hi : i < s.size
  ·rw [dif_pos hi, dif_pos hi]
   have ht : 0 < (jm s i).size := by rw [ahb]; omega
   have hd : Utf8.decode s i = ada (rr (jm s i)) := by rw [asd, ayy _ ht]
   have he := bft (jm s i) ht
   rw [← bfa] at he
   unfold aat
   have hrest : s.extract i s.size = jm s i := rfl
   rw [hrest, hd]
   by_cases h2 : (rr (jm s i)).2 = 0
   ·rw [dif_pos h2]
    have hp : vk (jm s i) wd = false := by
     cases hq : vk (jm s i) wd with
     | false => rfl
     | true => exact absurd h2 (he.2 hq).1
    simp [ada, h2, hp]
   ·rw [dif_neg h2]
    have hf : ada (rr (jm s i)) = rr (jm s i) := by simp [ada, h2]
    rw [hf, ih (i + (rr (jm s i)).2) (by omega)]
    have hb : (decide ((rr (jm s i)).1 < 32) || (decide (127 ≤ (rr (jm s i)).1) && decide ((rr (jm s i)).1 ≤ 159) || decide ((rr (jm s i)).1 = 65533) && !vk (jm s i) wd)) = ctl (rr (jm s i)).1 := by
     unfold ctl
     by_cases hc : (rr (jm s i)).1 = 65533
     ·rw [he.1 ⟨h2, hc⟩, hc]; decide
     ·simp [hc]
    rw [hb]
    cases rrs s (i + (rr (jm s i)).2) with
    | none => simp
    | some l => simp
  ·rw [dif_neg hi, dif_neg hi]; rfl
def bcj (c : Nat) : List Value := [.int .i32 (c : Nat)]
abbrev OwR (w : World) (base : Nat) (v : Value) (l : List Nat) : Prop := Ow w base T.ar 1 bcj v l
def ajw (v : Value) : Nat := match v with
 | .string s => s.size
 | _ => 0
def bht (w : World) (s : ByteArray) : KL := fun x w1 => ∃ (i : Nat) (l : List Nat), x.length = 6 ∧ gv x 5 = .string (jm s i) ∧ OwR w1 w.heap.size (gv x 4) l ∧ Fr (fun _ => False) w w1 ∧ i ≤ s.size ∧ l.length ≤ i ∧ rrs s 0 = (rrs s i).map (l ++ ·)
theorem bbr {w : World} {s : ByteArray} (hs : s.size < 100000) {K : KV} (h0 : rrs s 0 = none → ∀ w', Fr (fun _ => False) w w' → K (.tuple #[.slice none 0 0, .bool false]) w')
  (h1 : ∀ l, rrs s 0 = some l → l.length ≤ s.size → ∀ w' v, OwR w' w.heap.size v l → Fr (fun _ => False) w w' → K (.tuple #[v, .bool true]) w') : ja P F.dd [.string s] w K := by
 apply M.az.calls
 unfold M.az
 rw [fm]
 refine ⟨bht w s, fun x _ => ajw (gv x 5), ⟨0, [], rfl, ?_, Ow.none, Fr.refl _ _, Nat.zero_le _, Nat.le_refl _, by simp⟩, ?_⟩
 ·show Value.string s = _
  unfold jm; simp
 rintro x w1 ⟨i, l, hx, e5, o1, f1, hi, hl, hR⟩
 unfold M.az.j1
 simp only [fm, e5, bgl]
 have hsz := ahb s i
 by_cases hlt : i < s.size
 ·have hlt' : (0 : Int) < ((jm s i).size : Int) := by omega
  simp only [nj, hlt', decide_true, Eng.cond_true]
  unfold M.az.j2
  rw [e5, M.q.fcall]
  refine bep _ ?_
  simp only [zi, zk, fm, sn]
  rw [show rrs s i = _ from rrs.eq_1 s i, dif_pos hlt] at hR
  by_cases h2 : (rr (jm s i)).2 = 0
  ·have h2' : (((rr (jm s i)).2 : Nat) : Int) = 0 := by omega
   simp only [h2', decide_true, Eng.cond_true]
   rw [dif_pos h2] at hR
   exact h0 hR w1 f1
  ·have h2' : ¬ (((rr (jm s i)).2 : Nat) : Int) = 0 := by omega
   simp only [h2', decide_false, Eng.cond_false]
   rw [dif_neg h2] at hR
   have hwd := bap (jm s i)
   unfold M.az.j3
   simp [e5]
   have fa : Fr (fun _ => False) w1 (w1.alloc (.cells #[.int .i32 ((rr (jm s i)).1 : Nat)] T.ar)) := (Fr.refl _ w1).alloc _
   have hge := f1.size
   refine qc et.ax (fun _ => rfl) (fun x u hu => by simp [bcj] at hu; subst hu; rfl) (o1.fr fa fun _ _ h => h) (Sl.one (x := (rr (jm s i)).1) rfl rfl) (by simp; omega) (by decide) (by simp; omega) _ fun v' w2 o2 f2 g2 => ?_
   rw [apn (i := (rr (jm s i)).2) amj (.inr ⟨_, rfl⟩) (.inl ⟨rfl, rfl⟩) hwd (Nat.le_refl _)]
   refine ⟨⟨i + (rr (jm s i)).2, l ++ [(rr (jm s i)).1], rfl, ?_, o2, ?_, by omega, by simp; omega, ?_⟩, ?_⟩
   ·show Value.string _ = _
    rw [← azc]; rfl
   ·refine f1.jq ((fa.mono fun _ _ h => h.elim).trans f2) fun b hb he => ?_
    have := (o1.lt he).1; omega
   ·rw [hR]
    cases rrs s (i + (rr (jm s i)).2) <;> simp
   ·show ajw (.string ((jm s i).extract (rr (jm s i)).2 (jm s i).size)) < ajw (.string (jm s i))
    simp only [ajw, ByteArray.size_extract]
    omega
 ·have hlt' : ¬ (0 : Int) < ((jm s i).size : Int) := by omega
  simp only [nj, hlt', decide_false, Eng.cond_false]
  rw [show rrs s i = _ from rrs.eq_1 s i, dif_neg hlt] at hR
  exact h1 l (by simpa using hR) (by omega) w1 _ o1 f1
def NmI (w : World) (l : List Nat) : KL := fun x w1 => ∃ (u : Value) (i : Nat), x = [u, .int .i64 (i : Nat)] ∧ w1 = w ∧ i ≤ l.length ∧ ∀ j c, l[j]? = some c → j < i → ctl c = false
theorem ald {w : World} (s : ByteArray) {K : KV} (h : ∀ w', Fr (fun _ => False) w w' → K (.int .i64 (ud s)) w') : ja P F.ci [.string s] w K := by
 apply M.bm.calls
 unfold M.bm
 unfold ud at h
 simp only [fm, bgl, ke]
 by_cases h0 : s.size = 0
 ·have : (s.size : Int) < 1 := by omega
  simp [h0] at h ⊢
  exact h w (Fr.refl _ _)
 have h0' : ¬ (s.size : Int) < 1 := by omega
 by_cases h1 : 32 < s.size
 ·have h1' : (32 : Int) < s.size := by omega
  simp [h0, h0', h1, h1'] at h ⊢
  exact h w (Fr.refl _ _)
 have h1' : ¬ (32 : Int) < s.size := by omega
 simp [h0, h0', h1, h1'] at h ⊢
 unfold M.bm.j0
 rw [M.az.fcall]
 rw [baf s _ 0 (Nat.le_refl _)] at h
 refine bbr (by omega) (fun hr w1 f1 => ?_) fun l hr hll w1 v o1 f1 => ?_
 ·rw [hr] at h
  simp only [zi, zk, fm]
  refine ⟨fun x w2 => gv x 1 = .int .i64 0 ∧ w2 = w1, fun _ _ => 0, ⟨rfl, rfl⟩, ?_⟩
  rintro x w2 ⟨e1, rfl⟩
  simp [e1]
  have := h w2 f1
  simpa using this
 ·rw [hr] at h
  simp only [zi, zk, fm]
  have hsl : Sl w1 1 bcj v l := o1.sl fun _ => rfl
  refine ⟨NmI w1 l, fun x _ => l.length - ms x 1, ⟨_, 0, rfl, rfl, Nat.zero_le _, fun j c _ h => by omega⟩, ?_⟩
  rintro x w2 ⟨u, i, rfl, rfl, hi, hall⟩
  have q0 : ∀ a b : Value, gv [a, b] 0 = a := fun _ _ => rfl
  have q1 : ∀ a b : Value, gv [a, b] 1 = b := fun _ _ => rfl
  simp only [q0, q1]
  rw [hsl.im (by simp)]
  by_cases hil : i < l.length
  ·have hil' : (i : Int) < l.length := by omega
   simp only [ke, hil', decide_true, Eng.cond_true]
   unfold M.bm.j3
   obtain ⟨b, o, cap, rfl, hb, _, hc⟩ := hsl.at hil
   have c0 := hc 0 _ rfl
   simp only [Nat.mul_one, Nat.add_zero] at c0
   generalize hli : l[i] = c at *
   have hgi : l[i]? = some c := by rw [List.getElem?_eq_getElem hil, hli]
   have hw : IntKind.i64.wrap ((i : Int) + 1) = ((i + 1 : Nat) : Int) := by rw [fq (by omega) (by omega)]; rfl
   have bad : ctl c = true → K (.int .i64 5) w2 := fun hct => by
    have : (l.all fun c => !ctl c) = false := by
     rw [List.all_eq_false]
     exact ⟨c, List.mem_of_getElem? hgi, by simp [hct]⟩
    have hh := h w2 f1
    simpa [this] using hh
   have tg : ctl c = false → ∀ u, NmI w2 l [u, .int .i64 ((i : Int) + 1)] w2 ∧ l.length - ms [u, .int .i64 ((i : Int) + 1)] 1 < l.length - ms [u, .int .i64 (i : Int)] 1 := fun hct u => by
    refine ⟨⟨u, i + 1, rfl, rfl, by omega, fun j c' hj hlt => ?_⟩, by simp [ms, gv]; omega⟩
    by_cases hji : j = i
    ·subst hji; rw [hgi] at hj; cases hj; exact hct
    ·exact hall j c' hj (by omega)
   by_cases d1 : c < 32
   ·have d1' : (c : Int) < 32 := by omega
    simp [q0, q1, hil, c0, d1']
    exact bad (by simp [ctl, d1])
   have d1' : ¬ (c : Int) < 32 := by omega
   by_cases d2 : 127 ≤ c
   ·have d2' : (127 : Int) ≤ c := by omega
    by_cases d3 : c ≤ 159
    ·have d3' : (c : Int) ≤ 159 := by omega
     simp [q0, q1, hil, c0, d1', d2', d3']
     exact bad (by simp [ctl, d2, d3])
    ·have d3' : ¬ (c : Int) ≤ 159 := by omega
     simp [q0, q1, hil, c0, d1', d2', d3', hw]
     exact tg (by simp [ctl, d1, d3]) _
   ·have d2' : ¬ (127 : Int) ≤ c := by omega
    simp [q0, q1, hil, c0, d1', d2', hw]
    exact tg (by simp [ctl, d1, d2]) _
  ·have hil' : ¬ (i : Int) < l.length := by omega
   simp only [ke, hil', decide_false, Eng.cond_false]
   have : (l.all fun c => !ctl c) = true := by
    rw [List.all_eq_true]
    intro c hc
    obtain ⟨j, hj, rfl⟩ := List.mem_iff_getElem.1 hc
    rw [hall j _ (List.getElem?_eq_getElem hj) (by omega)]; rfl
   simp
   have hh := h w2 f1
   simpa [this] using hh
theorem bic (a b : Int) : orK [a, b] = if a = 0 then b else a := by
 unfold orK
 by_cases ha : a = 0 <;> by_cases hb : b = 0 <;> simp [List.find?, ha, hb]
theorem aqn (s : ByteArray) : ud s = 0 ∨ ud s = 5 := by
 unfold ud
 split
 ·exact .inr rfl
 split
 ·exact .inl rfl
 ·exact .inr rfl
theorem asf {w : World} (s : Spn) {K : KV} (h : ∀ w', Fr (fun _ => False) w w' → K (.int .i64 (uf s)) w') : ja P F.dc [tu s] w K := by
 apply M.cl.calls
 unfold M.cl
 rw [bej]
 have hb := bcc w s
 have hf : Fr (fun _ => False) w (w.alloc (.cells #[.int .u64 s.mo, .int .u64 s.id, .int .u64 s.qh, .int .u64 s.jc, .int .u64 s.len, .string s.ku, .string s.name, .bool s.wi] T.z)) := (Fr.refl _ w).alloc _
 generalize w.alloc (.cells #[.int .u64 s.mo, .int .u64 s.id, .int .u64 s.qh, .int .u64 s.jc, .int .u64 s.len, .string s.ku, .string s.name, .bool s.wi] T.z) = wa at *
 have c0 := vw hb 0 _ rfl
 have c1 := vw hb 1 _ rfl
 have c3 := vw hb 3 _ rfl
 have c4 := vw hb 4 _ rfl
 have c5 := vw hb 5 _ rfl
 unfold uf at h
 simp only [fm]
 by_cases h0 : s.mo = 0
 ·simp [c0, h0] at h ⊢
  exact h wa hf
 by_cases h1 : s.id = 0
 ·simp [c0, c1, h0, h1] at h ⊢
  exact h wa hf
 by_cases h2 : 1099511627776 < s.jc
 ·have h3 : 1099511627776 < max s.jc s.len := by omega
  simp [c0, c1, c3, h0, h1, h2, h3] at h ⊢
  exact h wa hf
 by_cases h2' : 1099511627776 < s.len
 ·have h3 : 1099511627776 < max s.jc s.len := by omega
  simp [c0, c1, c3, c4, h0, h1, h2, h2', h3] at h ⊢
  exact h wa hf
 have h3 : ¬ 1099511627776 < max s.jc s.len := by omega
 rw [if_neg (by simp [h0, h1, h3]), bic] at h
 simp [c0, c1, c3, c4, h0, h1, h2, h2']
 unfold M.cl.j0
 simp [c5]
 rw [M.bm.fcall]
 refine ald _ fun w2 f2 => ?_
 have hb2 : aov w2 w.heap.size s := f2.heap hb fun h => h
 have d6 := vw hb2 6 _ rfl
 by_cases n1 : ud s.ku = 0
 ·simp [n1, d6] at h ⊢
  rw [M.bm.fcall]
  refine ald _ fun w3 f3 => ?_
  have hh := h w3 ((hf.trans f2).trans f3)
  rcases aqn s.name with n2 | n2
  ·simp [n2] at hh ⊢; exact hh
  ·simp [n2] at hh ⊢; exact hh
 ·have n5 : ud s.ku = 5 := (aqn _).resolve_left n1
  have hh := h w2 (hf.trans f2)
  simp [n5] at hh ⊢
  exact hh
def SoI (W : World) (tr : Int) (l : List Spn) : KL := fun x w1 => ∃ (u0 u1 : Value) (i : Nat), x = [u0, u1, .int .i64 (i : Nat)] ∧ i ≤ l.length ∧ ti tr [] l = ti tr ((l.take i).map Spn.id) (l.drop i) ∧ Fr (fun _ => False) W w1
def SiI (W : World) (l : List Spn) (i : Nat) (hi : i < l.length) : KL := fun x w1 => ∃ (u : Value) (j : Nat), x = [u, .int .i64 (j : Nat)] ∧ j ≤ i ∧ (∀ k (hk : k < l.length), k < j → l[k].id ≠ l[i].id) ∧ Fr (fun _ => False) W w1
theorem afp {w : World} {v : Value} {l : List Spn} {tr : Int} (hs : SlS w v l) (hlen : l.length ≤ 1000000) {K : KV} (h : ∀ w', Fr (fun _ => False) w w' → K (.bool (qy tr l)) w') : fj P F.cc [.int .u64 tr, v] w K := by
 rw [M.an.fcall]
 apply M.an.calls
 unfold M.an
 simp only [fm]
 have hln : ∀ w' K, biT P .len #[T.n] T.b [false] [v] w' K = K (.int .i64 l.length) w' := fun w' K => hs.im (by kernel_rfl) [false]
 refine ⟨SoI w tr l, fun x _ => l.length - ms x 2, ⟨_, _, 0, rfl, Nat.zero_le _, by simp, Fr.refl _ _⟩, ?_⟩
 rintro x w1 ⟨u0, u1, i, rfl, hi, hr, f1⟩
 unfold M.an.j1
 by_cases hil : i < l.length
 ·have hili : (i : Int) < (l.length : Int) := by omega
  have hwi : IntKind.i64.wrap ((i : Int) + 1) = ((i + 1 : Nat) : Int) := by rw [fq (by omega) (by omega)]; rfl
  simp [hln, hil]
  unfold M.an.j2
  obtain ⟨b, o, cap, hv, hb, _, hc⟩ := (hs.fr f1 fun _ _ _ h => h : SlS w1 v l).at hil
  have hia : ∀ w' K, iaT P T.n v (.int .i64 (i : Nat)) w' K = K (.pointer (some ⟨b, o + i * 8, none⟩)) w' := fun w' K => by rw [hv]; simp [hil]
  have hld : ∀ K, ldN P 8 b (o + i * 8) w1 K = K (tu l[i]) w1 := fun K => ldS hc K
  have hdrop : l.drop i = l[i] :: l.drop (i + 1) := List.drop_eq_getElem_cons hil
  rw [hdrop] at hr
  simp [hia, hld]
  rw [M.cl.fcall]
  refine asf l[i] fun w2 f2 => ?_
  have no : ∀ w', Fr (fun _ => False) w w' → ¬ (uf l[i] = 0 ∧ l[i].mo = tr ∧ l[i].id ∉ (l.take i).map Spn.id) → K (.bool false) w' := fun w' f hn => by
   have := h w' f
   unfold qy at this
   rw [hr, agn hn] at this
   simpa using this
  have c0 : ft w2 b (o + i * 8) = some (.int .u64 l[i].mo) := by
   have := hc 0 _ rfl
   rw [Nat.add_zero] at this
   rw [tc (f2.jj b hb fun h => h)]; exact this
  by_cases h1 : uf l[i] = 0
  case neg =>
   simp [h1]
   exact no w2 (f1.trans f2) fun hh => h1 hh.1
  by_cases h2 : l[i].mo = tr
  case neg =>
   simp [h1, hia, c0, h2]
   exact no w2 (f1.trans f2) fun hh => h2 hh.2.1
  simp [h1, hia, c0, h2]
  refine ⟨SiI w l i hil, fun x _ => i - ms x 1, ⟨_, 0, rfl, Nat.zero_le _, fun k _ hk => by omega, f1.trans f2⟩, ?_⟩
  rintro x w3 ⟨u, j, rfl, hj, hpre, f3⟩
  have hs3 : SlS w3 v l := hs.fr f3 fun _ _ _ h => h
  by_cases hji : j < i
  ·have hjl : j < l.length := by omega
   have hjii : (j : Int) < (i : Int) := by omega
   have hwj : IntKind.i64.wrap ((j : Int) + 1) = ((j + 1 : Nat) : Int) := by rw [fq (by omega) (by omega)]; rfl
   obtain ⟨b1, o1, c1, e1, _, _, k1⟩ := hs3.at hil
   obtain ⟨b2, o2, c2, e2, _, _, k2⟩ := hs3.at hjl
   have i1 : ∀ w' K, iaT P T.n v (.int .i64 (i : Nat)) w' K = K (.pointer (some ⟨b1, o1 + i * 8, none⟩)) w' := fun w' K => by rw [e1]; simp [hil]
   have i2 : ∀ w' K, iaT P T.n v (.int .i64 (j : Nat)) w' K = K (.pointer (some ⟨b2, o2 + j * 8, none⟩)) w' := fun w' K => by rw [e2]; simp [hjl]
   have q1 := k1 1 _ rfl
   have q2 := k2 1 _ rfl
   simp [hjii]
   unfold M.an.j6
   by_cases he : l[j].id = l[i].id
   ·simp [i1, i2, q1, q2, he]
    refine no _ (f3.dr 1) fun hh => hh.2.2 ?_
    rw [List.mem_map]
    exact ⟨l[j], List.mem_take_iff_getElem.2 ⟨j, by omega, rfl⟩, he⟩
   ·simp [i1, i2, q1, q2, he, hwj]
    refine ⟨⟨_, j + 1, rfl, by omega, fun k hk hkj => ?_, f3.dr 1⟩, by simp [ms, gv]; omega⟩
    by_cases hkj2 : k = j
    ·subst hkj2; exact he
    ·exact hpre k hk (by omega)
  ·have hjii : ¬ (j : Int) < (i : Int) := by omega
   simp [hjii, hwi]
   refine ⟨⟨_, _, i + 1, rfl, by omega, ?_, f3⟩, by simp [ms, gv]; omega⟩
   have hni : l[i].id ∉ (l.take i).map Spn.id := fun hm => by
    obtain ⟨s, hs', hse⟩ := List.mem_map.1 hm
    obtain ⟨k, hk, rfl⟩ := List.mem_take_iff_getElem.1 hs'
    exact hpre k (by omega) (by omega) hse
   rw [hr, aic h1 h2 hni, List.take_add_one, List.map_append, List.getElem?_eq_getElem hil]
   rfl
 ·have hili : ¬ (i : Int) < (l.length : Int) := by omega
  have hr1 : ti tr [] l = true := by rw [hr, List.drop_of_length_le (by omega)]; rfl
  simp [hln, hil]
  unfold M.an.j0
  have fin := h w1 f1
  unfold qy at fin
  rw [hr1] at fin
  by_cases h0 : 0 < l.length
  ·have h0' : (1 : Int) ≤ l.length := by omega
   by_cases h16 : l.length ≤ 16
   ·have h16' : (l.length : Int) ≤ 16 := by omega
    simp [hln, h0', h16']
    simpa [h0, h16] using fin
   ·have h16' : ¬ (l.length : Int) ≤ 16 := by omega
    simp [hln, h0', h16']
    simpa [h0, h16] using fin
  ·have h0' : ¬ (1 : Int) ≤ l.length := by omega
   simp [hln, h0']
   simpa [h0] using fin
def aki (l : List Int) (i : Nat) : Int := match i with
 | 0 => 0
 | i + 1 => l.getD i 0
def RrI (W : World) (l : List Int) : KL := fun x w1 => ∃ (u : Value) (i : Nat), x = [u, .int .i64 (i : Nat)] ∧ i ≤ l.length ∧ sj 0 l = sj (aki l i) (l.drop i) ∧ Fr (fun _ => False) W w1
theorem avk {w : World} {v : Value} {l : List Int} (hs : SlU w v l) (hlen : l.length ≤ 1000000) (hid : ∀ m ∈ l, 0 ≤ m) {K : KV} (h : ∀ w', Fr (fun _ => False) w w' → K (.bool (sj 0 l && (decide (0 < l.length) && decide (l.length ≤ 16)))) w') : fj P F.dm [v] w K := by
 rw [M.bv.fcall]
 apply M.bv.calls
 unfold M.bv
 simp only [fm]
 have hln : ∀ w' K, biT P .len #[T.f] T.b [false] [v] w' K = K (.int .i64 l.length) w' := fun w' K => hs.im (by kernel_rfl) [false]
 refine ⟨RrI w l, fun x _ => l.length - ms x 1, ⟨_, 0, rfl, Nat.zero_le _, rfl, Fr.refl _ _⟩, ?_⟩
 rintro x w1 ⟨u, i, rfl, hi, hr, f1⟩
 by_cases hil : i < l.length
 ·have hili : (i : Int) < (l.length : Int) := by omega
  have hwi : IntKind.i64.wrap ((i : Int) + 1) = ((i + 1 : Nat) : Int) := by rw [fq (by omega) (by omega)]; rfl
  simp [hln, hil]
  unfold M.bv.j2
  have hs1 : SlU w1 v l := hs.fr f1 fun _ _ _ h => h
  obtain ⟨b, o, cap, hv, hb, hc⟩ := yb hs1 hil
  have hia : ∀ w' K, iaT P T.f v (.int .i64 (i : Nat)) w' K = K (.pointer (some ⟨b, o + i, none⟩)) w' := fun w' K => by rw [hv]; simp [hil]
  have hdrop : l.drop i = l[i] :: l.drop (i + 1) := List.drop_eq_getElem_cons hil
  rw [hdrop, sj] at hr
  have hm0 := hid _ (List.getElem_mem hil)
  have no : ¬ aki l i < l[i] → K (.bool false) (dr w1 1) := fun hn => by
   have := h _ (f1.dr 1)
   rw [hr, decide_eq_false hn] at this
   simpa using this
  have yes : aki l i < l[i] → RrI w l [u, .int .i64 (IntKind.i64.wrap ((i : Int) + 1))] (dr w1 1) ∧ l.length - ms [u, .int .i64 (IntKind.i64.wrap ((i : Int) + 1))] 1 < l.length - ms [u, .int .i64 (i : Nat)] 1 := fun hy => by
   rw [hwi]
   refine ⟨⟨_, i + 1, rfl, by omega, ?_, f1.dr 1⟩, by simp [ms, gv]; omega⟩
   rw [hr, decide_eq_true hy, Bool.true_and]
   show _ = sj (l.getD i 0) _
   rw [List.getD_eq_getElem?_getD, List.getElem?_eq_getElem hil]
   rfl
  by_cases hz : l[i] = 0
  ·simp [hia, hc, hz]
   refine no ?_
   rw [hz]
   cases i with
   | zero => simp [aki]
   | succ j =>
    show ¬ l.getD j 0 < 0
    rw [List.getD_eq_getElem?_getD, List.getElem?_eq_getElem (by omega)]
    have := hid _ (List.getElem_mem (show j < l.length by omega))
    simp; exact this
  cases i with
  | zero =>
   have yy := yes (by show 0 < _; omega)
   have hia' : ∀ w' K, iaT P T.f v (.int .i64 0) w' K = K (.pointer (some ⟨b, o + 0, none⟩)) w' := fun w' K => hia w' K
   have hc0 : ft w1 b o = some (.int .u64 l[0]) := hc
   simp [hia', hc0, hz]
   simpa using yy
  | succ j =>
   have hjl : j < l.length := by omega
   obtain ⟨b2, o2, cap2, hv2, hb2, hc2⟩ := yb hs1 hjl
   have hia2 : ∀ w' K, iaT P T.f v (.int .i64 (j : Nat)) w' K = K (.pointer (some ⟨b2, o2 + j, none⟩)) w' := fun w' K => by rw [hv2]; simp [hjl]
   have hwj : IntKind.i64.wrap (((j + 1 : Nat) : Int) - 1) = (j : Int) := by rw [fq (by omega) (by omega)]; omega
   have hwj' : IntKind.i64.wrap (j : Int) = (j : Int) := by rw [fq (by omega) (by omega)]
   have hpos : (0 : Int) < (j : Int) + 1 := by omega
   have hpos' : (0 : Int) < ((j + 1 : Nat) : Int) := by omega
   have hla : aki l (j + 1) = l[j] := by
    show l.getD j 0 = _
    rw [List.getD_eq_getElem?_getD, List.getElem?_eq_getElem hjl]; rfl
   have hia' : ∀ w' K, iaT P T.f v (.int .i64 ((j : Int) + 1)) w' K = K (.pointer (some ⟨b, o + (j + 1), none⟩)) w' := fun w' K => hia w' K
   by_cases hge : l[j + 1] ≤ l[j]
   ·simp [hia', hc, hz, hpos, hwj', hia2, hc2, hge]
    exact no (by rw [hla]; omega)
   ·have yy := yes (by rw [hla]; omega)
    simp [hia', hc, hz, hpos, hwj', hia2, hc2, hge]
    simpa using yy
 ·have hili : ¬ (i : Int) < (l.length : Int) := by omega
  have hr1 : sj 0 l = true := by rw [hr, List.drop_of_length_le (by omega)]; rfl
  simp [hln, hil]
  unfold M.bv.j0
  have fin := h w1 f1
  rw [hr1] at fin
  by_cases h0 : 0 < l.length
  ·have h0' : (1 : Int) ≤ l.length := by omega
   by_cases h16 : l.length ≤ 16
   ·have h16' : (l.length : Int) ≤ 16 := by omega
    simp [hln, h0', h16']
    simpa [h0, h16] using fin
   ·have h16' : ¬ (l.length : Int) ≤ 16 := by omega
    simp [hln, h0', h16']
    simpa [h0, h16] using fin
  ·have h0' : ¬ (1 : Int) ≤ l.length := by omega
   simp [hln, h0']
   simpa [h0] using fin
def ajx (ok : Bool) (il : Bal) (v : Int) : Bool := (decide (v = 0) || (kg v && !(decide (il = gt)))) && (if ok = true then !(decide (v = 0)) || decide (il = gt) else decide (v = 0) && !(decide (il = gt)))
def kr (p : Pk) (ls : List Spn) (lm : List Mem) (lu : List Int) : Bool :=
 if p.fu = 1 ∨ p.fu = 2 then qy p.tr ls else if p.fu = 3 then ya lm else if p.fu = 4 then decide (0 < p.b.n) else if p.fu = 5 then decide (0 < p.b.n) && ajx p.ok p.il p.v else if p.fu = 6 then decide (0 < p.b.n) && kg p.v else if p.fu = 7 then decide (0 < p.b.n) && (p.ok == decide (p.il = gt)) else if p.fu = 8 then kg p.v else if p.fu = 9 then decide (0 < p.b.n) && qy p.tr ls else if p.fu = 10 then sj 0 lu && (decide (0 < lu.length) && decide (lu.length ≤ 16)) else false
def aho (p : Pk) (ls : List Spn) (lm : List Mem) (lu : List Int) : Bool := pz p (jx p) ls (om p ls) lm (ou p lm) lu (og p lu)
def ss (p : Pk) (ls : List Spn) (lm : List Mem) (lu : List Int) : Bool := (aho p ls lm lu && (decide (p.fu = 3) || decide (0 < p.tr))) && kr p ls lm lu
def zo (p : Pk) (ls : List Spn) (lm : List Mem) (lu : List Int) : Int := if ss p ls lm lu = true then 0 else 6
def po (p : Pk) : Pk := if p.fu = 4 ∨ p.fu = 6 then ⟨if p.v = 0 then 4 else 6, p.tr, p.b, gt, p.v, false, gq, gq, gq⟩ else if p.fu = 5 ∨ p.fu = 7 then ⟨p.fu, p.tr, p.b, p.il, p.v, p.ok, gq, gq, gq⟩ else jx p
theorem azl {p : Pk} {ls : List Spn} {lm : List Mem} {lu : List Int} (hr : vy p) (hk : 1 ≤ p.fu ∧ p.fu ≤ 10) : (rj p ls lm lu && pz p (po p) ls (om p ls) lm (ou p lm) lu (og p lu)) = ss p ls lm lu := by
 have h1 := hr.tr.1
 have h2 := hr.b.1.1
 have core : (rj p ls lm lu && kh p (po p)) = ((kh p (jx p) && (decide (p.fu = 3) || decide (0 < p.tr))) && kr p ls lm lu) := by
  obtain ⟨k, tr, b, il, v, ok, sv, mv, iv⟩ := p
  simp only at hk h1 h2
  have hcase : k = 1 ∨ k = 2 ∨ k = 3 ∨ k = 4 ∨ k = 5 ∨ k = 6 ∨ k = 7 ∨ k = 8 ∨ k = 9 ∨ k = 10 := by omega
  rcases hcase with rfl | rfl | rfl | rfl | rfl | rfl | rfl | rfl | rfl | rfl
  ·simp [rj, kr, po, jx, kh, agb]
   cases qy tr ls <;> by_cases ht : 0 < tr <;> by_cases hb : b = gt <;> by_cases hs : il = gt <;> by_cases hv : v = 0 <;> cases ok <;> simp [ht, hb, hs, hv]
  ·simp [rj, kr, po, jx, kh, agb]
   cases qy tr ls <;> by_cases ht : 0 < tr <;> by_cases hb : b = gt <;> by_cases hs : il = gt <;> by_cases hv : v = 0 <;> cases ok <;> simp [ht, hb, hs, hv]
  ·simp [rj, kr, po, jx, kh]
   cases ya lm <;> by_cases ht : tr = 0 <;> by_cases hb : b = gt <;> by_cases hs : il = gt <;> by_cases hv : v = 0 <;> cases ok <;> simp [ht, hb, hs, hv]
  ·simp [rj, kr, po, jx, kh, aps]
   by_cases ht : 0 < tr <;> by_cases hb : 0 < b.n <;> by_cases hs : il = gt <;> by_cases hv : v = 0 <;> cases ok <;> simp [ht, hb, hs, hv]
  ·simp [rj, kr, po, jx, kh, agh, ajx]
   by_cases ht : tr = 0 <;> by_cases hb : b.n = 0 <;> by_cases hs : il = gt <;> by_cases hv : v = 0 <;> cases ok <;> cases htl : kg v <;> simp [ht, hb, hs, hv, htl] <;> first | omega | (subst hv; simp [kg] at htl) | skip
  ·simp [rj, kr, po, jx, kh, aps]
   by_cases ht : 0 < tr <;> by_cases hb : 0 < b.n <;> by_cases hs : il = gt <;> by_cases hv : v = 0 <;> cases ok <;> simp [ht, hb, hs, hv] <;> first | rfl | (simp [kg]; done) | skip
  ·simp [rj, kr, po, jx, kh, agh]
   by_cases ht : tr = 0 <;> by_cases hb : b.n = 0 <;> by_cases hs : il = gt <;> by_cases hv : v = 0 <;> cases ok <;> simp [ht, hb, hs, hv] <;> first | omega | skip
  ·simp [rj, kr, po, jx, kh, aof]
   by_cases ht : 0 < tr <;> by_cases hb : b = gt <;> by_cases hs : il = gt <;> cases ok <;> simp [ht, hb, hs]
  ·simp [rj, kr, po, jx, kh, ahh]
   cases qy tr ls <;> by_cases ht : 0 < tr <;> by_cases hb : 0 < b.n <;> by_cases hs : il = gt <;> by_cases hv : v = 0 <;> cases ok <;> simp [ht, hb, hs, hv]
  ·simp [rj, kr, po, jx, kh, akl]
   cases sj 0 lu <;> by_cases ht : 0 < tr <;> by_cases hb : b = gt <;> by_cases hs : il = gt <;> by_cases hv : v = 0 <;> cases ok <;> simp [ht, hb, hs, hv]
 unfold ss aho pz
 generalize decide (lm = ou p lm) = A
 generalize decide (lu = og p lu) = B
 generalize rn ls (om p ls) = C
 cases A <;> cases B <;> cases C <;> simp <;> simpa using core
theorem vq {p q q' : Pk} (h1 : q.fu = q'.fu) (h2 : q.tr = q'.tr) (h3 : q.b = q'.b) (h4 : q.il = q'.il) (h5 : q.v = q'.v) (h6 : q.ok = q'.ok) : kh p q = kh p q' := by
 unfold kh; rw [h1, h2, h3, h4, h5, h6]
theorem ayt {w : World} {p : Pk} {ls : List Spn} {lm : List Mem} {lu : List Int} {t : Value} (ht : ThR w p ls lm lu t) (hk : 1 ≤ p.fu ∧ p.fu ≤ 10) (l1 : ls.length ≤ 1000000) (l2 : lm.length ≤ 1000000) (l3 : lu.length ≤ 1000000) {K : KV}
  (h : ∀ w' q, nq w' q (om p ls) (ou p lm) (og p lu) → (∀ x, kh x q = kh x (po p)) → Fr (fun _ => False) w w' → K (pkA q) w') : fj P F.ac [t] w K := by
 have e0 : ([] : List Spn).length ≤ 1000000 := by simp
 have e1 : ([] : List Mem).length ≤ 1000000 := by simp
 have e2 : ([] : List Int).length ≤ 1000000 := by simp
 cases ht with
 | sk v q hs =>
  have hS : om p ls = ls := by unfold om; rw [if_pos (by omega)]
  have hM : ou p lm = [] := by unfold ou; rw [if_neg (by omega)]
  have hU : og p lu = [] := by unfold og; rw [if_neg (by omega)]
  rw [hS, hM, hU] at h
  refine amb hs l1 fun w' v' s f => h w' _ ⟨s, Sl.nil, Sl.nil, l1, e1, e2⟩ (fun x => vq ?_ ?_ ?_ ?_ ?_ ?_) f
  all_goals rcases q with q | q <;> simp [po, jx, q]
 | agw v q hs =>
  have hS : om p ls = [] := by unfold om; rw [if_neg (by omega)]
  have hM : ou p lm = lm := by unfold ou; rw [if_pos (by omega)]
  have hU : og p lu = [] := by unfold og; rw [if_neg (by omega)]
  rw [hS, hM, hU] at h
  refine avy hs l2 fun w' v' s f => h w' ⟨3, 0, gt, gt, 0, false, gq, v', gq⟩ ⟨Sl.nil, s, Sl.nil, e0, l2, e2⟩ (fun x => vq ?_ ?_ ?_ ?_ ?_ ?_) f
  all_goals simp [po, jx, q]
 | ask q =>
  have hS : om p ls = [] := by unfold om; rw [if_neg (by omega)]
  have hM : ou p lm = [] := by unfold ou; rw [if_neg (by omega)]
  have hU : og p lu = [] := by unfold og; rw [if_neg (by omega)]
  rw [hS, hM, hU] at h
  refine app fun w' f => h w' _ ⟨Sl.nil, Sl.nil, Sl.nil, e0, e1, e2⟩ (fun x => vq ?_ ?_ ?_ ?_ ?_ ?_) f
  all_goals rcases q with q | q <;> simp [po, bat, q]
 | yj q =>
  have hS : om p ls = [] := by unfold om; rw [if_neg (by omega)]
  have hM : ou p lm = [] := by unfold ou; rw [if_neg (by omega)]
  have hU : og p lu = [] := by unfold og; rw [if_neg (by omega)]
  rw [hS, hM, hU] at h
  refine amp fun w' f => h w' _ ⟨Sl.nil, Sl.nil, Sl.nil, e0, e1, e2⟩ (fun x => vq ?_ ?_ ?_ ?_ ?_ ?_) f
  all_goals rcases q with q | q <;> simp [po, q]
 | um q =>
  have hS : om p ls = [] := by unfold om; rw [if_neg (by omega)]
  have hM : ou p lm = [] := by unfold ou; rw [if_neg (by omega)]
  have hU : og p lu = [] := by unfold og; rw [if_neg (by omega)]
  rw [hS, hM, hU] at h
  refine anx fun w' f => h w' _ ⟨Sl.nil, Sl.nil, Sl.nil, e0, e1, e2⟩ (fun x => vq ?_ ?_ ?_ ?_ ?_ ?_) f
  all_goals simp [po, jx, q]
 | vl v q hs =>
  have hS : om p ls = ls := by unfold om; rw [if_pos (by omega)]
  have hM : ou p lm = [] := by unfold ou; rw [if_neg (by omega)]
  have hU : og p lu = [] := by unfold og; rw [if_neg (by omega)]
  rw [hS, hM, hU] at h
  refine akj hs l1 fun w' v' s f => h w' _ ⟨s, Sl.nil, Sl.nil, l1, e1, e2⟩ (fun x => vq ?_ ?_ ?_ ?_ ?_ ?_) f
  all_goals simp [po, jx, q]
 | yi v q hs =>
  have hS : om p ls = [] := by unfold om; rw [if_neg (by omega)]
  have hM : ou p lm = [] := by unfold ou; rw [if_neg (by omega)]
  have hU : og p lu = lu := by unfold og; rw [if_pos (by omega)]
  rw [hS, hM, hU] at h
  refine amf hs l3 fun w' v' s f => h w' _ ⟨Sl.nil, Sl.nil, s, e0, e1, l3⟩ (fun x => vq ?_ ?_ ?_ ?_ ?_ ?_) f
  all_goals simp [po, jx, q]
 | none q => exact absurd hk q
theorem axm {p : Pk} {ls : List Spn} {lm : List Mem} {lu : List Int} (h : ¬ (1 ≤ p.fu ∧ p.fu ≤ 10)) : ss p ls lm lu = false := by
 unfold ss kr
 rw [if_neg (by omega), if_neg (by omega), if_neg (by omega), if_neg (by omega), if_neg (by omega), if_neg (by omega), if_neg (by omega), if_neg (by omega), if_neg (by omega), Bool.and_false]
theorem aro {w : World} {p : Pk} {ls : List Spn} {lm : List Mem} {lu : List Int} (hp : nq w p ls lm lu) (hr : vy p) {K : KV} (h : ∀ w', Fr (fun _ => False) w w' → K (.int .i64 (zo p ls lm lu)) w') : fj P F.ej [pkA p] w K := by
 rw [M.ei.fcall]
 apply M.ei.calls
 unfold M.ei
 refine St.pm (St.jc w) fun pb w1 S1 => ?_
 have S1' : St w w1 (ga pb (pkC p).toArray T.a :: []) := S1
 have pl := fun K => sq S1' K
 simp [pl]
 refine anl (hp.fr S1.fr) fun w2 t ht f2 => ?_
 have S2 := S1'.iq f2
 have S3 := S2.iq ((Fr.refl _ w2).dr 1)
 unfold zo at h
 by_cases hk : 1 ≤ p.fu ∧ p.fu ≤ 10
 case neg =>
  rw [ht.bhd hk]
  rw [axm hk] at h
  simp [bdo]
  exact h _ S3.fr
 rw [← azl hr hk] at h
 simp [ht.eqn hk]
 have ht3 := ht.fr ((Fr.refl _ w2).dr 1)
 refine bfe ht3 hk hp.ls hp.lm hp.lu fun w4 f4 => ?_
 have S4 := S3.iq f4
 have pl4 := fun K => sq S4 K
 cases hb : rj p ls lm lu with
 | false =>
  rw [hb] at h
  simp
  exact h _ S4.fr
 | true =>
 rw [hb, Bool.true_and] at h
 simp [pl4]
 refine ayt (ht3.fr f4) hk hp.ls hp.lm hp.lu fun w5 q hq hf f5 => ?_
 have S5 := S4.iq f5
 have pl5 := fun K => sq S5 K
 simp [pl5]
 refine azu (hp.fr S5.fr) hq fun w6 f6 => ?_
 have S6 := S5.iq f6
 have fin := h w6 S6.fr
 have e : pz p q ls (om p ls) lm (ou p lm) lu (og p lu) = pz p (po p) ls (om p ls) lm (ou p lm) lu (og p lu) := by unfold pz; rw [hf p]
 rw [e]
 generalize pz p (po p) ls (om p ls) lm (ou p lm) lu (og p lu) = bb at *
 cases bb with
 | true => simp at fin ⊢; exact fin
 | false => simp at fin ⊢; exact fin
theorem azx {w : World} {p : Pk} {ls : List Spn} {lm : List Mem} {lu : List Int} (hp : nq w p ls lm lu) (hr : vy p) {K : KV} (h1 : ss p ls lm lu = true → ∀ w' t, ThR w' p ls lm lu t → Fr (fun _ => False) w w' → K (.tuple #[t, .int .i64 0]) w') (h0 : ss p ls lm lu = false → ∀ w', Fr (fun _ => False) w w' → K (.tuple #[.nilIface, .int .i64 6]) w') : fj P F.es [pkA p] w K := by
 rw [M.ey.fcall]
 apply M.ey.calls
 unfold M.ey
 refine St.pm (St.jc w) fun pb w1 S1 => ?_
 have S1' : St w w1 (ga pb (pkC p).toArray T.a :: []) := S1
 have pl := fun K => sq S1' K
 simp [pl]
 refine aro (hp.fr S1.fr) hr fun w2 f2 => ?_
 have S2 := S1'.iq f2
 unfold zo
 cases he : ss p ls lm lu with
 | false =>
  simp
  exact h0 he w2 S2.fr
 | true =>
  simp
  have pl2 := fun K => sq S2 K
  simp [pl2]
  refine anl (hp.fr S2.fr) fun w3 t ht f3 => ?_
  exact h1 he w3 t ht (S2.iq f3).fr
theorem adt {x : Int} (h : 0 ≤ x) : decide (0 < x) = !decide (x = 0) := by
 by_cases hx : x = 0
 ·simp [hx]
 ·have : 0 < x := by omega
  simp [hx, this]
theorem bdj {v : Int} : kg v = (decide (1 ≤ v) && decide (v ≤ 3)) := by unfold kg; simp
theorem anw {w : World} {p : Pk} {ls : List Spn} {lm : List Mem} {lu : List Int} (hp : nq w p ls lm lu) (hr : vy p) (hm : ∀ m ∈ lm, 0 ≤ m.id) (hu : ∀ m ∈ lu, 0 ≤ m) {K : KV} (h : ∀ w', Fr (fun _ => False) w w' → K (.int .i64 (zo p ls lm lu)) w') : fj P F.cb [pkA p] w K := by
 rw [M.bg.fcall]
 apply M.bg.calls
 unfold M.bg
 refine St.pm (St.jc w) fun pb w1 S1 => ?_
 have S1' : St w w1 (ga pb (pkC p).toArray T.a :: []) := S1
 obtain ⟨_, _, _, c4, _⟩ := ij S1'
 have S1d := S1'.iq ((Fr.refl _ w1).dr 1)
 have pl := fun K => sq S1d K
 simp [c4, bda, pp, pl]
 refine bez (hp.fr S1d.fr) fun w2 f2 => ?_
 have S2 := S1d.iq f2
 have pl2 := fun K => sq S2 K
 simp [pl2]
 refine agd (hp.fr S2.fr) (asu (hp.fr S2.fr)) fun w3 f3 => ?_
 have S3 := S2.iq f3
 obtain ⟨c0, c1, c2, c4, c6, c7, c8, c9, c10, _⟩ := ij S3
 have hbn : ft w3 pb 2 = some (.int .u64 p.b.n) := by rw [S3.cell]; rfl
 have hp3 := hp.fr S3.fr
 show _
 have eB : pz p (jx p) ls (om p ls) lm (ou p lm) lu (og p lu) = aho p ls lm lu := rfl
 rw [eB]
 have h1 := hr.tr.1
 have h2 := hr.b.1.1
 unfold zo ss at h
 rw [adt h1] at h
 have hbo : acm P T.ap = true := by kernel_rfl
 -- the um of its verdict
 have main : ∀ (B : Bool), B = (aho p ls lm lu && (decide (p.fu = 3) || !decide (p.tr = 0))) → ∀ (K0 : KL), (∀ (v0 v1 : Value) (r : List Value) (w4 : World), Fr (fun _ => False) w w4 → K0 (v0 :: v1 :: .bool (B && kr p ls lm lu) :: r) w4) →
   ∀ t33 x1, t33 = .int .i64 p.fu → x1 = [.bool (decide (p.fu = 1) || decide (p.fu = 2))] → M.bg.j1 x1 (.bool B) (.pointer (some ⟨pb, 0, none⟩)) K0 t33 (.bool (kg p.v)) (.bool (decide (p.il = gt))) w3 K := by
  intro B eB K0 hK t33 x1 e33 ex
  subst e33 ex
  unfold M.bg.j1
  have fin := fun v0 v1 r => hK v0 v1 r w3 S3.fr
  by_cases q12 : p.fu = 1 ∨ p.fu = 2
  ·have hk : kr p ls lm lu = qy p.tr ls := by unfold kr; rw [if_pos q12]
   rw [hk] at hK fin
   have hd : (decide (p.fu = 1) || decide (p.fu = 2)) = true := by simpa using q12
   rw [hd]
   cases B with
   | false => simp at fin ⊢; exact fin _ _ _
   | true =>
    simp [c1, c8]
    refine afp hp3.s hp.ls fun w4 f4 => ?_
    exact hK _ _ _ w4 (S3.fr.trans f4)
  have n1 : ¬ p.fu = 1 := fun h => q12 (.inl h)
  have n2 : ¬ p.fu = 2 := fun h => q12 (.inr h)
  by_cases q3 : p.fu = 3
  ·have hk : kr p ls lm lu = ya lm := by unfold kr; rw [if_neg q12, if_pos q3]
   rw [hk] at hK fin
   cases B with
   | false => simp [n1, n2, q3] at fin ⊢; exact fin _ _ _
   | true =>
    simp [q3, c9]
    refine anv hp3.m hp.lm hm fun w4 f4 => ?_
    exact hK _ _ _ w4 (S3.fr.trans f4)
  by_cases q4 : p.fu = 4
  ·have hk : kr p ls lm lu = !decide (p.b.n = 0) := by unfold kr; rw [if_neg q12, if_neg q3, if_pos q4, adt h2]
   rw [hk] at hK fin
   cases B with
   | false => simp [n1, n2, q3, q4] at fin ⊢; exact fin _ _ _
   | true => simp [q4, hbn] at fin ⊢; exact fin _ _ _
  by_cases q5 : p.fu = 5
  ·have hk : kr p ls lm lu = (!decide (p.b.n = 0) && ajx p.ok p.il p.v) := by unfold kr; rw [if_neg q12, if_neg q3, if_neg q4, if_pos q5, adt h2]
   rw [hk] at hK fin
   unfold ajx at fin
   cases B with
   | false => cases hok : p.ok <;> simp [n1, n2, q3, q4, q5, c7, hok] at fin ⊢ <;> exact fin _ _ _
   | true =>
    cases hok : p.ok <;> cases htl : kg p.v <;> by_cases hb : p.b.n = 0 <;> by_cases hv : p.v = 0 <;> by_cases hs : p.il = gt <;> simp [q5, hbn, c7, c6, hok, htl, hb, hv, hs] at fin ⊢ <;> exact fin _ _ _
  by_cases q6 : p.fu = 6
  ·have hk : kr p ls lm lu = (!decide (p.b.n = 0) && kg p.v) := by unfold kr; rw [if_neg q12, if_neg q3, if_neg q4, if_neg q5, if_pos q6, adt h2]
   rw [hk] at hK fin
   cases B with
   | false => simp [n1, n2, q3, q4, q5, q6] at fin ⊢; exact fin _ _ _
   | true => by_cases hb : p.b.n = 0 <;> simp [q6, hbn, hb] at fin ⊢ <;> exact fin _ _ _
  by_cases q7 : p.fu = 7
  ·have hk : kr p ls lm lu = (!decide (p.b.n = 0) && (p.ok == decide (p.il = gt))) := by unfold kr; rw [if_neg q12, if_neg q3, if_neg q4, if_neg q5, if_neg q6, if_pos q7, adt h2]
   rw [hk] at hK fin
   cases B with
   | false => simp [n1, n2, q3, q4, q5, q6, q7] at fin ⊢; exact fin _ _ _
   | true => by_cases hb : p.b.n = 0 <;> simp [q7, hbn, hb, c7, aez hbo] at fin ⊢ <;> exact fin _ _ _
  by_cases q8 : p.fu = 8
  ·have hk : kr p ls lm lu = kg p.v := by unfold kr; rw [if_neg q12, if_neg q3, if_neg q4, if_neg q5, if_neg q6, if_neg q7, if_pos q8]
   rw [hk] at hK fin
   cases B with
   | false => simp [n1, n2, q3, q4, q5, q6, q7, q8] at fin ⊢; exact fin _ _ _
   | true => simp [q8] at fin ⊢; exact fin _ _ _
  by_cases q9 : p.fu = 9
  ·have hk : kr p ls lm lu = (!decide (p.b.n = 0) && qy p.tr ls) := by unfold kr; rw [if_neg q12, if_neg q3, if_neg q4, if_neg q5, if_neg q6, if_neg q7, if_neg q8, if_pos q9, adt h2]
   rw [hk] at hK fin
   cases B with
   | false => simp [n1, n2, q3, q4, q5, q6, q7, q8, q9] at fin ⊢; exact fin _ _ _
   | true =>
    by_cases hb : p.b.n = 0
    ·simp [q9, hbn, hb] at fin ⊢; exact fin _ _ _
    ·simp [q9, hbn, hb, c1, c8]
     refine afp hp3.s hp.ls fun w4 f4 => ?_
     have fin4 := fun v0 v1 r => hK v0 v1 r w4 (S3.fr.trans f4)
     simp [hb] at fin4 ⊢
     exact fin4 _ _ _
  by_cases q10 : p.fu = 10
  ·have hk : kr p ls lm lu = (sj 0 lu && (decide (0 < lu.length) && decide (lu.length ≤ 16))) := by unfold kr; rw [if_neg q12, if_neg q3, if_neg q4, if_neg q5, if_neg q6, if_neg q7, if_neg q8, if_neg q9, if_pos q10]
   rw [hk] at hK fin
   cases B with
   | false => simp [n1, n2, q3, q4, q5, q6, q7, q8, q9, q10] at fin ⊢; exact fin _ _ _
   | true =>
    simp [q10, c10]
    refine avk hp3.u hp.lu hu fun w4 f4 => ?_
    exact hK _ _ _ w4 (S3.fr.trans f4)
  ·have hk : kr p ls lm lu = false := by unfold kr; rw [if_neg q12, if_neg q3, if_neg q4, if_neg q5, if_neg q6, if_neg q7, if_neg q8, if_neg q9, if_neg q10]
   rw [hk, Bool.and_false] at fin
   simp [n1, n2, q3, q4, q5, q6, q7, q8, q9, q10]
   exact fin _ _ _
 have fin : ∀ w4, Fr (fun _ => False) w w4 → K (.int .i64 (if (((aho p ls lm lu && (decide (p.fu = 3) || !decide (p.tr = 0))) && kr p ls lm lu) = true) then 0 else 6)) w4 := h
 have m2 := main _ rfl
 have tl : kg p.v = (decide (1 ≤ p.v) && decide (p.v ≤ 3)) := bdj
 generalize aho p ls lm lu = E at *
 have m3 := fun e K0 hK t33 x1 a b => main (E && (decide (p.fu = 3) || !decide (p.tr = 0))) e K0 hK t33 x1 a b
 have m4 := m3 rfl
 have tailK : ∀ (X : Bool) (w4 : World), X = ((E && (decide (p.fu = 3) || !decide (p.tr = 0))) && kr p ls lm lu) → Fr (fun _ => False) w w4 → (unT P .not (.bool X) w4 fun t162 w => fl t162 (K (.int .i64 6) w) (K (.int .i64 0) w)) := fun X w4 e f => by
  have := fin w4 f
  rw [← e] at this
  cases X with
  | true => simp at this ⊢; exact this
  | false => simp at this ⊢; exact this
 have fork : M.bg.j1 [.bool (decide (p.fu = 1) || decide (p.fu = 2))] (.bool (E && (decide (p.fu = 3) || !decide (p.tr = 0)))) (.pointer (some ⟨pb, 0, none⟩)) (fun x0 w => unT P .not (gv x0 2) w fun t162 w => fl t162 (K (.int .i64 6) w) (K (.int .i64 0) w)) (.int .i64 p.fu) (.bool (kg p.v)) (.bool (decide (p.il = gt))) w3 K :=
  m4 _ (fun v0 v1 r w4 f4 => tailK _ w4 rfl f4) _ _ rfl rfl
 clear main m3 m4 m2
 have tl1 : ∀ {Q : Value → World → Prop}, Q (.bool (kg p.v)) w3 → (fi P .geq T.j (.tmp 25) (.const (.int .i64 1)) (.int .i64 p.v) (.int .i64 1) w3 fun t26 w => fh (isB t26 true) (fun K' => K' (.pointer (some ⟨pb, 6, none⟩)) w) w fun t28 w => fh (isB t26 true) (fun K' => ldT P T.j t28 w K') w fun t29 w => fh (isB t26 true) (fun K' => fi P .leq T.j (.tmp 29) (.const (.int .i64 3)) t29 (.int .i64 3) w K') w fun t30 w => gc t26 t30 (.bool false) w Q) := fun {Q} hQ => by
  rw [tl] at hQ
  by_cases v1 : 1 ≤ p.v
  ·by_cases v3 : p.v ≤ 3
   ·simp [v1, v3, c6] at hQ ⊢; exact hQ
   ·simp [v1, v3, c6] at hQ ⊢; exact hQ
  ·simp [v1] at hQ ⊢; exact hQ
 have go : (fi P .geq T.j (.tmp 25) (.const (.int .i64 1)) (.int .i64 p.v) (.int .i64 1) w3 fun t26 w => fh (isB t26 true) (fun K' => K' (.pointer (some ⟨pb, 6, none⟩)) w) w fun t28 w => fh (isB t26 true) (fun K' => ldT P T.j t28 w K') w fun t29 w => fh (isB t26 true) (fun K' => fi P .leq T.j (.tmp 29) (.const (.int .i64 3)) t29 (.int .i64 3) w K') w fun t30 w => gc t26 t30 (.bool false) w fun t31 w =>
   ldT P T.b (.pointer (some ⟨pb, 0, none⟩)) w fun t33 w => fi P .eql T.b (.tmp 33) (.const (.int .i64 1)) t33 (.int .i64 1) w fun t35 w =>
   fl t35 (M.bg.j1 [t35] (.bool (E && (decide (p.fu = 3) || !decide (p.tr = 0)))) (.pointer (some ⟨pb, 0, none⟩)) (fun x0 w => unT P .not (gv x0 2) w fun t162 w => fl t162 (K (.int .i64 6) w) (K (.int .i64 0) w)) t33 t31 (.bool (decide (p.il = gt))) w K)
    (fi P .eql T.b (.tmp 33) (.const (.int .i64 2)) t33 (.int .i64 2) w fun t36 w => M.bg.j1 [t36] (.bool (E && (decide (p.fu = 3) || !decide (p.tr = 0)))) (.pointer (some ⟨pb, 0, none⟩)) (fun x0 w => unT P .not (gv x0 2) w fun t162 w => fl t162 (K (.int .i64 6) w) (K (.int .i64 0) w)) t33 t31 (.bool (decide (p.il = gt))) w K)) := by
  refine tl1 ?_
  simp [c0]
  by_cases k1 : p.fu = 1
  ·simp [k1] at fork ⊢; exact fork
  ·simp [k1] at fork ⊢; exact fork
 clear fork tl1
 cases E with
 | false =>
  simp [c6] at go ⊢
  exact go
 | true =>
  by_cases k3 : p.fu = 3
  ·simp [c0, c6, k3] at go ⊢
   exact go
  ·simp [c0, c1, c6, k3] at go ⊢
   exact go
structure ajq (ls : List Spn) (lm : List Mem) (lu : List Int) : Prop where
 s : ls.length ≤ 40
 m : lm.length ≤ 100
 u : lu.length ≤ 100
 nm : ∀ x ∈ ls, x.name.size ≤ 200 ∧ x.ku.size ≤ 200
theorem yo.avb {w : World} {p : Pk} {ls : List Spn} {lm : List Mem} {lu : List Int} (h : yo w p ls lm lu) (l : ajq ls lm lu) : nq w p ls lm lu := h.rd (by have := l.s; omega) (by have := l.m; omega) (by have := l.u; omega)
def LiI (W : World) (pb : Nat) (p : Pk) (ls : List Spn) : KL := fun x w1 => ∃ (u : Value) (i : Nat), x = [u, .int .i64 (i : Nat)] ∧ i ≤ ls.length ∧ (∀ j (h : j < ls.length), j < i → ls[j].name.size ≤ 200 ∧ ls[j].ku.size ≤ 200) ∧ St W w1 (ga pb (pkC p).toArray T.a :: [])
theorem awn {w : World} {p : Pk} {ls : List Spn} {lm : List Mem} {lu : List Int} (hp : yo w p ls lm lu) {K : KV} (h : ∀ bb w', (bb = true → ajq ls lm lu) → Fr (fun _ => False) w w' → K (.bool bb) w') : fj P F.da [pkA p] w K := by
 rw [M.bp.fcall]
 apply M.bp.calls
 unfold M.bp
 refine St.pm (St.jc w) fun pb w1 S1 => ?_
 have S1' : St w w1 (ga pb (pkC p).toArray T.a :: []) := S1
 obtain ⟨_, _, _, _, _, _, c8, c9, c10, _⟩ := ij S1'
 have l1 : ∀ w' K, biT P .len #[T.n] T.b [false] [p.sv] w' K = K (.int .i64 ls.length) w' := fun w' K => hp.s.im (by kernel_rfl) [false]
 have l2 : ∀ w' K, biT P .len #[T.o] T.b [false] [p.mv] w' K = K (.int .i64 lm.length) w' := fun w' K => hp.m.im (by kernel_rfl) [false]
 have l3 : ∀ w' K, biT P .len #[T.f] T.b [false] [p.iv] w' K = K (.int .i64 lu.length) w' := fun w' K => hp.u.im (by kernel_rfl) [false]
 have no : ∀ w', Fr (fun _ => False) w w' → K (.bool false) w' := fun w' f => h false w' (fun h => by cases h) f
 by_cases h1 : 40 < ls.length
 ·have h1' : (40 : Int) < ls.length := by omega
  simp [c8, l1, h1']
  exact no _ S1.fr
 have h1' : ¬ (40 : Int) < ls.length := by omega
 by_cases h2 : 100 < lm.length
 ·have h2' : (100 : Int) < lm.length := by omega
  simp [c8, l1, h1', c9, l2, h2']
  exact no _ S1.fr
 have h2' : ¬ (100 : Int) < lm.length := by omega
 by_cases h3 : 100 < lu.length
 ·have h3' : (100 : Int) < lu.length := by omega
  simp [c8, l1, h1', c9, l2, h2', c10, l3, h3']
  exact no _ S1.fr
 have h3' : ¬ (100 : Int) < lu.length := by omega
 simp [c8, l1, h1', c9, l2, h2', c10, l3, h3']
 refine ⟨LiI w pb p ls, fun x _ => ls.length - ms x 1, ⟨_, 0, rfl, Nat.zero_le _, fun j _ h => by omega, S1'⟩, ?_⟩
 rintro x w2 ⟨u, i, rfl, hi, hpre, S2⟩
 unfold M.bp.j2
 obtain ⟨_, _, _, _, _, _, c8, _⟩ := ij S2
 by_cases hil : i < ls.length
 ·have hili : (i : Int) < (ls.length : Int) := by omega
  have hwi : IntKind.i64.wrap ((i : Int) + 1) = ((i + 1 : Nat) : Int) := by rw [fq (by omega) (by omega)]; rfl
  obtain ⟨b, o, cap, hv, _, _, k1⟩ := (hp.fr S2.fr).s.at hil
  have hia : ∀ w' K, iaT P T.n p.sv (.int .i64 (i : Nat)) w' K = K (.pointer (some ⟨b, o + i * 8, none⟩)) w' := fun w' K => by rw [hv]; simp [hil]
  have n6 := k1 6 _ rfl
  have n5 := k1 5 _ rfl
  have lstr : ∀ (s : ByteArray) w' K, biT P .len #[T.al] T.b [false] [.string s] w' K = K (.int .i64 s.size) w' := fun s w' K => atl (by kernel_rfl) [false] s w' K
  simp [c8, l1, hil]
  unfold M.bp.j3
  by_cases q1 : 200 < ls[i].name.size
  ·have q1' : (200 : Int) < (ls[i].name.size : Int) := by omega
   simp [c8, hia, n6, lstr, q1']
   exact no _ S2.fr
  have q1' : ¬ (200 : Int) < (ls[i].name.size : Int) := by omega
  by_cases q2 : 200 < ls[i].ku.size
  ·have q2' : (200 : Int) < (ls[i].ku.size : Int) := by omega
   simp [c8, hia, n6, n5, lstr, q1', q2']
   exact no _ S2.fr
  have q2' : ¬ (200 : Int) < (ls[i].ku.size : Int) := by omega
  simp [c8, hia, n6, n5, lstr, q1', q2', hwi]
  refine ⟨⟨_, i + 1, rfl, by omega, fun j hj hlt => ?_, S2⟩, by simp [ms, gv]; omega⟩
  by_cases hji : j = i
  ·subst hji; omega
  ·exact hpre j hj (by omega)
 ·have hili : ¬ (i : Int) < (ls.length : Int) := by omega
  simp [c8, l1, hil]
  refine h true _ (fun _ => ⟨by omega, by omega, by omega, fun x hx => ?_⟩) S2.fr
  obtain ⟨j, hj, rfl⟩ := List.getElem_of_mem hx
  exact hpre j hj (by omega)
section
variable {i : Nat} {g : Nat → Rg} {val gh : Nat → Int} {prop : Nat → Prop} {tk : List (Nat × Nat)}
end
set_option maxRecDepth 100000
open Go.Eng Go.Proofs.YtfnhoaemapheoaaGreat.Sint
structure RI (s f : Int) (L : Lg) (F : Nat) (D : Dk) (m : iu) : Prop where
 tg : ng s f L F D
 fy : xa (gg L.fp)
 set : uk (gg L.fp) F m
 le : F ≤ (gg L.fp).length
section
variable {s f : Int} {L : Lg} {F : Nat} {D : Dk} {m : iu}
theorem RI.aug (h : RI s f L F D m) : jp (gg L.fp) = m := acy h.set h.le
theorem RI.ok (h : RI s f L F D m) : ∀ p ∈ m, okE p := by rw [← h.aug]; exact bek h.fy
theorem RI.asc (h : RI s f L F D m) : Asc m := by rw [← h.aug]; exact vr _
theorem bbo (h : RI s f L F D m) {L' : Lg} {D' : Dk} {i : Nat} (g : ng s f L' F D') (e : gg L'.fp = gg L.fp ++ (jw m).take i) : RI s f L' F D' m :=
 ⟨g, by rw [e]; exact afa h.fy h.ok i, by rw [e]; exact afh h.set h.le h.ok i, by rw [e, List.length_append]; have := h.le; omega⟩
end
end Go.Proofs.YtfnhoaemapheoaaGreat
