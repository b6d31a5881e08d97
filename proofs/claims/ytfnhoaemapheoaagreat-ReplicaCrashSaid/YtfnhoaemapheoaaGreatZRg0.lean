/-
  Registers: their value, equality of structs that hold structs. No condition.
-/
import Derived.Test.YtfnhoaemapheoaaGreatZSrtUD
import Derived.Test.YtfnhoaemapheoaaGreatZSpn0
import Derived.Test.YtfnhoaemapheoaaGreatZEngSl
set_option maxRecDepth 100000
namespace Go.Proofs.YtfnhoaemapheoaaGreat
open Go.Eng
def aki (r : Rg) : List Value := [.int .u64 r.p.n, .int .u64 r.p.gj, .int .u64 r.t.n, .int .u64 r.t.gj, .int .i64 r.v]
def jw (r : Rg) : Value := .agg #[.int .u64 r.p.n, .int .u64 r.p.gj, .int .u64 r.t.n, .int .u64 r.t.gj, .int .i64 r.v]
theorem amt (r : Rg) : ∀ u ∈ aki r, ju u = true := fun u hu => by
 simp only [aki, List.mem_cons, List.not_mem_nil, or_false] at hu
 rcases hu with rfl | rfl | rfl | rfl | rfl <;> rfl
theorem bhc {t : TypeId} {fs : Array Field} {i : TypeInfo} (hu : P.underlying t = some (.struct fs)) (hi : P.info? t = some i) (xs : Array Value) (o : Nat) (w : World) : (part t xs o).run P w = .ok (.agg (xs.extract o (o + i.size))) w := by
 have ha : (isAgg t).run P w = .ok true w := by
  unfold isAgg
  rw [Sem.run_bind, ij hu]
  rfl
 unfold part
 rw [Sem.run_bind, ha]
 simp only [Result.andThen, if_true, Sem.run_bind, xz hi, Sem.run_pure]
theorem azz {d : Nat} {xs ys : Array Value} {f : Field} {fs : List Field} {w : World} {b c : Bool} {ff : Array Field} {i : TypeInfo} (hn : f.name ≠ "_") (hu : P.underlying f.type = some (.struct ff)) (hi : P.info? f.type = some i)
  (he : (Op.equalIn d f.type (.agg (xs.extract f.offset (f.offset + i.size))) (.agg (ys.extract f.offset (f.offset + i.size)))).run P w = .ok b w) (hr : (Op.eqFields d xs ys fs).run P w = .ok c w) : (Op.eqFields d xs ys (f :: fs)).run P w = .ok (b && c) w := by
 simp only [Op.eqFields]
 rw [if_pos hn]
 simp only [Sem.run_bind, bhc hu hi, he, Result.andThen]
 cases b
 ·rfl
 ·simpa using hr
theorem akf (d : Nat) (x y : Bal) (w : World) : (Op.equalIn (d + 2) T.c (jf x) (jf y)).run P w = .ok (decide (x = y)) w := by
 have hS : P.underlying T.c = some (.struct (P.fieldsOf T.c)) := by kernel_rfl
 have hp : P.stoodInHeld T.c = false := by kernel_rfl
 rw [← avs]
 unfold jf
 rw [run_equalIn_agg w (d + 1) T.c _ _ hS hp]
 simp only [Program.fieldsOf, show P.underlying T.c = _ from Tryz.underlying40]
 have u22 : P.underlying T.d = some (.int .u64) := by kernel_rfl
 have a22 : yu P T.d = false := by kernel_rfl
 refine eqF (by decide) a22 rfl rfl (run_equalIn_int w d T.d _ _ _ _ u22) ?_
 have := eqF (fs := []) (d := d + 1) (xs := #[.int .u64 x.n, .int .u64 x.gj]) (ys := #[.int .u64 y.n, .int .u64 y.gj]) (f := { name := "Node", type := T.d, offset := 1, embedded := false, tag := "", pkgPath := "", byteOffset := 8 }) (w := w) (c := true) (by decide) a22 rfl rfl (run_equalIn_int w d T.d _ _ _ _ u22) rfl
 simpa using this
def aok : Array Field := #[{ name := "Promised", type := T.c, offset := 0, embedded := false, tag := "", pkgPath := "", byteOffset := 0 }, { name := "Taken", type := T.c, offset := 2, embedded := false, tag := "", pkgPath := "", byteOffset := 16 }, { name := "V", type := T.j, offset := 4, embedded := false, tag := "", pkgPath := "", byteOffset := 32 }]
theorem bia (x y : Rg) : (decide (x.p = y.p) && (decide (x.t = y.t) && (x.v == y.v))) = decide (x = y) := by
 obtain ⟨a, b, c⟩ := x
 obtain ⟨a', b', c'⟩ := y
 simp only [Rg.mk.injEq]
 by_cases h1 : a = a' <;> by_cases h2 : b = b' <;> by_cases h3 : c = c' <;> simp [h1, h2, h3]
theorem anf {t : TypeId} (hu : P.underlying t = some (.struct aok)) (hp : P.stoodInHeld t = false) (d : Nat) (x y : Rg) (w : World) : (Op.equalIn (d + 3) t (jw x) (jw y)).run P w = .ok (decide (x = y)) w := by
 have hF : P.fieldsOf t = aok := by simp only [Program.fieldsOf, hu]
 have hS : P.underlying t = some (.struct (P.fieldsOf t)) := by rw [hF]; exact hu
 obtain ⟨bi, hbi, hsz⟩ : ∃ i, P.info? T.c = some i ∧ i.size = 2 := by
  have : (P.info? T.c).map (·.size) = some 2 := by kernel_rfl
  exact Option.map_eq_some_iff.1 this
 have bu := Tryz.underlying40
 have vu : P.underlying T.j = some (.int .i64) := by kernel_rfl
 have va : yu P T.j = false := by kernel_rfl
 rw [← bia]
 unfold jw
 rw [run_equalIn_agg w (d + 2) t _ _ hS hp, hF]
 unfold aok
 refine azz (by decide) bu hbi ?_ (azz (by decide) bu hbi ?_ ?_)
 ·rw [hsz]; exact akf d x.p y.p w
 ·rw [hsz]; exact akf d x.t y.t w
 ·have := eqF (fs := []) (d := d + 2) (xs := #[.int .u64 x.p.n, .int .u64 x.p.gj, .int .u64 x.t.n, .int .u64 x.t.gj, .int .i64 x.v]) (ys := #[.int .u64 y.p.n, .int .u64 y.p.gj, .int .u64 y.t.n, .int .u64 y.t.gj, .int .i64 y.v]) (f := { name := "V", type := T.j, offset := 4, embedded := false, tag := "", pkgPath := "", byteOffset := 32 }) (w := w) (c := true) (by decide) va rfl rfl (run_equalIn_int w (d + 1) T.j _ _ _ _ vu) rfl
  simpa using this
theorem bfg (rx ry : Operand) (x y : Rg) (w : World) (K : KV) : fj P .neq T.g rx ry (jw x) (jw y) w K = K (.bool !(decide (x = y))) w := by
 have hm : P.eqGuardType P.depth T.g = false := by kernel_rfl
 have hg := run_eqGuard_agg (P := P) w .neq T.g rx ry #[.int .u64 x.p.n, .int .u64 x.p.gj, .int .u64 x.t.n, .int .u64 x.t.gj, .int .i64 x.v] #[.int .u64 y.p.n, .int .u64 y.p.gj, .int .u64 y.t.n, .int .u64 y.t.gj, .int .i64 y.v] hm
 have he := anf (t := T.g) (by kernel_rfl) (by kernel_rfl) 9997 x y w
 unfold fj iq
 unfold jw at he ⊢
 rw [Sem.run_bind, hg]
 simp only [Result.andThen]
 rw [run_neq_struct, he]
 rfl
def xm (o : Int × Rg) : List Value := .int .u64 o.1 :: aki o.2
def aeo (o : Int × Rg) : Value := .agg #[.int .u64 o.1, .int .u64 o.2.p.n, .int .u64 o.2.p.gj, .int .u64 o.2.t.n, .int .u64 o.2.t.gj, .int .i64 o.2.v]
theorem tx (o : Int × Rg) : (xm o).length = 6 := rfl
theorem aqw (o : Int × Rg) : ∀ u ∈ xm o, ju u = true := fun u hu => by
 rcases List.mem_cons.1 hu with rfl | hu
 ·rfl
 ·exact amt _ u hu
abbrev SlO (w : World) (v : Value) (l : iy) : Prop := Sl w 6 xm v l
def avt : Array Field := #[{ name := "Trace", type := T.d, offset := 0, embedded := false, tag := "", pkgPath := "", byteOffset := 0 }, { name := "R", type := T.i, offset := 1, embedded := false, tag := "", pkgPath := "", byteOffset := 8 }]
theorem axy (x y : Int × Rg) (w : World) : (Op.equalIn 10000 T.x (aeo x) (aeo y)).run P w = .ok (decide (x = y)) w := by
 have hu : P.underlying T.x = some (.struct avt) := by kernel_rfl
 have hF : P.fieldsOf T.x = avt := by simp only [Program.fieldsOf, hu]
 have hS : P.underlying T.x = some (.struct (P.fieldsOf T.x)) := by rw [hF]; exact hu
 have hp : P.stoodInHeld T.x = false := by kernel_rfl
 have ru : P.underlying T.i = some (.struct aok) := by kernel_rfl
 obtain ⟨ri, hri, hsz⟩ : ∃ i, P.info? T.i = some i ∧ i.size = 5 := by
  have : (P.info? T.i).map (·.size) = some 5 := by kernel_rfl
  exact Option.map_eq_some_iff.1 this
 have u22 : P.underlying T.d = some (.int .u64) := by kernel_rfl
 have a22 : yu P T.d = false := by kernel_rfl
 have hd : decide (x = y) = ((x.1 == y.1) && decide (x.2 = y.2)) := by
  obtain ⟨a, b⟩ := x
  obtain ⟨a', b'⟩ := y
  simp only [Prod.mk.injEq]
  by_cases h1 : a = a' <;> by_cases h2 : b = b' <;> simp [h1, h2]
 rw [hd]
 unfold aeo
 rw [run_equalIn_agg w 9999 T.x _ _ hS hp, hF]
 unfold avt
 refine eqF (by decide) a22 rfl rfl (run_equalIn_int w 9998 T.d _ _ _ _ u22) ?_
 have := azz (fs := []) (d := 9999) (xs := #[.int .u64 x.1, .int .u64 x.2.p.n, .int .u64 x.2.p.gj, .int .u64 x.2.t.n, .int .u64 x.2.t.gj, .int .i64 x.2.v]) (ys := #[.int .u64 y.1, .int .u64 y.2.p.n, .int .u64 y.2.p.gj, .int .u64 y.2.t.n, .int .u64 y.2.t.gj, .int .i64 y.2.v]) (f := { name := "R", type := T.i, offset := 1, embedded := false, tag := "", pkgPath := "", byteOffset := 8 }) (w := w) (b := decide (x.2 = y.2)) (c := true) (by decide) ru hri (by rw [hsz]; exact anf ru (by kernel_rfl) 9996 x.2 y.2 w) rfl
 simpa using this
theorem awi (rx ry : Operand) (x y : Int × Rg) (w : World) (K : KV) : fj P .neq T.x rx ry (aeo x) (aeo y) w K = K (.bool !(decide (x = y))) w := by
 have hm : P.eqGuardType P.depth T.x = false := by kernel_rfl
 have hg := run_eqGuard_agg (P := P) w .neq T.x rx ry #[.int .u64 x.1, .int .u64 x.2.p.n, .int .u64 x.2.p.gj, .int .u64 x.2.t.n, .int .u64 x.2.t.gj, .int .i64 x.2.v] #[.int .u64 y.1, .int .u64 y.2.p.n, .int .u64 y.2.p.gj, .int .u64 y.2.t.n, .int .u64 y.2.t.gj, .int .i64 y.2.v] hm
 have he := axy x y w
 unfold fj iq
 unfold aeo at he ⊢
 rw [Sem.run_bind, hg]
 simp only [Result.andThen]
 rw [run_neq_struct, he]
 rfl
set_option maxRecDepth 100000
def xf (a b : Int) : Int := if a < b then -1 else if b < a then 1 else 0
theorem aif {w : World} (a b : Int) {K : KV} (h : K (.int .i64 (xf a b)) w) : fk P F.bx [.int .u64 a, .int .u64 b] w K := by
 have nan : ∀ (z : Int) {K : KV}, K (.bool false) w → fk P F.ay [.int .u64 z] w K := fun z K hK => by
  rw [M.cx.fcall]
  apply M.cx.calls
  unfold M.cx
  simpa using hK
 rw [M.ci.fcall]
 apply M.ci.calls
 unfold M.ci
 refine nan a ?_
 refine nan b ?_
 simp
 unfold M.ci.j2
 unfold xf at h
 by_cases h1 : a < b
 ·simp [h1] at h ⊢; exact h
 ·by_cases h2 : b < a
  ·simp [h1, h2] at h ⊢; exact h
  ·simp [h1, h2] at h ⊢; exact h
theorem bgu {w : World} {v : Value} {l : List Int} (hs : Sl w 1 abz v l) (hlen : l.length ≤ 1000) {K : KV} (h : K (.int .i64 (orK l)) w) : jb P F.ev [v] w K := by
 apply M.eg.calls
 unfold M.eg
 simp only [fo]
 rw [hs.ip (by simp)]
 refine ⟨OrI w l, fun x _ => l.length - ms x 2, ⟨_, _, 0, rfl, rfl, Nat.zero_le _, fun j k _ h => by omega⟩, ?_⟩
 rintro x w1 ⟨a, b, i, rfl, rfl, hi, hz⟩
 have gv2 : gv [a, b, .int .i64 (i : Int)] 2 = .int .i64 (i : Int) := rfl
 simp only [gv2]
 by_cases hil : i < l.length
 ·obtain ⟨bb, o, cap, rfl, hb, _, hr⟩ := hs.at hil
  have e0 := hr 0 _ rfl
  simp only [Nat.mul_one, Nat.add_zero] at e0
  have hw : IntKind.i64.wrap ((i : Int) + 1) = ((i + 1 : Nat) : Int) := by rw [ft (by omega) (by omega)]; rfl
  simp [hil]
  unfold M.eg.j2
  simp only [fo, gv2]
  by_cases hk : l[i] = 0
  ·simp [hil, e0, hk, hw]
   refine ⟨⟨_, _, i + 1, rfl, rfl, by omega, fun j k hj hlt => ?_⟩, by simp [ms, gv]; omega⟩
   by_cases hji : j = i
   ·subst hji
    rw [List.getElem?_eq_getElem hil] at hj
    cases hj; exact hk
   ·exact hz j k hj (by omega)
  ·simp [hil, e0, hk]
   have : orK l = l[i] := by
    unfold orK
    have : l.find? (fun k => !decide (k = 0)) = some l[i] := by
     rw [List.find?_eq_some_iff_getElem]
     refine ⟨by simpa using hk, i, hil, rfl, fun j hj => ?_⟩
     have := hz j _ (List.getElem?_eq_getElem (by omega)) hj
     simp [this]
    rw [this]; rfl
   rw [this] at h; exact h
 ·simp [hil]
  have : orK l = 0 := by
   unfold orK
   have : l.find? (fun k => !decide (k = 0)) = none := by
    rw [List.find?_eq_none]
    intro k hk
    obtain ⟨j, hj, rfl⟩ := List.mem_iff_getElem.1 hk
    have := hz j _ (List.getElem?_eq_getElem hj) (by omega)
    simp [this]
   rw [this]; rfl
  rw [this] at h; exact h
theorem or2 (a b : Int) : orK [a, b] = if a = 0 then b else a := by
 unfold orK
 by_cases ha : a = 0 <;> by_cases hb : b = 0 <;> simp [ha, hb]
theorem bax {a b : Bal} : decide ((orK [xf a.n b.n, xf a.gj b.gj]) < 0) = a.sn b := by
 rw [or2]
 unfold xf Bal.sn
 apply decide_eq_decide.2
 repeat' split
 all_goals omega
theorem xy {w : World} {b : Nat} {x : Bal} {f : Nat × Nat} (h : w.heap[b]? = some (.cells #[.int .u64 x.n, .int .u64 x.gj] T.c f)) : fx w b 0 = some (.int .u64 x.n) ∧ fx w b 1 = some (.int .u64 x.gj) ∧ ∀ K, ldN P 2 b 0 w K = K (jf x) w :=
 ⟨by rw [fy h]; rfl, by rw [fy h]; rfl, fun K => ade (by rw [fy h]; rfl) (by rw [fy h]; rfl) K⟩
theorem bbr (x y : Bal) {w : World} {Q : Value → Value → World → Prop} (h : ∀ w1 b1 b2, St w w1 (gc b2 #[.int .u64 y.n, .int .u64 y.gj] T.c :: gc b1 #[.int .u64 x.n, .int .u64 x.gj] T.c :: []) → Q (jd b1) (jd b2) w1) :
  ka P T.c (jf x) w fun v1 w1 => ka P T.c (jf y) w1 fun v2 w2 => Q v1 v2 w2 := by
 rw [wo, wo]
 exact h _ _ _ (adi (adi (St.jc w) #[.int .u64 x.n, .int .u64 x.gj] T.c) #[.int .u64 y.n, .int .u64 y.gj] T.c)
theorem axv {w : World} (x y : Bal) {K : KV} (h : ∀ w', Fr (fun _ => False) w w' → K (.int .i64 (orK [xf x.n y.n, xf x.gj y.gj])) w') : fk P F.en [jf x, jf y] w K := by
 rw [M.eu.fcall]
 apply M.eu.calls
 unfold M.eu
 refine bbr x y fun w1 b1 b2 S1 => ?_
 have S2 := S1.iu ((Fr.refl _ w1).dr 1)
 obtain ⟨y0, y1, _⟩ := xy S2.blk
 obtain ⟨x0, x1, _⟩ := xy S2.swap.blk
 simp only [jd]
 rw [pw]
 simp only [mf] at x0 x1 y0 y1
 simp [x0, x1, y0, y1]
 refine aif _ _ ?_
 simp [x1, y1]
 refine aif _ _ ?_
 simp
 have S3 : St w ((dr w1 1).alloc (.cells #[.int .i64 (xf x.n y.n), .int .i64 (xf x.gj y.gj)] T.b)) _ := adi S2 #[.int .i64 (xf x.n y.n), .int .i64 (xf x.gj y.gj)] T.b
 have hsl : Sl ((dr w1 1).alloc (.cells #[.int .i64 (xf x.n y.n), .int .i64 (xf x.gj y.gj)] T.b)) 1 abz (.slice (some ⟨w1.heap.size, 0, none⟩) 2 2) [xf x.n y.n, xf x.gj y.gj] := by
  have hh := S3.blk
  rw [show (dr w1 1).heap.size = w1.heap.size from rfl] at hh
  refine ⟨some ⟨w1.heap.size, 0, none⟩, 2, rfl, by simp, by simp [maxLen], fun i z hz => ⟨w1.heap.size, 0, rfl, pz hh, fun j u hj => ?_⟩⟩
  rw [fy hh]
  match i, j with
  | 0, 0 => simp [abz] at hz hj ⊢; rw [hz]; exact hj
  | 1, 0 => simp [abz] at hz hj ⊢; rw [hz]; exact hj
  | i + 2, _ => simp at hz
  | _, j + 1 => simp [abz] at hj
 rw [M.eg.fcall]
 exact bgu hsl (by simp) (h _ S3.fr)
theorem aqr {w : World} (x y : Bal) {K : KV} (h : ∀ w', Fr (fun _ => False) w w' → K (.bool (x.sn y)) w') : fk P F.ei [jf x, jf y] w K := by
 rw [M.ey.fcall]
 apply M.ey.calls
 unfold M.ey
 refine bbr x y fun w1 b1 b2 S1 => ?_
 obtain ⟨_, _, y2⟩ := xy S1.blk
 obtain ⟨_, _, x2⟩ := xy S1.swap.blk
 simp only [jd]
 simp [x2, y2]
 refine axv x y fun w2 f2 => ?_
 simp
 rw [bax]
 exact h w2 (S1.fr.trans f2)
theorem akr {w : World} (x y : Bal) {K : KV} (h : ∀ w', Fr (fun _ => False) w w' → K (.bool (x.sn y)) w') : fk P F.ci [jf x, jf y] w K := by
 rw [M.du.fcall]
 apply M.du.calls
 unfold M.du
 refine bbr x y fun w1 b1 b2 S1 => ?_
 obtain ⟨y0, y1, _⟩ := xy S1.blk
 obtain ⟨x0, x1, _⟩ := xy S1.swap.blk
 simp only [jd]
 have fin := h w1 S1.fr
 unfold Bal.sn at fin
 by_cases h1 : x.n < y.n
 ·simp [x0, x1, y0, y1, h1] at fin ⊢; exact fin
 ·by_cases h2 : x.n = y.n
  ·simp [x0, x1, y0, y1, h2] at fin ⊢; exact fin
  ·simp [x0, x1, y0, y1, h1, h2] at fin ⊢; exact fin
theorem abb (b : Nat) (w : World) (K : KV) : lc P T.g (.pointer (some ⟨b, 0, none⟩)) w K = ldN P 5 b 0 w K := .trans (by kernel_rfl) rfl
theorem zh (b : Nat) (w : World) (K : KV) : lc P T.i (.pointer (some ⟨b, 0, none⟩)) w K = ldN P 5 b 0 w K := .trans (by kernel_rfl) rfl
section
variable {w0 w : World} {b : Nat} {t : TypeId} {R : List Asn}
def rgC (r : Rg) : Array Value := #[.int .u64 r.p.n, .int .u64 r.p.gj, .int .u64 r.t.n, .int .u64 r.t.gj, .int .i64 r.v]
theorem iw {r : Rg} (S : St w0 w (gc b (rgC r) t :: R)) : (∀ K, ldN P 2 b 0 w K = K (jf r.p) w) ∧ (∀ K, ldN P 2 b 2 w K = K (jf r.t) w) ∧ fx w b 4 = some (.int .i64 r.v) ∧ ∀ K, ldN P 5 b 0 w K = K (jw r) w :=
 ⟨fun K => S.ldA [.int .u64 r.p.n, .int .u64 r.p.gj] rfl rfl K, fun K => S.ldA [.int .u64 r.t.n, .int .u64 r.t.gj] rfl rfl K, by rw [S.cell]; rfl, fun K => S.ldA (aki r) rfl rfl K⟩
theorem rg {x : Bal} (S : St w0 w (gc b #[.int .u64 x.n, .int .u64 x.gj] t :: R)) : fx w b 0 = some (.int .u64 x.n) ∧ fx w b 1 = some (.int .u64 x.gj) ∧ ∀ K, ldN P 2 b 0 w K = K (jf x) w :=
 ⟨by rw [S.cell]; rfl, by rw [S.cell]; rfl, fun K => S.ldA [.int .u64 x.n, .int .u64 x.gj] rfl rfl K⟩
theorem pf {r r' : Rg} (S : St w0 w (gc b (rgC r) t :: R)) {K : KV} (h : ∀ w', St w0 w' (gc b (rgC r') t :: R) → K undef w') : stN P b 0 [.int .u64 r'.p.n, .int .u64 r'.p.gj, .int .u64 r'.t.n, .int .u64 r'.t.gj, .int .i64 r'.v] w K :=
 S.put (vs := [.int .u64 r'.p.n, .int .u64 r'.p.gj, .int .u64 r'.t.n, .int .u64 r'.t.gj, .int .i64 r'.v]) (amt r') (by simp [rgC]) rfl h
theorem tq (S : St w0 w R) (t : TypeId) : St w0 (w.alloc (.cells #[.int .u64 0, .int .u64 0, .int .u64 0, .int .u64 0, .int .i64 0] t)) (gc w.heap.size (rgC rg0) t :: R) := S.mkB (rgC rg0) t
theorem aqn {w : World} {v : Int} {K : KV} (h : K (.bool (ki v)) w) : fk P F.dt [.int .i64 v] w K := by
 rw [M.ek.fcall]
 apply M.ek.calls
 unfold M.ek
 unfold ki at h
 by_cases h1 : 1 ≤ v
 ·by_cases h2 : v ≤ 3
  ·rw [decide_eq_true ⟨h1, h2⟩] at h
   simp [h1, h2]; exact h
  ·rw [decide_eq_false (fun hh => h2 hh.2)] at h
   simp [h1, h2]; exact h
 ·rw [decide_eq_false (fun hh => h1 hh.1)] at h
  simp [h1]; exact h
theorem anj {w : World} (r : Rg) (x : Bal) {K : KV} (h : ∀ w', Fr (fun _ => False) w w' → K (.bool (r.lj x)) w') : fk P F.bs [jw r, jf x] w K := by
 rw [M.dl.fcall]
 apply M.dl.calls
 unfold M.dl
 refine St.po (St.jc w) fun b1 w1 S1 => ?_
 refine St.po S1 fun b2 w2 S2 => ?_
 obtain ⟨x0, _, xl⟩ := rg S2
 obtain ⟨rp, _, _, _⟩ := iw S2.swap
 unfold Rg.lj at h
 by_cases hn : 0 < x.n
 ·simp [x0, hn, xl, rp]
  refine aqr x r.p fun w3 f3 => ?_
  simp
  simpa [hn] using h w3 (S2.fr.trans f3)
 ·simp [x0, hn]
  simpa [hn] using h w2 S2.fr
theorem bdx {w : World} (r : Rg) (x : Bal) {K : KV} (h : ∀ w', Fr (fun _ => False) w w' → K (.tuple #[jw (r.qr x).1, .bool (r.qr x).2]) w') : fk P F.dm [jw r, jf x] w K := by
 rw [M.cw.fcall]
 apply M.cw.calls
 unfold M.cw
 refine St.po (St.jc w) fun b1 w1 S1 => ?_
 refine St.po S1 fun b2 w2 S2 => ?_
 simp
 have S3 := tq S2 T.g
 generalize w2.heap.size = b3 at *
 generalize w2.alloc _ = w3 at *
 obtain ⟨_, _, xl⟩ := rg S3.swap
 obtain ⟨_, _, _, rl⟩ := iw S3.up2
 simp [rl, xl]
 refine anj r x fun w4 f4 => ?_
 have S4 := S3.iu f4
 obtain ⟨_, _, xl⟩ := rg S4.swap
 obtain ⟨_, _, _, rl⟩ := iw S4.up2
 unfold Rg.qr at h
 cases hs : r.lj x with
 | false =>
  simp [rl]
  unfold jw
  simp
  refine pf S4 fun w5 S5 => ?_
  obtain ⟨_, _, _, rl5⟩ := iw S5
  rw [abb, rl5]
  refine ⟨rfl, ?_⟩
  simpa [hs] using h w5 S5.fr
 | true =>
  simp
  unfold M.cw.j0
  simp [xl]
  unfold jf
  simp
  refine St.put (cs' := rgC ⟨x, r.t, r.v⟩) (vs := [.int .u64 x.n, .int .u64 x.gj]) S4.up2 (by simp) (by simp [rgC]) rfl fun w5 S5 => ?_
  obtain ⟨_, _, _, rl5⟩ := iw S5
  rw [rl5]
  unfold jw
  simp
  refine pf (r' := ⟨x, r.t, r.v⟩) S5.swap fun w6 S6 => ?_
  obtain ⟨_, _, _, rl6⟩ := iw S6
  rw [abb, rl6]
  refine ⟨rfl, ?_⟩
  simpa [hs] using h w6 S6.fr
theorem bfp {w : World} (r : Rg) (x : Bal) (v : Int) {K : KV} (h : ∀ w', Fr (fun _ => False) w w' → K (.tuple #[jw (r.acc x v).1, .bool (r.acc x v).2]) w') : fk P F.dw [jw r, jf x, .int .i64 v] w K := by
 rw [M.cr.fcall]
 apply M.cr.calls
 unfold M.cr
 refine St.po (St.jc w) fun b1 w1 S1 => ?_
 refine St.po S1 fun b2 w2 S2 => ?_
 simp
 have S3 := tq S2 T.g
 generalize w2.heap.size = b3 at *
 generalize w2.alloc _ = w3 at *
 obtain ⟨_, _, xl⟩ := rg S3.swap
 obtain ⟨_, _, _, rl⟩ := iw S3.up2
 simp [rl, xl]
 refine anj r x fun w4 f4 => ?_
 have S4 := S3.iu f4
 obtain ⟨_, _, xl⟩ := rg S4.swap
 obtain ⟨_, rt, rv, rl⟩ := iw S4.up2
 have no : (¬ (r.lj x = true ∧ ki v = true ∧ ¬ (r.t = x ∧ r.v ≠ v))) → stN P b3 0 [.int .u64 r.p.n, .int .u64 r.p.gj, .int .u64 r.t.n, .int .u64 r.t.gj, .int .i64 r.v] w4 (fun _ w => fh (fun K' => lc P T.g (.pointer (some ⟨b3, 0, none⟩)) w K') w fun r0 => K (.tuple #[r0, .bool false]) w) := fun hc => by
  refine pf S4 fun w5 S5 => ?_
  obtain ⟨_, _, _, rl5⟩ := iw S5
  rw [nv, abb, rl5]
  refine ⟨rfl, ?_⟩
  have fin := h w5 S5.fr
  unfold Rg.acc at fin
  rw [if_neg hc] at fin
  exact fin
 simp only [nv] at no
 cases hs : r.lj x with
 | false =>
  have no' := no (by simp [hs])
  simp [rl]
  unfold jw
  simp
  exact no'
 | true =>
  simp
  refine aqn ?_
  cases hv : ki v with
  | false =>
   have no' := no (by simp [hv])
   simp [rl]
   unfold jw
   simp
   exact no'
  | true =>
   simp [rt, xl, pt]
   have yes : (r.lj x = true ∧ ki v = true ∧ ¬ (r.t = x ∧ r.v ≠ v)) → M.cr.j0 (.pointer (some ⟨b2, 0, none⟩)) (.int .i64 v) (.pointer (some ⟨b3, 0, none⟩)) w4 K := fun hc => by
    unfold M.cr.j0
    simp [xl]
    unfold jf
    simp
    refine pf (r' := ⟨x, x, v⟩) S4 fun w5 S5 => ?_
    obtain ⟨_, _, _, rl5⟩ := iw S5
    rw [abb, rl5]
    refine ⟨rfl, ?_⟩
    have fin := h w5 S5.fr
    unfold Rg.acc at fin
    rw [if_pos hc] at fin
    exact fin
   by_cases ht : r.t = x
   ·by_cases hvv : r.v = v
    ·have yes' := yes ⟨hs, hv, fun hh => hh.2 hvv⟩
     simp [ht, rv, hvv]
     exact yes'
    ·have no' := no (fun hh => hh.2.2 ⟨ht, hvv⟩)
     simp [ht, rv, hvv, rl]
     unfold jw
     simp
     exact no'
   ·have yes' := yes ⟨hs, hv, fun hh => ht hh.1⟩
    simp [ht]
    exact yes'
theorem bcx : Value.agg #[.int .u64 0, .int .u64 0] = jf gu := rfl
theorem azc {w : World} (r : Rg) {K : KV} (h : ∀ w', Fr (fun _ => False) w w' → K (.bool r.right) w') : fk P F.ef [jw r] w K := by
 rw [M.dk.fcall]
 apply M.dk.calls
 unfold M.dk
 refine St.po (St.jc w) fun b1 w1 S1 => ?_
 have S1' : St w w1 (gc b1 (rgC r) T.g :: []) := S1
 obtain ⟨rp, rt, rv, _⟩ := iw S1'
 have fin := fun f => h w1 f
 unfold Rg.right at h fin
 simp [rt, bcx, pt]
 by_cases ht : r.t = gu
 ·simp [ht, rv] at fin ⊢
  exact fin S1.fr
 ·simp [ht] at fin h ⊢
  unfold M.dk.j0
  simp [rv]
  refine aqn ?_
  cases hv : ki r.v with
  | false =>
   simp [hv] at fin ⊢
   exact fin S1.fr
  | true =>
   simp [rp, rt]
   refine aqr _ _ fun w2 f2 => ?_
   have := h w2 (S1.fr.trans f2)
   simpa [hv] using this
theorem bbs {w : World} (r : Rg) (x : Bal) (hx : 0 ≤ x.n) {K : KV} (h : ∀ w', Fr (fun _ => False) w w' → K (.tuple #[jw (r.qr x).1, .bool (r.qr x).2]) w') : fk P F.ck [jw r, jf x] w K := by
 rw [M.cc.fcall]
 apply M.cc.calls
 unfold M.cc
 refine St.po (St.jc w) fun b1 w1 S1 => ?_
 refine St.po S1 fun b2 w2 S2 => ?_
 simp
 have S3 := tq S2 T.i
 generalize w2.heap.size = b3 at *
 generalize w2.alloc _ = w3 at *
 obtain ⟨_, _, xl⟩ := rg S3.swap
 obtain ⟨rp, _, _, rl⟩ := iw S3.up2
 simp [rp, xl]
 refine akr x r.p fun w4 f4 => ?_
 have S4 := S3.iu f4
 obtain ⟨x0, _, xl⟩ := rg S4.swap
 obtain ⟨_, _, _, rl⟩ := iw S4.up2
 unfold Rg.qr at h
 have no : ¬ r.lj x = true → stN P b3 0 [.int .u64 r.p.n, .int .u64 r.p.gj, .int .u64 r.t.n, .int .u64 r.t.gj, .int .i64 r.v] w4 (fun _ w => lc P T.i (.pointer (some ⟨b3, 0, none⟩)) w fun r0 w' => w' = w ∧ K (.tuple #[r0, .bool false]) w) := fun hc => by
  refine pf S4 fun w5 S5 => ?_
  obtain ⟨_, _, _, rl5⟩ := iw S5
  rw [zh, rl5]
  refine ⟨rfl, ?_⟩
  have fin := h w5 S5.fr
  rw [if_neg hc] at fin
  exact fin
 cases hl : x.sn r.p with
 | true =>
  have no' := no (by unfold Rg.lj; simp [hl])
  simp [rl]
  unfold jw
  simp
  exact no'
 | false =>
  by_cases hn : x.n = 0
  ·have no' := no (by unfold Rg.lj; simp [hl, hn])
   simp [x0, hn, rl]
   unfold jw
   simp
   exact no'
  ·have hs : r.lj x = true := by
    unfold Rg.lj
    simp [hl]; omega
   simp [x0, hn]
   unfold M.cc.j0
   simp [xl]
   unfold jf
   simp
   refine St.put (cs' := rgC ⟨x, r.t, r.v⟩) (vs := [.int .u64 x.n, .int .u64 x.gj]) S4.up2 (by simp) (by simp) rfl fun w5 S5 => ?_
   obtain ⟨_, _, _, rl5⟩ := iw S5
   rw [rl5]
   unfold jw
   simp
   refine pf (r' := ⟨x, r.t, r.v⟩) S5.swap fun w6 S6 => ?_
   obtain ⟨_, _, _, rl6⟩ := iw S6
   rw [zh, rl6]
   refine ⟨rfl, ?_⟩
   have fin := h w6 S6.fr
   rw [if_pos hs] at fin
   exact fin
theorem bfc {w : World} (r : Rg) (x : Bal) (v : Int) (hx : 0 ≤ x.n) {K : KV} (h : ∀ w', Fr (fun _ => False) w w' → K (.tuple #[jw (r.acc x v).1, .bool (r.acc x v).2]) w') : fk P F.ct [jw r, jf x, .int .i64 v] w K := by
 rw [M.bz.fcall]
 apply M.bz.calls
 unfold M.bz
 refine St.po (St.jc w) fun b1 w1 S1 => ?_
 refine St.po S1 fun b2 w2 S2 => ?_
 simp
 have S3 := tq S2 T.i
 generalize w2.heap.size = b3 at *
 generalize w2.alloc _ = w3 at *
 obtain ⟨_, _, xl⟩ := rg S3.swap
 obtain ⟨rp, _, _, rl⟩ := iw S3.up2
 simp [rp, xl]
 refine akr x r.p fun w4 f4 => ?_
 have S4 := S3.iu f4
 obtain ⟨x0, _, xl⟩ := rg S4.swap
 obtain ⟨_, rt, rv, rl⟩ := iw S4.up2
 unfold Rg.acc at h
 have no : (¬ (r.lj x = true ∧ ki v = true ∧ ¬ (r.t = x ∧ r.v ≠ v))) → stN P b3 0 [.int .u64 r.p.n, .int .u64 r.p.gj, .int .u64 r.t.n, .int .u64 r.t.gj, .int .i64 r.v] w4 (fun _ w => lc P T.i (.pointer (some ⟨b3, 0, none⟩)) w fun r0 w' => w' = w ∧ K (.tuple #[r0, .bool false]) w) := fun hc => by
  refine pf S4 fun w5 S5 => ?_
  obtain ⟨_, _, _, rl5⟩ := iw S5
  rw [zh, rl5]
  refine ⟨rfl, ?_⟩
  have fin := h w5 S5.fr
  rw [if_neg hc] at fin
  exact fin
 have yes : (r.lj x = true ∧ ki v = true ∧ ¬ (r.t = x ∧ r.v ≠ v)) → M.bz.j0 (.pointer (some ⟨b2, 0, none⟩)) (.int .i64 v) (.pointer (some ⟨b3, 0, none⟩)) w4 K := fun hc => by
  unfold M.bz.j0
  simp [xl]
  unfold jf
  simp
  refine pf (r' := ⟨x, x, v⟩) S4 fun w5 S5 => ?_
  obtain ⟨_, _, _, rl5⟩ := iw S5
  rw [zh, rl5]
  refine ⟨rfl, ?_⟩
  have fin := h w5 S5.fr
  rw [if_pos hc] at fin
  exact fin
 cases hl : x.sn r.p with
 | true =>
  have no' := no (by unfold Rg.lj; simp [hl])
  simp [rl]
  unfold jw
  simp
  exact no'
 | false =>
 by_cases hn : x.n = 0
 ·have no' := no (by unfold Rg.lj; simp [hl, hn])
  simp [x0, hn, rl]
  unfold jw
  simp
  exact no'
 have hs : r.lj x = true := by
  unfold Rg.lj
  simp [hl]; omega
 by_cases h1 : v < 1
 ·have no' := no (by unfold ki; simp; omega)
  simp [x0, hn, h1, rl]
  unfold jw
  simp
  exact no'
 by_cases h3 : 3 < v
 ·have no' := no (by unfold ki; simp; omega)
  simp [x0, hn, h1, h3, rl]
  unfold jw
  simp
  exact no'
 have hv : ki v = true := by unfold ki; simp; omega
 by_cases ht : x = r.t
 ·by_cases hvv : v = r.v
  ·have yes' := yes ⟨hs, hv, fun hh => hh.2 hvv.symm⟩
   have hd : decide (x = r.t) = true := decide_eq_true ht
   have hd2 : decide (v = r.v) = true := decide_eq_true hvv
   simp [x0, hn, h1, h3, xl, rt, pt, hd, rv, hd2]
   exact yes'
  ·have no' := no (fun hh => hh.2.2 ⟨ht.symm, fun hh => hvv hh.symm⟩)
   have hd : decide (x = r.t) = true := decide_eq_true ht
   simp [x0, hn, h1, h3, xl, rt, pt, hd, rv, hvv, rl]
   unfold jw
   simp
   exact no'
 ·have yes' := yes ⟨hs, hv, fun hh => ht hh.1.symm⟩
  simp [x0, hn, h1, h3, xl, rt, pt, ht]
  exact yes'
end
set_option maxRecDepth 100000
open Go.Eng
def pk0 (k tr : Int) (x s : Bal) (v : Int) (ok : Bool) : Pk := ⟨k, tr, x, s, v, ok, .slice none 0 0, .slice none 0 0, .slice none 0 0⟩
theorem sp (k tr : Int) (x s : Bal) (v : Int) (ok : Bool) : ∀ u ∈ pkC (pk0 k tr x s v ok), ju u = true := fun u hu => by
 simp only [pkC, pk0, List.mem_cons, List.not_mem_nil, or_false] at hu
 rcases hu with rfl | rfl | rfl | rfl | rfl | rfl | rfl | rfl | rfl | rfl | rfl <;> rfl
theorem bgm (w : World) (k tr : Int) (x s : Bal) (v : Int) (ok : Bool) : oz w (pk0 k tr x s v ok) [] [] [] := ⟨Sl.nil, Sl.nil, Sl.nil, by simp, by simp, by simp⟩
def pkZ : Pk := pk0 0 0 gu gu 0 false
def ahb (r : Rg) (tr : Int) (x : Bal) (ok kg : Bool) : Pk := pk0 (if kg = true then 7 else 5) tr x (if ok = false then r.p else if kg = false then r.t else gu) (if ok = true ∧ kg = false then r.v else 0) ok
section
variable {w0 w : World} {b : Nat} {R : List Asn}
theorem ahr {cs : Array Value} {q : Pk} (S : St w0 w (gc b cs T.a :: R)) (hs : cs.size = 11) (h1 : ∀ u ∈ pkC q, ju u = true) {K : KV} (h : ∀ w', St w0 w' (gc b (pkC q).toArray T.a :: R) → K undef w') : stN P b 0 (pkC q) w K :=
 S.put h1 (by simp [pkC, hs]) (by
  have hl : cs.toList.length = 11 := by simpa using hs
  have h2 : (pkC q).length = 11 := rfl
  rw [h2, List.take_zero, List.nil_append, List.drop_eq_nil_of_le (by omega), List.append_nil]) h
theorem zj (S : St w0 w R) : St w0 (w.alloc (.cells #[.int .i64 0, .int .u64 0, .int .u64 0, .int .u64 0, .int .u64 0, .int .u64 0, .int .i64 0, .bool false, .slice none 0 0, .slice none 0 0, .slice none 0 0] T.a)) (gc w.heap.size (pkC pkZ).toArray T.a :: R) := S.mkB (pkC pkZ).toArray T.a
theorem uu {q : Pk} (S : St w0 w (gc b (pkC q).toArray T.a :: R)) (K : KV) : ldN P 11 b 0 w K = K (pkA q) w := S.ldA (pkC q) rfl rfl K
theorem bhj {q : Pk} (S : St w0 w (gc b (pkC q).toArray T.a :: R)) (K : KV) : lc P T.a (.pointer (some ⟨b, 0, none⟩)) w K = K (pkA q) w := by rw [ahg]; exact uu S K
theorem aaa {cs : Array Value} {q : Pk} (S : St w0 w (gc b cs T.a :: R)) (hs : cs.size = 11) (h1 : ∀ u ∈ pkC q, ju u = true) {K : KV} (h : ∀ w', St w0 w' (gc b (pkC q).toArray T.a :: R) → K (pkA q) w') :
  stN P b 0 (pkC q) w fun _ w => lc P T.a (.pointer (some ⟨b, 0, none⟩)) w fun r0 w' => w' = w ∧ K r0 w :=
 ahr S hs h1 fun w' S' => by rw [bhj S']; exact ⟨rfl, h w' S'⟩
theorem ayk {w : World} (r : Rg) (tr : Int) (x : Bal) (ok kg : Bool) {K : KV} (h : ∀ w', Fr (fun _ => False) w w' → K (pkA (ahb r tr x ok kg)) w') : fk P F.dx [jw r, .int .u64 tr, jf x, .bool ok, .bool kg] w K := by
 rw [M.cs.fcall]
 apply M.cs.calls
 unfold M.cs
 refine St.po (St.jc w) fun b1 w1 S1 => ?_
 refine St.po S1 fun b2 w2 S2 => ?_
 simp
 have S3 := zj S2
 generalize w2.heap.size = b3 at *
 generalize w2.alloc _ = w3 at *
 obtain ⟨_, _, xl⟩ := rg S3.swap
 rw [xl]
 unfold jf
 simp
 have S4 := zj S3
 generalize w3.heap.size = b4 at *
 generalize w3.alloc _ = w4 at *
 refine ahr (q := pk0 5 tr x gu 0 ok) S4 rfl (sp _ _ _ _ _ _) fun w5 S5 => ?_
 obtain ⟨rp, rt, rv, _⟩ := iw S5.up3
 have fin : ∀ w6 (s : Bal) (v : Int), s = (if ok = false then r.p else if kg = false then r.t else gu) → v = (if ok = true ∧ kg = false then r.v else 0) → St w w6 (gc b4 (pkC (pk0 5 tr x s v ok)).toArray T.a :: gc b3 (pkC pkZ).toArray T.a :: gc b2 #[.int .u64 x.n, .int .u64 x.gj] T.c :: gc b1 (rgC r) T.g :: []) → M.cs.j0 (.bool kg) (.pointer (some ⟨b4, 0, none⟩)) (.pointer (some ⟨b3, 0, none⟩)) w6 K := fun w6 s v es ev S6 => by
  unfold M.cs.j0
  cases kg with
  | false =>
   simp
   rw [uu S6]
   have e : pkA (pk0 5 tr x s v ok) = .agg #[.int .i64 5, .int .u64 tr, .int .u64 x.n, .int .u64 x.gj, .int .u64 s.n, .int .u64 s.gj, .int .i64 v, .bool ok, .slice none 0 0, .slice none 0 0, .slice none 0 0] := rfl
   rw [e]
   simp
   refine aaa (q := pk0 5 tr x s v ok) S6.swap rfl (sp _ _ _ _ _ _) fun w7 S7 => ?_
   subst es ev
   exact h w7 S7.fr
  | true =>
   simp
   refine S6.ug rfl (by simp [pkC]) fun w7 S7 => ?_
   have S7' : St w w7 (gc b4 (pkC (pk0 7 tr x s v ok)).toArray T.a :: _) := S7
   rw [uu S7']
   have e : pkA (pk0 7 tr x s v ok) = .agg #[.int .i64 7, .int .u64 tr, .int .u64 x.n, .int .u64 x.gj, .int .u64 s.n, .int .u64 s.gj, .int .i64 v, .bool ok, .slice none 0 0, .slice none 0 0, .slice none 0 0] := rfl
   rw [e]
   simp
   refine aaa (q := pk0 7 tr x s v ok) S7'.swap rfl (sp _ _ _ _ _ _) fun w8 S8 => ?_
   subst es ev
   exact h w8 S8.fr
 cases ok with
 | false =>
  simp [rp]
  unfold jf
  simp
  refine St.put (cs' := (pkC (pk0 5 tr x r.p 0 false)).toArray) (vs := [.int .u64 r.p.n, .int .u64 r.p.gj]) S5 (by simp) (by simp [pkC]) rfl fun w6 S6 => ?_
  exact fin w6 r.p 0 rfl rfl S6
 | true =>
  cases kg with
  | true =>
   simp
   exact fin w5 gu 0 rfl rfl S5
  | false =>
   simp
   have S5d := S5.iu ((Fr.refl _ w5).dr 1)
   obtain ⟨_, rt', rv', _⟩ := iw S5d.up3
   simp only [mf] at rv'
   simp [rt', rv']
   unfold jf
   simp
   refine St.put (cs' := (pkC (pk0 5 tr x r.t 0 true)).toArray) (vs := [.int .u64 r.t.n, .int .u64 r.t.gj]) S5d (by simp) (by simp [pkC]) rfl fun w6 S6 => ?_
   obtain ⟨_, _, rv6, _⟩ := iw S6.up3
   simp [rv6]
   refine S6.ug rfl (by simp [pkC]) fun w7 S7 => ?_
   exact fin w7 r.t r.v rfl rfl S7
theorem auh {w : World} (r : Rg) (tr : Int) (x : Bal) (ok kg : Bool) {K : KV} (h : ∀ w', Fr (fun _ => False) w w' → K (pkA (ahb r tr x ok kg)) w') : fk P F.cu [jw r, .int .u64 tr, jf x, .bool ok, .bool kg] w K := by
 rw [M.ca.fcall]
 apply M.ca.calls
 unfold M.ca
 refine St.po (St.jc w) fun b1 w1 S1 => ?_
 refine St.po S1 fun b2 w2 S2 => ?_
 simp
 have S3 := zj S2
 generalize w2.heap.size = b3 at *
 generalize w2.alloc _ = w3 at *
 obtain ⟨_, _, xl⟩ := rg S3.swap
 rw [xl]
 unfold jf
 simp
 have S4 := zj S3
 generalize w3.heap.size = b4 at *
 generalize w3.alloc _ = w4 at *
 refine ahr (q := pk0 5 tr x gu 0 ok) S4 rfl (sp _ _ _ _ _ _) fun w5 S5 => ?_
 have fin : ∀ w6 (k : Int) (s : Bal) (v : Int), k = (if kg = true then 7 else 5) → s = (if ok = false then r.p else if kg = false then r.t else gu) → v = (if ok = true ∧ kg = false then r.v else 0) → St w w6 (gc b4 (pkC (pk0 k tr x s v ok)).toArray T.a :: gc b3 (pkC pkZ).toArray T.a :: gc b2 #[.int .u64 x.n, .int .u64 x.gj] T.c :: gc b1 (rgC r) T.i :: []) →
   ldN P 11 b4 0 w6 fun t w => stT P T.a (.pointer (some ⟨b3, 0, none⟩)) t w fun _ w => lc P T.a (.pointer (some ⟨b3, 0, none⟩)) w fun v w' => w' = w ∧ K v w := fun w6 k s v ek es ev S6 => by
  rw [uu S6]
  have e : pkA (pk0 k tr x s v ok) = .agg #[.int .i64 k, .int .u64 tr, .int .u64 x.n, .int .u64 x.gj, .int .u64 s.n, .int .u64 s.gj, .int .i64 v, .bool ok, .slice none 0 0, .slice none 0 0, .slice none 0 0] := rfl
  rw [e]
  simp
  refine aaa (q := pk0 k tr x s v ok) S6.swap rfl (sp _ _ _ _ _ _) fun w7 S7 => ?_
  subst es ev ek
  exact h w7 S7.fr
 have mid : ∀ w6 (k : Int), k = (if kg = true then 7 else 5) → St w w6 (gc b4 (pkC (pk0 k tr x gu 0 ok)).toArray T.a :: gc b3 (pkC pkZ).toArray T.a :: gc b2 #[.int .u64 x.n, .int .u64 x.gj] T.c :: gc b1 (rgC r) T.i :: []) → M.ca.j0 (.bool ok) (.pointer (some ⟨b1, 0, none⟩)) (.pointer (some ⟨b4, 0, none⟩)) (.bool kg) (.pointer (some ⟨b3, 0, none⟩)) w6 K := fun w6 k ek S6 => by
  obtain ⟨rp, rt, rv, _⟩ := iw S6.up3
  unfold M.ca.j0
  cases ok with
  | false =>
   simp [rp]
   unfold jf
   simp
   refine St.put (cs' := (pkC (pk0 k tr x r.p 0 false)).toArray) (vs := [.int .u64 r.p.n, .int .u64 r.p.gj]) S6 (by simp) (by simp [pkC]) rfl fun w7 S7 => ?_
   exact fin w7 k r.p 0 ek rfl rfl S7
  | true =>
   cases kg with
   | true =>
    simp
    exact fin w6 k gu 0 ek rfl rfl S6
   | false =>
    simp [rt]
    unfold jf
    simp
    refine St.put (cs' := (pkC (pk0 k tr x r.t 0 true)).toArray) (vs := [.int .u64 r.t.n, .int .u64 r.t.gj]) S6 (by simp) (by simp [pkC]) rfl fun w7 S7 => ?_
    obtain ⟨_, _, rv6, _⟩ := iw S7.up3
    simp [rv6]
    refine S7.ug rfl (by simp [pkC]) fun w8 S8 => ?_
    exact fin w8 k r.t r.v ek rfl rfl S8
 cases kg with
 | false =>
  simp
  exact mid w5 5 rfl S5
 | true =>
  simp
  refine S5.ug rfl (by simp [pkC]) fun w6 S6 => ?_
  exact mid w6 7 rfl S6
theorem bea {w : World} (r : Rg) {K : KV} (h : ∀ w', Fr (fun _ => False) w w' → K (jw r) w') : fk P F.dl [jw r] w K := by
 rw [M.dv.fcall]
 apply M.dv.calls
 unfold M.dv
 refine St.po (St.jc w) fun b1 w1 S1 => ?_
 simp
 have S2 : St w (w1.alloc (.cells #[.int .u64 0, .int .u64 0, .int .u64 0, .int .u64 0, .int .i64 0] T.i)) (gc w1.heap.size (rgC rg0) T.i :: gc b1 (rgC r) T.g :: []) := tq S1 _
 generalize w1.heap.size = b2 at *
 generalize w1.alloc _ = w2 at *
 obtain ⟨rp, rt, rv, _⟩ := iw S2.swap
 simp [rp, rt, rv]
 unfold jf
 simp
 refine pf (r' := r) S2 fun w3 S3 => ?_
 obtain ⟨_, _, _, rl⟩ := iw S3
 rw [zh, rl]
 exact ⟨rfl, h w3 S3.fr⟩
end
set_option maxRecDepth 100000
open Go.Eng
def su (l1 l2 : List Spn) : Bool := decide (l1.length = l2.length) && (List.zipWith xb l1 l2).all id
theorem anp {l1 l2 : List Spn} {i : Nat} (h1 : i < l1.length) (h2 : i < l2.length) (h : xb l1[i] l2[i] = false) : su l1 l2 = false := by
 unfold su
 have : (List.zipWith xb l1 l2).all id = false := by
  rw [List.all_eq_false]
  refine ⟨xb l1[i] l2[i], ?_, by simp [h]⟩
  rw [List.mem_iff_getElem]
  exact ⟨i, by simp; omega, by simp⟩
 rw [this, Bool.and_false]
theorem akz {l1 l2 : List Spn} (hl : l1.length = l2.length) (h : ∀ j (h1 : j < l1.length) (h2 : j < l2.length), xb l1[j] l2[j] = true) : su l1 l2 = true := by
 unfold su
 rw [decide_eq_true hl, Bool.true_and, List.all_eq_true]
 intro x hx
 obtain ⟨j, hj, rfl⟩ := List.getElem_of_mem hx
 simp only [List.length_zipWith] at hj
 rw [List.getElem_zipWith]
 exact h j (by omega) (by omega)
theorem asb {w : World} {v1 v2 : Value} {l1 l2 : List Spn} (h1 : SlS w v1 l1) (h2 : SlS w v2 l2) (hn : l1.length ≤ 1000000) {K : KV}
  (h : ∀ w', Fr (fun _ => False) w w' → K (.bool (su l1 l2)) w') : fk P F.dd [v1, v2] w K := by
 rw [M.bq.fcall]
 apply M.bq.calls
 unfold M.bq
 simp only [fo]
 rw [h1.ip (by simp), h2.ip (by simp)]
 by_cases hne : l1.length = l2.length
 case neg =>
  have hne' : ¬ (l1.length : Int) = (l2.length : Int) := by omega
  have hz : su l1 l2 = false := by unfold su; simp [hne]
  rw [hz] at h
  simp [hne']
  exact h w (Fr.refl _ _)
 simp [hne]
 unfold M.bq.j0
 simp only [fo]
 refine ⟨bgt w l1 l2, fun x _ => l1.length - ms x 1, ⟨_, 0, rfl, Nat.zero_le _, fun j _ _ h => by omega, Fr.refl _ _⟩, ?_⟩
 rintro x w1 ⟨a, i, rfl, hin, hpre, hf1⟩
 have g1 : gv [a, .int .i64 (i : Int)] 1 = .int .i64 (i : Int) := rfl
 simp only [g1]
 have hr1 : SlS w1 v1 l1 := h1.fr hf1 fun _ _ _ h => h
 have hr2 : SlS w1 v2 l2 := h2.fr hf1 fun _ _ _ h => h
 rw [hr1.ip (by simp)]
 by_cases hlt : i < l1.length
 ·have hlt2 : i < l2.length := by omega
  obtain ⟨b1, o1, c1, rfl, _, _, k1⟩ := hr1.at hlt
  obtain ⟨b2, o2, c2, rfl, _, _, k2⟩ := hr2.at hlt2
  have hw : IntKind.i64.wrap ((i : Int) + 1) = ((i + 1 : Nat) : Int) := by rw [ft (by omega) (by omega)]; rfl
  have d1 : ∀ K, ldN P 8 b1 (o1 + i * 8) (dr w1 1) K = K (tt l1[i]) (dr w1 1) := fun K => ldS (w := dr w1 1) k1 K
  have d2 : ∀ K, ldN P 8 b2 (o2 + i * 8) (dr w1 1) K = K (tt l2[i]) (dr w1 1) := fun K => ldS (w := dr w1 1) k2 K
  simp [hlt]
  unfold M.bq.j3
  simp only [fo, g1]
  cases hs : xb l1[i] l2[i] with
  | true =>
   simp [hlt, hlt2, d1, d2, ama, hs, hw]
   refine ⟨⟨_, i + 1, rfl, by omega, fun j a1 a2 hj => ?_, hf1.dr 1⟩, by simp [ms, gv]; omega⟩
   by_cases hji : j = i
   ·subst hji; exact hs
   ·exact hpre j a1 a2 (by omega)
  | false =>
   rw [anp hlt hlt2 hs] at h
   simp [hlt, hlt2, d1, d2, ama, hs]
   exact h _ (hf1.dr 1)
 ·simp [hlt]
  have := h _ hf1
  rw [akz hne fun j a1 a2 => hpre j a1 a2 (by omega)] at this
  exact this
def kq (p q : Pk) : Bool := decide (p.fu = q.fu) && (decide (p.tr = q.tr) && (decide (p.b = q.b) && (decide (p.im = q.im) && (decide (p.v = q.v) && (p.ok == q.ok)))))
def qt (p q : Pk) (ls ls' : List Spn) (lm lm' : List Mem) (lu lu' : List Int) : Bool := decide (lm = lm') && (decide (lu = lu') && (su ls ls' && kq p q))
theorem zd.one {w : World} {p : Pk} {ls : List Spn} {lm : List Mem} {lu : List Int} (h : zd w p ls lm lu) : ju p.sv = true ∧ ju p.mv = true ∧ ju p.iv = true := by
 obtain ⟨a1, c1, h1, _⟩ := h.s
 obtain ⟨a2, c2, h2, _⟩ := h.m
 obtain ⟨a3, c3, h3, _⟩ := h.u
 rw [h1, h2, h3]
 exact ⟨rfl, rfl, rfl⟩
theorem oz.sl {w : World} {p : Pk} {ls : List Spn} {lm : List Mem} {lu : List Int} (h : oz w p ls lm lu) : zd w p ls lm lu := ⟨h.s, h.m, h.u⟩
theorem akd {α : Type} {l1 l2 : List α} (hl : l1.length = l2.length) (h : ∀ j (h1 : j < l1.length) (h2 : j < l2.length), l1[j] = l2[j]) : l1 = l2 := List.ext_getElem hl h
def SaM (W : World) (pb qb : Nat) (p q : Pk) (lm lm' : List Mem) : KL := fun x w1 => ∃ (u : Value) (i : Nat), x = [u, .int .i64 (i : Nat)] ∧ i ≤ lm.length ∧ (∀ j (h1 : j < lm.length) (h2 : j < lm'.length), j < i → lm[j] = lm'[j]) ∧ St W w1 (gc qb (pkC q).toArray T.a :: gc pb (pkC p).toArray T.a :: [])
def SaU (W : World) (pb qb : Nat) (p q : Pk) (lu lu' : List Int) : KL := fun x w1 => ∃ (u : Value) (i : Nat), x = [u, .int .i64 (i : Nat)] ∧ i ≤ lu.length ∧ (∀ j (h1 : j < lu.length) (h2 : j < lu'.length), j < i → lu[j] = lu'[j]) ∧ St W w1 (gc qb (pkC q).toArray T.a :: gc pb (pkC p).toArray T.a :: [])
theorem atm (rx ry : Operand) (x y : Mem) (w : World) (K : KV) : fj P .neq T.v rx ry (px x) (px y) w K = K (.bool !(decide (x = y))) w := axa rx ry x y w K
theorem axz {w : World} {p q : Pk} {ls ls' : List Spn} {lm lm' : List Mem} {lu lu' : List Int} (hp : oz w p ls lm lu) (hq : oz w q ls' lm' lu') {K : KV}
  (h : ∀ w', Fr (fun _ => False) w w' → K (.bool (qt p q ls ls' lm lm' lu lu')) w') : fk P F.dk [pkA p, pkA q] w K := by
 rw [M.w.fcall]
 apply M.w.calls
 unfold M.w
 refine St.po (St.jc w) fun pb w1 S1 => ?_
 refine St.po S1 fun qb w2 S2 => ?_
 have S2' : St w w2 (gc qb (pkC q).toArray T.a :: gc pb (pkC p).toArray T.a :: []) := S2
 have hp2 := hp.fr S2'.fr
 have hq2 := hq.fr S2'.fr
 obtain ⟨q0, q1, q2, q4, q6, q7, q8, q9, q10, _⟩ := ik S2'
 obtain ⟨p0, p1, p2, p4, p6, p7, p8, p9, p10, _⟩ := ik S2'.swap
 have lm1 : ∀ w' K, biT P .len #[T.o] T.b [false] [p.mv] w' K = K (.int .i64 lm.length) w' := fun w' K => hp.m.ip (by kernel_rfl) [false]
 have lm2 : ∀ w' K, biT P .len #[T.o] T.b [false] [q.mv] w' K = K (.int .i64 lm'.length) w' := fun w' K => hq.m.ip (by kernel_rfl) [false]
 have lu1 : ∀ w' K, biT P .len #[T.f] T.b [false] [p.iv] w' K = K (.int .i64 lu.length) w' := fun w' K => hp.u.ip (by kernel_rfl) [false]
 have lu2 : ∀ w' K, biT P .len #[T.f] T.b [false] [q.iv] w' K = K (.int .i64 lu'.length) w' := fun w' K => hq.u.ip (by kernel_rfl) [false]
 have no : ∀ w', Fr (fun _ => False) w w' → qt p q ls ls' lm lm' lu lu' = false → K (.bool false) w' := fun w' f e => by
  have := h w' f
  rwa [e] at this
 by_cases hm : lm.length = lm'.length
 case neg =>
  have hm' : ¬ (lm.length : Int) = (lm'.length : Int) := by omega
  simp [p9, q9, lm1, lm2, hm']
  refine no _ S2.fr ?_
  unfold qt
  rw [decide_eq_false fun he => hm (congrArg List.length he)]
  rfl
 by_cases hu : lu.length = lu'.length
 case neg =>
  have hu' : ¬ (lu.length : Int) = (lu'.length : Int) := by omega
  simp [p9, q9, lm1, lm2, hm, p10, q10, lu1, lu2, hu']
  refine no _ S2.fr ?_
  unfold qt
  rw [decide_eq_false (p := lu = lu') fun he => hu (congrArg List.length he)]
  simp
 simp [p9, q9, lm1, lm2, hm, p10, q10, lu1, lu2, hu, p8, q8]
 refine asb hp2.s hq2.s hp.ls fun w3 f3 => ?_
 have S3 := S2'.iu f3
 cases hs : su ls ls' with
 | false =>
  simp
  refine no _ S3.fr ?_
  unfold qt
  simp [hs]
 | true =>
 simp
 unfold M.w.j0
 refine ⟨SaM w pb qb p q lm lm', fun x _ => lm.length - ms x 1, ⟨_, 0, rfl, Nat.zero_le _, fun j _ _ h => by omega, S3⟩, ?_⟩
 rintro x w4 ⟨u, i, rfl, hi, hpre, S4⟩
 unfold M.w.j2
 obtain ⟨q0, q1, q2, q4, q6, q7, q8, q9, q10, _⟩ := ik S4
 obtain ⟨p0, p1, p2, p4, p6, p7, p8, p9, p10, _⟩ := ik S4.swap
 by_cases hil : i < lm.length
 ·have hil' : (i : Int) < (lm.length : Int) := by omega
  have hil2 : i < lm'.length := by omega
  have hw : IntKind.i64.wrap ((i : Int) + 1) = ((i + 1 : Nat) : Int) := by have := hp.lm; rw [ft (by omega) (by omega)]; rfl
  simp [p9, lm1, hil]
  unfold M.w.j3
  obtain ⟨b1, o1, c1, e1, _, _, k1⟩ := (hp.fr S4.fr).m.at hil
  obtain ⟨b2, o2, c2, e2, _, _, k2⟩ := (hq.fr S4.fr).m.at hil2
  have i1 : ∀ w' K, iaT P T.o p.mv (.int .i64 (i : Nat)) w' K = K (.pointer (some ⟨b1, o1 + i * 3, none⟩)) w' := fun w' K => by rw [e1]; simp [hil]
  have i2 : ∀ w' K, iaT P T.o q.mv (.int .i64 (i : Nat)) w' K = K (.pointer (some ⟨b2, o2 + i * 3, none⟩)) w' := fun w' K => by rw [e2]; simp [hil2]
  have d1 : ∀ K, ldN P 3 b1 (o1 + i * 3) (dr w4 1) K = K (px lm[i]) (dr w4 1) := fun K => ldM (w := dr w4 1) k1 K
  have d2 : ∀ K, ldN P 3 b2 (o2 + i * 3) (dr w4 1) K = K (px lm'[i]) (dr w4 1) := fun K => ldM (w := dr w4 1) k2 K
  by_cases he : lm[i] = lm'[i]
  ·simp [p9, q9, i1, i2, d1, d2, atm, he, hw]
   refine ⟨⟨_, i + 1, rfl, by omega, fun j a1 a2 hj => ?_, S4.iu ((Fr.refl _ w4).dr 1)⟩, by simp [ms, gv]; omega⟩
   by_cases hji : j = i
   ·subst hji; exact he
   ·exact hpre j a1 a2 (by omega)
  ·simp [p9, q9, i1, i2, d1, d2, atm, he]
   refine no _ (S4.iu ((Fr.refl _ w4).dr 1)).fr ?_
   unfold qt
   rw [decide_eq_false (p := lm = lm') fun hee => he (by simp [hee])]
   rfl
 have hil' : ¬ (i : Int) < (lm.length : Int) := by omega
 have hme : lm = lm' := akd hm fun j a1 a2 => hpre j a1 a2 (by omega)
 simp [p9, lm1, hil]
 refine ⟨SaU w pb qb p q lu lu', fun x _ => lu.length - ms x 1, ⟨_, 0, rfl, Nat.zero_le _, fun j _ _ h => by omega, S4⟩, ?_⟩
 rintro x w5 ⟨u, i, rfl, hi, hpre2, S5⟩
 unfold M.w.j6
 obtain ⟨q0, q1, q2, q4, q6, q7, q8, q9, q10, _⟩ := ik S5
 obtain ⟨p0, p1, p2, p4, p6, p7, p8, p9, p10, _⟩ := ik S5.swap
 by_cases hil : i < lu.length
 ·have hil' : (i : Int) < (lu.length : Int) := by omega
  have hil2 : i < lu'.length := by omega
  have hw : IntKind.i64.wrap ((i : Int) + 1) = ((i + 1 : Nat) : Int) := by have := hp.lu; rw [ft (by omega) (by omega)]; rfl
  simp [p10, lu1, hil]
  unfold M.w.j7
  obtain ⟨b1, o1, c1, e1, _, k1⟩ := yc (hp.fr S5.fr).u hil
  obtain ⟨b2, o2, c2, e2, _, k2⟩ := yc (hq.fr S5.fr).u hil2
  have i1 : ∀ w' K, iaT P T.f p.iv (.int .i64 (i : Nat)) w' K = K (.pointer (some ⟨b1, o1 + i, none⟩)) w' := fun w' K => by rw [e1]; simp [hil]
  have i2 : ∀ w' K, iaT P T.f q.iv (.int .i64 (i : Nat)) w' K = K (.pointer (some ⟨b2, o2 + i, none⟩)) w' := fun w' K => by rw [e2]; simp [hil2]
  by_cases he : lu[i] = lu'[i]
  ·simp [p10, q10, i1, i2, k1, k2, he, hw]
   refine ⟨⟨_, i + 1, rfl, by omega, fun j a1 a2 hj => ?_, S5.iu ((Fr.refl _ w5).dr 1)⟩, by simp [ms, gv]; omega⟩
   by_cases hji : j = i
   ·subst hji; exact he
   ·exact hpre2 j a1 a2 (by omega)
  ·simp [p10, q10, i1, i2, k1, k2, he]
   refine no _ (S5.iu ((Fr.refl _ w5).dr 1)).fr ?_
   unfold qt
   rw [decide_eq_false (p := lu = lu') fun hee => he (by simp [hee])]
   simp
 have hil' : ¬ (i : Int) < (lu.length : Int) := by omega
 have hue : lu = lu' := akd hu fun j a1 a2 => hpre2 j a1 a2 (by omega)
 simp [p10, lu1, hil]
 unfold M.w.j5
 have fin := h w5 S5.fr
 unfold qt at fin
 rw [decide_eq_true hme, decide_eq_true hue, hs, Bool.true_and, Bool.true_and, Bool.true_and] at fin
 unfold kq at fin
 have hbo : aew P T.ar = true := by kernel_rfl
 by_cases a0 : p.fu = q.fu
 case neg =>
  simp [a0] at fin
  simp [p0, q0, a0]
  exact fin
 by_cases a1 : p.tr = q.tr
 case neg =>
  simp [a1] at fin
  simp [p0, q0, a0, p1, q1, a1]
  exact fin
 by_cases a2 : p.b = q.b
 case neg =>
  simp [a2] at fin
  simp [p0, q0, a0, p1, q1, a1, p2, q2, pt, a2]
  exact fin
 by_cases a3 : p.im = q.im
 case neg =>
  simp [a3] at fin
  simp [p0, q0, a0, p1, q1, a1, p2, q2, pt, a2, p4, q4, a3]
  exact fin
 by_cases a4 : p.v = q.v
 case neg =>
  simp [a4] at fin
  simp [p0, q0, a0, p1, q1, a1, p2, q2, pt, a2, p4, q4, a3, p6, q6, a4]
  exact fin
 simp [a0, a1, a2, a3, a4] at fin
 simp [p0, q0, a0, p1, q1, a1, p2, q2, pt, a2, p4, q4, a3, p6, q6, a4, p7, q7, aeu hbo]
 exact fin
def jx (p : Pk) : Pk := ⟨p.fu, if p.fu = 3 then 0 else p.tr, if p.fu = 4 ∨ p.fu = 5 ∨ p.fu = 6 ∨ p.fu = 7 ∨ p.fu = 9 then p.b else gu, if p.fu = 5 ∨ p.fu = 7 then p.im else gu, if p.fu = 5 ∨ p.fu = 6 ∨ p.fu = 8 then p.v else 0, if p.fu = 5 ∨ p.fu = 7 then p.ok else false,
 if p.fu = 1 ∨ p.fu = 2 ∨ p.fu = 9 then p.sv else .slice none 0 0, if p.fu = 3 then p.mv else .slice none 0 0, if p.fu = 10 then p.iv else .slice none 0 0⟩
def ou (p : Pk) (l : List Spn) : List Spn := if p.fu = 1 ∨ p.fu = 2 ∨ p.fu = 9 then l else []
def ot (p : Pk) (l : List Mem) : List Mem := if p.fu = 3 then l else []
def oh (p : Pk) (l : List Int) : List Int := if p.fu = 10 then l else []
theorem ate {w : World} {p : Pk} {ls : List Spn} {lm : List Mem} {lu : List Int} (h : oz w p ls lm lu) : oz w (jx p) (ou p ls) (ot p lm) (oh p lu) := by
 refine ⟨?_, ?_, ?_, ?_, ?_, ?_⟩
 ·unfold jx ou; simp only; split
  ·exact h.s
  ·exact Sl.nil
 ·unfold jx ot; simp only; split
  ·exact h.m
  ·exact Sl.nil
 ·unfold jx oh; simp only; split
  ·exact h.u
  ·exact Sl.nil
 ·unfold ou; split
  ·exact h.ls
  ·simp
 ·unfold ot; split
  ·exact h.lm
  ·simp
 ·unfold oh; split
  ·exact h.lu
  ·simp
theorem ajv (b : Nat) (q : Pk) (w : World) (K : KV) : stT P T.a (.pointer (some ⟨b, 0, none⟩)) (pkA q) w K = stN P b 0 (pkC q) w K := by simp [pkA, pkC]
theorem bfd {q : Pk} (h1 : ju q.sv = true) (h2 : ju q.mv = true) (h3 : ju q.iv = true) : ∀ u ∈ pkC q, ju u = true := fun u hu => by
 simp only [pkC, List.mem_cons, List.not_mem_nil, or_false] at hu
 rcases hu with rfl | rfl | rfl | rfl | rfl | rfl | rfl | rfl | rfl | rfl | rfl <;> first | rfl | assumption
theorem oz.cells {w : World} {p : Pk} {ls : List Spn} {lm : List Mem} {lu : List Int} (h : oz w p ls lm lu) : ∀ u ∈ pkC p, ju u = true := bfd h.sl.one.1 h.sl.one.2.1 h.sl.one.2.2
theorem bdm {w : World} {p : Pk} {ls : List Spn} {lm : List Mem} {lu : List Int} (hp : oz w p ls lm lu) {K : KV} (h : ∀ w', Fr (fun _ => False) w w' → K (pkA (jx p)) w') : fk P F.dn [pkA p] w K := by
 rw [M.ao.fcall]
 apply M.ao.calls
 unfold M.ao
 refine St.po (St.jc w) fun b1 w1 S1 => ?_
 have S1' : St w w1 (gc b1 (pkC p).toArray T.a :: []) := S1
 obtain ⟨c0, c1, c2, c4, c6, c7, c8, c9, c10, _⟩ := ik S1'
 simp
 have S2 := zj S1'
 generalize w1.heap.size = b2 at *
 generalize w1.alloc _ = w2 at *
 obtain ⟨c0, c1, c2, c4, c6, c7, c8, c9, c10, _⟩ := ik S2.swap
 simp [c0, c1]
 have S3 := zj S2
 generalize w2.heap.size = b3 at *
 generalize w2.alloc _ = w3 at *
 refine ahr (q := pk0 p.fu p.tr gu gu 0 false) S3 rfl (sp _ _ _ _ _ _) fun w4 S4 => ?_
 obtain ⟨o1, o2, o3⟩ := hp.sl.one
 obtain ⟨⟨a1, k1, h1⟩, ⟨a2, k2, h2⟩, a3, k3, h3⟩ := hp.one
 have fin : ∀ w' q, jx p = q → St w w' (gc b3 (pkC q).toArray T.a :: gc b2 (pkC pkZ).toArray T.a :: gc b1 (pkC p).toArray T.a :: []) →
   ldN P 11 b3 0 w' fun t w => stT P T.a (.pointer (some ⟨b2, 0, none⟩)) t w fun _ w => lc P T.a (.pointer (some ⟨b2, 0, none⟩)) w fun v w' => w' = w ∧ K v w := fun w' q e S' => by
  rw [uu S', ajv]
  refine aaa S'.swap rfl ?_ fun w7 S7 => ?_
  ·rw [← e]
   exact (ate hp).cells
  ·have := h w7 S7.fr
   rwa [e] at this
 obtain ⟨c0, c1, c2, c4, c6, c7, c8, c9, c10, _⟩ := ik S4.up2
 simp only [jf] at c2 c4
 by_cases q1 : p.fu = 1
 ·have e : jx p = ⟨p.fu, p.tr, gu, gu, 0, false, (.slice a1 ls.length k1), gt, gt⟩ := by unfold jx; simp [q1, h1]
  rw [h1] at c8
  rw [h2] at c9
  rw [h3] at c10
  simp [c0, q1]
  unfold M.ao.j1
  simp [c2, c4, c6, c7, c8, c9, c10]
  refine S4.ug rfl (by simp [pkC]) fun w5 S5 => ?_
  have S5 : St w w5 (gc b3 (pkC ⟨p.fu, p.tr, gu, gu, 0, false, (.slice a1 ls.length k1), gt, gt⟩).toArray T.a :: _) := S5
  obtain ⟨d0, d1, d2, d4, d6, d7, d8, d9, d10, _⟩ := ik S5.up2
  simp only [jf] at d2 d4
  rw [h1] at d8
  rw [h2] at d9
  rw [h3] at d10
  exact fin _ _ e S5
 by_cases q2 : p.fu = 2
 ·have e : jx p = ⟨p.fu, p.tr, gu, gu, 0, false, (.slice a1 ls.length k1), gt, gt⟩ := by unfold jx; simp [q2, h1]
  rw [h1] at c8
  rw [h2] at c9
  rw [h3] at c10
  simp [c0, q2]
  unfold M.ao.j1
  simp [c2, c4, c6, c7, c8, c9, c10]
  refine S4.ug rfl (by simp [pkC]) fun w5 S5 => ?_
  have S5 : St w w5 (gc b3 (pkC ⟨p.fu, p.tr, gu, gu, 0, false, (.slice a1 ls.length k1), gt, gt⟩).toArray T.a :: _) := S5
  obtain ⟨d0, d1, d2, d4, d6, d7, d8, d9, d10, _⟩ := ik S5.up2
  simp only [jf] at d2 d4
  rw [h1] at d8
  rw [h2] at d9
  rw [h3] at d10
  exact fin _ _ e S5
 by_cases q3 : p.fu = 3
 ·have e : jx p = ⟨p.fu, 0, gu, gu, 0, false, gt, (.slice a2 lm.length k2), gt⟩ := by unfold jx; simp [q3, h2]
  rw [h1] at c8
  rw [h2] at c9
  rw [h3] at c10
  simp [c0, q3]
  unfold M.ao.j1
  simp [c2, c4, c6, c7, c8, c9, c10]
  refine S4.ug rfl (by simp [pkC]) fun w5 S5 => ?_
  have S5 : St w w5 (gc b3 (pkC ⟨p.fu, 0, gu, gu, 0, false, gt, gt, gt⟩).toArray T.a :: _) := S5
  obtain ⟨d0, d1, d2, d4, d6, d7, d8, d9, d10, _⟩ := ik S5.up2
  simp only [jf] at d2 d4
  rw [h1] at d8
  rw [h2] at d9
  rw [h3] at d10
  simp [d2, d4, d6, d7, d8, d9, d10]
  refine S5.ug rfl (by simp [pkC]) fun w6 S6 => ?_
  have S6 : St w w6 (gc b3 (pkC ⟨p.fu, 0, gu, gu, 0, false, gt, (.slice a2 lm.length k2), gt⟩).toArray T.a :: _) := S6
  obtain ⟨d0, d1, d2, d4, d6, d7, d8, d9, d10, _⟩ := ik S6.up2
  simp only [jf] at d2 d4
  rw [h1] at d8
  rw [h2] at d9
  rw [h3] at d10
  exact fin _ _ e S6
 by_cases q4 : p.fu = 4
 ·have e : jx p = ⟨p.fu, p.tr, p.b, gu, 0, false, gt, gt, gt⟩ := by unfold jx; simp [q4]
  rw [h1] at c8
  rw [h2] at c9
  rw [h3] at c10
  simp [c0, q4]
  unfold M.ao.j1
  simp [c2, c4, c6, c7, c8, c9, c10]
  refine St.put (cs' := (pkC ⟨p.fu, p.tr, p.b, gu, 0, false, gt, gt, gt⟩).toArray) (vs := [.int .u64 p.b.n, .int .u64 p.b.gj]) S4 (by simp) (by simp [pkC]) rfl fun w5 S5 => ?_
  obtain ⟨d0, d1, d2, d4, d6, d7, d8, d9, d10, _⟩ := ik S5.up2
  simp only [jf] at d2 d4
  rw [h1] at d8
  rw [h2] at d9
  rw [h3] at d10
  exact fin _ _ e S5
 by_cases q5 : p.fu = 5
 ·have e : jx p = ⟨p.fu, p.tr, p.b, p.im, p.v, p.ok, gt, gt, gt⟩ := by unfold jx; simp [q5]
  have S4 := S4.iu ((Fr.refl _ w4).dr 1)
  obtain ⟨d0, d1, d2, d4, d6, d7, d8, d9, d10, _⟩ := ik S4.up2
  simp only [mf, jf] at d2 d4 d6 d7 d8
  rw [h1] at d8
  simp [c0, q5]
  unfold M.ao.j1
  simp [d2, d4, d6, d7, d8]
  refine St.put (cs' := (pkC ⟨p.fu, p.tr, p.b, gu, 0, false, gt, gt, gt⟩).toArray) (vs := [.int .u64 p.b.n, .int .u64 p.b.gj]) S4 (by simp) (by simp [pkC]) rfl fun w5 S5 => ?_
  obtain ⟨d0, d1, d2, d4, d6, d7, d8, d9, d10, _⟩ := ik S5.up2
  simp only [jf] at d2 d4
  rw [h1] at d8
  rw [h2] at d9
  rw [h3] at d10
  simp [d2, d4, d6, d7, d8, d9, d10]
  refine S5.ug rfl (by simp [pkC]) fun w6 S6 => ?_
  have S6 : St w w6 (gc b3 (pkC ⟨p.fu, p.tr, p.b, gu, 0, p.ok, gt, gt, gt⟩).toArray T.a :: _) := S6
  obtain ⟨d0, d1, d2, d4, d6, d7, d8, d9, d10, _⟩ := ik S6.up2
  simp only [jf] at d2 d4
  rw [h1] at d8
  rw [h2] at d9
  rw [h3] at d10
  simp [d2, d4, d6, d7, d8, d9, d10]
  refine St.put (cs' := (pkC ⟨p.fu, p.tr, p.b, p.im, 0, p.ok, gt, gt, gt⟩).toArray) (vs := [.int .u64 p.im.n, .int .u64 p.im.gj]) S6 (by simp) (by simp [pkC]) rfl fun w7 S7 => ?_
  obtain ⟨d0, d1, d2, d4, d6, d7, d8, d9, d10, _⟩ := ik S7.up2
  simp only [jf] at d2 d4
  rw [h1] at d8
  rw [h2] at d9
  rw [h3] at d10
  simp [d2, d4, d6, d7, d8, d9, d10]
  refine S7.ug rfl (by simp [pkC]) fun w8 S8 => ?_
  have S8 : St w w8 (gc b3 (pkC ⟨p.fu, p.tr, p.b, p.im, p.v, p.ok, gt, gt, gt⟩).toArray T.a :: _) := S8
  obtain ⟨d0, d1, d2, d4, d6, d7, d8, d9, d10, _⟩ := ik S8.up2
  simp only [jf] at d2 d4
  rw [h1] at d8
  rw [h2] at d9
  rw [h3] at d10
  exact fin _ _ e S8
 by_cases q6 : p.fu = 6
 ·have e : jx p = ⟨p.fu, p.tr, p.b, gu, p.v, false, gt, gt, gt⟩ := by unfold jx; simp [q6]
  have S4 := S4.iu ((Fr.refl _ w4).dr 1)
  obtain ⟨d0, d1, d2, d4, d6, d7, d8, d9, d10, _⟩ := ik S4.up2
  simp only [mf, jf] at d2 d4 d6 d7 d8
  rw [h1] at d8
  simp [c0, q6]
  unfold M.ao.j1
  simp [d2, d4, d6, d7, d8]
  refine St.put (cs' := (pkC ⟨p.fu, p.tr, p.b, gu, 0, false, gt, gt, gt⟩).toArray) (vs := [.int .u64 p.b.n, .int .u64 p.b.gj]) S4 (by simp) (by simp [pkC]) rfl fun w5 S5 => ?_
  obtain ⟨d0, d1, d2, d4, d6, d7, d8, d9, d10, _⟩ := ik S5.up2
  simp only [jf] at d2 d4
  rw [h1] at d8
  rw [h2] at d9
  rw [h3] at d10
  simp [d2, d4, d6, d7, d8, d9, d10]
  refine S5.ug rfl (by simp [pkC]) fun w6 S6 => ?_
  have S6 : St w w6 (gc b3 (pkC ⟨p.fu, p.tr, p.b, gu, p.v, false, gt, gt, gt⟩).toArray T.a :: _) := S6
  obtain ⟨d0, d1, d2, d4, d6, d7, d8, d9, d10, _⟩ := ik S6.up2
  simp only [jf] at d2 d4
  rw [h1] at d8
  rw [h2] at d9
  rw [h3] at d10
  exact fin _ _ e S6
 by_cases q7 : p.fu = 7
 ·have e : jx p = ⟨p.fu, p.tr, p.b, p.im, 0, p.ok, gt, gt, gt⟩ := by unfold jx; simp [q7]
  have S4 := S4.iu ((Fr.refl _ w4).dr 1)
  obtain ⟨d0, d1, d2, d4, d6, d7, d8, d9, d10, _⟩ := ik S4.up2
  simp only [mf, jf] at d2 d4 d6 d7 d8
  rw [h1] at d8
  simp [c0, q7]
  unfold M.ao.j1
  simp [d2, d4, d6, d7, d8]
  refine St.put (cs' := (pkC ⟨p.fu, p.tr, p.b, gu, 0, false, gt, gt, gt⟩).toArray) (vs := [.int .u64 p.b.n, .int .u64 p.b.gj]) S4 (by simp) (by simp [pkC]) rfl fun w5 S5 => ?_
  obtain ⟨d0, d1, d2, d4, d6, d7, d8, d9, d10, _⟩ := ik S5.up2
  simp only [jf] at d2 d4
  rw [h1] at d8
  rw [h2] at d9
  rw [h3] at d10
  simp [d2, d4, d6, d7, d8, d9, d10]
  refine S5.ug rfl (by simp [pkC]) fun w6 S6 => ?_
  have S6 : St w w6 (gc b3 (pkC ⟨p.fu, p.tr, p.b, gu, 0, p.ok, gt, gt, gt⟩).toArray T.a :: _) := S6
  obtain ⟨d0, d1, d2, d4, d6, d7, d8, d9, d10, _⟩ := ik S6.up2
  simp only [jf] at d2 d4
  rw [h1] at d8
  rw [h2] at d9
  rw [h3] at d10
  simp [d2, d4, d6, d7, d8, d9, d10]
  refine St.put (cs' := (pkC ⟨p.fu, p.tr, p.b, p.im, 0, p.ok, gt, gt, gt⟩).toArray) (vs := [.int .u64 p.im.n, .int .u64 p.im.gj]) S6 (by simp) (by simp [pkC]) rfl fun w7 S7 => ?_
  obtain ⟨d0, d1, d2, d4, d6, d7, d8, d9, d10, _⟩ := ik S7.up2
  simp only [jf] at d2 d4
  rw [h1] at d8
  rw [h2] at d9
  rw [h3] at d10
  exact fin _ _ e S7
 by_cases q8 : p.fu = 8
 ·have e : jx p = ⟨p.fu, p.tr, gu, gu, p.v, false, gt, gt, gt⟩ := by unfold jx; simp [q8]
  rw [h1] at c8
  rw [h2] at c9
  rw [h3] at c10
  simp [c0, q8]
  unfold M.ao.j1
  simp [c2, c4, c6, c7, c8, c9, c10]
  refine S4.ug rfl (by simp [pkC]) fun w5 S5 => ?_
  have S5 : St w w5 (gc b3 (pkC ⟨p.fu, p.tr, gu, gu, p.v, false, gt, gt, gt⟩).toArray T.a :: _) := S5
  obtain ⟨d0, d1, d2, d4, d6, d7, d8, d9, d10, _⟩ := ik S5.up2
  simp only [jf] at d2 d4
  rw [h1] at d8
  rw [h2] at d9
  rw [h3] at d10
  exact fin _ _ e S5
 by_cases q9 : p.fu = 9
 ·have e : jx p = ⟨p.fu, p.tr, p.b, gu, 0, false, (.slice a1 ls.length k1), gt, gt⟩ := by unfold jx; simp [q9, h1]
  have S4 := S4.iu ((Fr.refl _ w4).dr 1)
  obtain ⟨d0, d1, d2, d4, d6, d7, d8, d9, d10, _⟩ := ik S4.up2
  simp only [mf, jf] at d2 d4 d6 d7 d8
  rw [h1] at d8
  simp [c0, q9]
  unfold M.ao.j1
  simp [d2, d4, d6, d7, d8]
  refine St.put (cs' := (pkC ⟨p.fu, p.tr, p.b, gu, 0, false, gt, gt, gt⟩).toArray) (vs := [.int .u64 p.b.n, .int .u64 p.b.gj]) S4 (by simp) (by simp [pkC]) rfl fun w5 S5 => ?_
  obtain ⟨d0, d1, d2, d4, d6, d7, d8, d9, d10, _⟩ := ik S5.up2
  simp only [jf] at d2 d4
  rw [h1] at d8
  rw [h2] at d9
  rw [h3] at d10
  simp [d2, d4, d6, d7, d8, d9, d10]
  refine S5.ug rfl (by simp [pkC]) fun w6 S6 => ?_
  have S6 : St w w6 (gc b3 (pkC ⟨p.fu, p.tr, p.b, gu, 0, false, (.slice a1 ls.length k1), gt, gt⟩).toArray T.a :: _) := S6
  obtain ⟨d0, d1, d2, d4, d6, d7, d8, d9, d10, _⟩ := ik S6.up2
  simp only [jf] at d2 d4
  rw [h1] at d8
  rw [h2] at d9
  rw [h3] at d10
  exact fin _ _ e S6
 by_cases q10 : p.fu = 10
 ·have e : jx p = ⟨p.fu, p.tr, gu, gu, 0, false, gt, gt, (.slice a3 lu.length k3)⟩ := by unfold jx; simp [q10, h3]
  rw [h1] at c8
  rw [h2] at c9
  rw [h3] at c10
  simp [c0, q10]
  unfold M.ao.j1
  simp [c2, c4, c6, c7, c8, c9, c10]
  refine S4.ug rfl (by simp [pkC]) fun w5 S5 => ?_
  have S5 : St w w5 (gc b3 (pkC ⟨p.fu, p.tr, gu, gu, 0, false, gt, gt, (.slice a3 lu.length k3)⟩).toArray T.a :: _) := S5
  obtain ⟨d0, d1, d2, d4, d6, d7, d8, d9, d10, _⟩ := ik S5.up2
  simp only [jf] at d2 d4
  rw [h1] at d8
  rw [h2] at d9
  rw [h3] at d10
  exact fin _ _ e S5
 have e : jx p = ⟨p.fu, p.tr, gu, gu, 0, false, gt, gt, gt⟩ := by unfold jx; simp [q1, q2, q3, q4, q5, q6, q7, q8, q9, q10]
 simp [c0, q1, q2]
 unfold M.ao.j1
 simp [q3, q4, q5, q6, q7, q8, q9, q10]
 exact fin _ _ e S4
def bin (W : World) (l1 l2 : List Spn) : KL := fun x w1 => ∃ (u0 u1 : Value) (i : Nat), x = [u0, u1, .int .i64 (i : Nat)] ∧ i ≤ l1.length ∧ (∀ j (h1 : j < l1.length) (h2 : j < l2.length), j < i → xb l1[j] l2[j] = true) ∧ Fr (fun _ => False) W w1
def bhy (W : World) (l1 l2 : List Int) : KL := fun x w1 => ∃ (u0 u1 : Value) (i : Nat), x = [u0, u1, .int .i64 (i : Nat)] ∧ i ≤ l1.length ∧ (∀ j (h1 : j < l1.length) (h2 : j < l2.length), j < i → l1[j] = l2[j]) ∧ Fr (fun _ => False) W w1
theorem ayv {w : World} {v1 v2 : Value} {l1 l2 : List Spn} (s1 : SlS w v1 l1) (s2 : SlS w v2 l2) (hlen : l1.length ≤ 1000000) {K : KV} (h : ∀ w', Fr (fun _ => False) w w' → K (.bool (su l1 l2)) w') : fk P F.ar [v1, v2] w K := by
 rw [M.y.fcall]
 apply M.y.calls
 unfold M.y
 simp only [fo]
 rw [s1.ip (by kernel_rfl), s2.ip (by kernel_rfl)]
 by_cases hne : l1.length = l2.length
 ·simp [hne]
  unfold M.y.j0
  simp only [fo]
  rw [s1.ip (by kernel_rfl)]
  refine ⟨bin w l1 l2, fun x _ => l1.length - ms x 2, ⟨_, _, 0, rfl, Nat.zero_le _, fun j _ _ h => by omega, Fr.refl _ _⟩, ?_⟩
  rintro x w1 ⟨u0, u1, i, rfl, hi, hpre, f1⟩
  by_cases hil : i < l1.length
  ·have hili : (i : Int) < (l1.length : Int) := by omega
   obtain ⟨b1, o1, cap1, hv1, _, _, e1⟩ := (s1.fr f1 fun _ _ _ h => h : SlS w1 v1 l1).at hil
   obtain ⟨b2, o2, cap2, hv2, _, _, e2⟩ := (s2.fr f1 fun _ _ _ h => h : SlS w1 v2 l2).at (show i < l2.length by omega)
   have hl2i : i < l2.length := by omega
   have q1 : ∀ w' K, iaT P T.n v1 (.int .i64 (i : Nat)) w' K = K (.pointer (some ⟨b1, o1 + i * 8, none⟩)) w' := fun w' K => by rw [hv1]; simp [hil]
   have q2 : ∀ w' K, iaT P T.n v2 (.int .i64 (i : Nat)) w' K = K (.pointer (some ⟨b2, o2 + i * 8, none⟩)) w' := fun w' K => by rw [hv2]; simp [hl2i]
   have g1 : ∀ K, ldN P 8 b1 (o1 + i * 8) (dr w1 1) K = K (tt l1[i]) (dr w1 1) := fun K => ldS (fun k v hk => by rw [mf]; exact e1 k v hk) K
   have g2 : ∀ K, ldN P 8 b2 (o2 + i * 8) (dr w1 1) K = K (tt l2[i]) (dr w1 1) := fun K => ldS (fun k v hk => by rw [mf]; exact e2 k v hk) K
   have hw : IntKind.i64.wrap ((i : Int) + 1) = ((i + 1 : Nat) : Int) := by rw [ft (by omega) (by omega)]; omega
   simp [hili]
   unfold M.y.j3
   simp [q1, q2, g1, g2, ama]
   cases hs : xb l1[i] l2[i] with
   | true =>
    simp
    rw [hw]
    refine ⟨⟨_, _, i + 1, rfl, hil, fun j a1 a2 hj => ?_, f1.dr 1⟩, by simp [ms, gv]; omega⟩
    by_cases hji : j = i
    ·subst hji; exact hs
    ·exact hpre j a1 a2 (by omega)
   | false =>
    simp
    have := h _ (f1.dr 1)
    rw [anp hil hl2i hs] at this
    exact this
  ·have hili : ¬ (i : Int) < (l1.length : Int) := by omega
   simp [hili]
   have := h w1 f1
   rw [akz hne fun j a1 a2 => hpre j a1 a2 (by omega)] at this
   exact this
 ·have hni : ¬ (l1.length : Int) = (l2.length : Int) := by omega
  simp [hni]
  have := h w (Fr.refl _ _)
  have hz : su l1 l2 = false := by unfold su; simp [hne]
  rw [hz] at this
  exact this
theorem ayr {w : World} {v1 v2 : Value} {l1 l2 : List Int} (s1 : SlU w v1 l1) (s2 : SlU w v2 l2) (hlen : l1.length ≤ 1000000) {K : KV} (h : ∀ w', Fr (fun _ => False) w w' → K (.bool (decide (l1 = l2))) w') : fk P F.bc [v1, v2] w K := by
 rw [M.aj.fcall]
 apply M.aj.calls
 unfold M.aj
 simp only [fo]
 rw [s1.ip (by kernel_rfl), s2.ip (by kernel_rfl)]
 by_cases hne : l1.length = l2.length
 ·simp [hne]
  unfold M.aj.j0
  simp only [fo]
  rw [s1.ip (by kernel_rfl)]
  refine ⟨bhy w l1 l2, fun x _ => l1.length - ms x 2, ⟨_, _, 0, rfl, Nat.zero_le _, fun j _ _ h => by omega, Fr.refl _ _⟩, ?_⟩
  rintro x w1 ⟨u0, u1, i, rfl, hi, hpre, f1⟩
  by_cases hil : i < l1.length
  ·have hili : (i : Int) < (l1.length : Int) := by omega
   have hl2i : i < l2.length := by omega
   obtain ⟨b1, o1, cap1, hv1, _, e1⟩ := yc (s1.fr f1 fun _ _ _ h => h : SlU w1 v1 l1) hil
   obtain ⟨b2, o2, cap2, hv2, _, e2⟩ := yc (s2.fr f1 fun _ _ _ h => h : SlU w1 v2 l2) hl2i
   have q1 : ∀ w' K, iaT P T.f v1 (.int .i64 (i : Nat)) w' K = K (.pointer (some ⟨b1, o1 + i, none⟩)) w' := fun w' K => by rw [hv1]; simp [hil]
   have q2 : ∀ w' K, iaT P T.f v2 (.int .i64 (i : Nat)) w' K = K (.pointer (some ⟨b2, o2 + i, none⟩)) w' := fun w' K => by rw [hv2]; simp [hl2i]
   have hw : IntKind.i64.wrap ((i : Int) + 1) = ((i + 1 : Nat) : Int) := by rw [ft (by omega) (by omega)]; omega
   simp [hili]
   unfold M.aj.j3
   simp [q1, q2, e1, e2]
   by_cases hs : l1[i] = l2[i]
   ·simp [hs]
    rw [hw]
    refine ⟨⟨_, _, i + 1, rfl, hil, fun j a1 a2 hj => ?_, f1.dr 1⟩, by simp [ms, gv]; omega⟩
    by_cases hji : j = i
    ·subst hji; exact hs
    ·exact hpre j a1 a2 (by omega)
   ·simp [hs]
    have := h _ (f1.dr 1)
    rw [decide_eq_false fun he => hs (by simp [he])] at this
    exact this
  ·have hili : ¬ (i : Int) < (l1.length : Int) := by omega
   simp [hili]
   have := h w1 f1
   rw [decide_eq_true (akd hne fun j a1 a2 => hpre j a1 a2 (by omega))] at this
   exact this
 ·have hni : ¬ (l1.length : Int) = (l2.length : Int) := by omega
  simp [hni]
  have := h w (Fr.refl _ _)
  rw [decide_eq_false fun he => hne (congrArg List.length he)] at this
  exact this
theorem bao {w : World} {p q : Pk} {ls ls' : List Spn} {lm lm' : List Mem} {lu lu' : List Int} (hp : oz w p ls lm lu) (hq : oz w q ls' lm' lu') {K : KV}
  (h : ∀ w', Fr (fun _ => False) w w' → K (.bool (qt p q ls ls' lm lm' lu lu')) w') : fk P F.el [pkA p, pkA q] w K := by
 rw [M.el.fcall]
 apply M.el.calls
 unfold M.el
 rw [aqo hp, aqo (hq.fr ((Fr.refl _ w).alloc _))]
 have S1 : St w (w.alloc (.cells (pkC p).toArray T.a)) (gc w.heap.size (pkC p).toArray T.a :: []) := (St.jc w).add ((Fr.refl _ w).alloc _) (B := fun x => x = w.heap.size) ⟨by rw [gm, if_pos rfl], rfl⟩ fun x hx => by subst hx; rw [ja]; omega
 generalize w.alloc (.cells (pkC p).toArray T.a) = w1 at *
 have S2 : St w (w1.alloc (.cells (pkC q).toArray T.a)) (gc w1.heap.size (pkC q).toArray T.a :: _) := S1.add ((Fr.refl _ w1).alloc _) (B := fun x => x = w1.heap.size) ⟨by rw [gm, if_pos rfl], rfl⟩ fun x hx => by subst hx; rw [ja]; omega
 generalize w1.alloc (.cells (pkC q).toArray T.a) = w2 at *
 generalize w.heap.size = pb at *
 generalize w1.heap.size = qb at *
 obtain ⟨q0, q1, q2, q4, q6, q7, q8, q9, q10, _⟩ := ik S2
 obtain ⟨p0, p1, p2, p4, p6, p7, p8, p9, p10, _⟩ := ik S2.swap
 have hbo : aew P T.ar = true := by kernel_rfl
 have no : ∀ bb : Bool, bb = false → (kq p q = false) → K (.bool bb) w2 := fun bb hb hl => by
  subst hb
  have := h w2 S2.fr
  unfold qt at this
  rw [hl, Bool.and_false, Bool.and_false, Bool.and_false] at this
  exact this
 by_cases a0 : p.fu = q.fu
 case neg =>
  simp [p0, q0, a0]
  exact no false rfl (by simp [kq, a0])
 by_cases a1 : p.tr = q.tr
 case neg =>
  simp [p0, q0, a0, p1, q1, a1]
  exact no false rfl (by simp [kq, a1])
 by_cases a2 : p.b = q.b
 case neg =>
  simp [p0, q0, a0, p1, q1, a1, p2, q2, pt, a2]
  exact no false rfl (by simp [kq, a2])
 by_cases a3 : p.im = q.im
 case neg =>
  simp [p0, q0, a0, p1, q1, a1, p2, q2, pt, a2, p4, q4, a3]
  exact no false rfl (by simp [kq, a3])
 by_cases a4 : p.v = q.v
 case neg =>
  simp [p0, q0, a0, p1, q1, a1, p2, q2, pt, a2, p4, q4, a3, p6, q6, a4]
  exact no false rfl (by simp [kq, a4])
 by_cases a5 : p.ok = q.ok
 case neg =>
  have a5' : (p.ok == q.ok) = false := by simpa using a5
  simp [p0, q0, a0, p1, q1, a1, p2, q2, pt, a2, p4, q4, a3, p6, q6, a4, p7, q7, aeu hbo, a5']
  exact no false rfl (by simp [kq, a5])
 obtain ⟨⟨sa, sc, es⟩, ⟨ma, mc, em⟩, ua, uc, eu⟩ := hp.one
 obtain ⟨⟨sa', sc', es'⟩, ⟨ma', mc', em'⟩, ua', uc', eu'⟩ := hq.one
 simp [p0, q0, a0, p1, q1, a1, p2, q2, pt, a2, p4, q4, a3, p6, q6, a4, p7, q7, aeu hbo, a5, p8, q8]
 have hp2 := hp.fr S2.fr
 have hq2 := hq.fr S2.fr
 have fb : kq p q = true := by simp [kq, a0, a1, a2, a3, a4, a5]
 have fin := h
 unfold qt at fin
 rw [fb] at fin
 refine ayv hp2.s hq2.s hp.ls fun w3 f3 => ?_
 have S3 := S2.iu f3
 obtain ⟨_, _, _, _, _, _, _, q9, _, _⟩ := ik S3
 obtain ⟨_, _, _, _, _, _, _, p9, _, _⟩ := ik S3.swap
 have hp3 := hp.fr S3.fr
 have hq3 := hq.fr S3.fr
 cases hb1 : su ls ls' with
 | false =>
  simp
  have := fin w3 S3.fr
  rw [hb1] at this
  simpa using this
 | true =>
 rw [hb1] at fin
 simp [p9, q9]
 refine awt hp3.m hq3.m hp.lm fun w4 f4 => ?_
 have S4 := S3.iu f4
 obtain ⟨_, _, _, _, _, _, _, _, q10, _⟩ := ik S4
 obtain ⟨_, _, _, _, _, _, _, _, p10, _⟩ := ik S4.swap
 have hp4 := hp.fr S4.fr
 have hq4 := hq.fr S4.fr
 by_cases hm : lm = lm'
 case neg =>
  simp [hm]
  have := fin w4 S4.fr
  simpa [hm] using this
 simp [hm, p10, q10]
 refine ayr hp4.u hq4.u hp.lu fun w5 f5 => ?_
 have := fin w5 (S4.iu f5).fr
 simpa [hm] using this
def byt (s : ByteArray) (k : Nat) : Nat := (s.get! k).toNat
theorem ayb (s : ByteArray) {i : Nat} (h : i < s.size) {k : IntKind} (w : World) (K : KV) : ixT P T.al (.string s) (.int k (i : Int)) w K = K (.int .u8 (byt s i)) w := by
 have hu : P.underlying T.al = some .string := wk amb
 have hg : s[i]? = some (s.get! i) := by
  rw [getElem?_pos s i h]
  have e : s.get! i = s[i]'h := by
   simp [ByteArray.get!, getElem!_pos, h]
   rfl
  rw [e]
 simp [ixT, iq, Instr.index, asIntOf, Sem.run_bind, ij hu, Result.andThen, Sem.run_pure, hg, byt]
theorem bgh {s d : TypeId} {ks k2 : IntKind} (hs : P.underlying s = some (.int ks)) (hd : P.underlying d = some (.int k2)) (k : IntKind) (x : Int) (w : World) (K : KV) : cvT P s d (.int k x) w K = K (.int k2 (k2.wrap x)) w := by
 simp [cvT, iq, convert, Sem.run_bind, ij hs, ij hd, Result.andThen, Conv.intToInt, Sem.run_pure]
def jk (t : ByteArray) (r : Nat) : Nat → Nat
 | 0 => r
 | k + 1 => jk t r k * 64 + byt t (k + 1) - 128
def ss (t : ByteArray) (k : Nat) : Bool := decide (128 ≤ byt t k) && decide (byt t k ≤ 191)
def lx (b0 : Nat) : Nat × Nat × Nat := if 194 ≤ b0 ∧ b0 ≤ 223 then (2, 128, b0 - 192) else if 224 ≤ b0 ∧ b0 ≤ 239 then (3, 2048, b0 - 224) else if 240 ≤ b0 ∧ b0 ≤ 244 then (4, 65536, b0 - 240) else (0, 0, 0)
def sk (t : ByteArray) : Nat → Bool
 | 0 => true
 | k + 1 => sk t k && ss t (k + 1)
def rr (t : ByteArray) : Nat × Nat :=
 if t.size = 0 then (0, 0) else if byt t 0 < 128 then (byt t 0, 1) else
 if (lx (byt t 0)).1 = 0 ∨ t.size < (lx (byt t 0)).1 then (0, 0) else
 if sk t ((lx (byt t 0)).1 - 1) = false then (0, 0) else
 if jk t (lx (byt t 0)).2.2 ((lx (byt t 0)).1 - 1) < (lx (byt t 0)).2.1 ∨ 1114111 < jk t (lx (byt t 0)).2.2 ((lx (byt t 0)).1 - 1) ∨ (55296 ≤ jk t (lx (byt t 0)).2.2 ((lx (byt t 0)).1 - 1) ∧ jk t (lx (byt t 0)).2.2 ((lx (byt t 0)).1 - 1) ≤ 57343) then (0, 0) else (jk t (lx (byt t 0)).2.2 ((lx (byt t 0)).1 - 1), (lx (byt t 0)).1)
theorem afu (t : ByteArray) (k : Nat) : byt t k < 256 := UInt8.toNat_lt _
theorem aqu (t : ByteArray) {r : Nat} (hr : r ≤ 31) : ∀ k, sk t k = true → jk t r k + 1 ≤ 32 * 64 ^ k
 | 0, _ => by simp [jk]; omega
 | k + 1, h => by
  simp only [sk, Bool.and_eq_true, ss, decide_eq_true_eq] at h
  have := aqu t hr k h.1
  simp only [jk, Nat.pow_succ]
  omega
theorem ahx (x : Int) (w : World) (K : KV) : cvT P T.an T.au (.int .u8 x) w K = K (.int .i32 (IntKind.i32.wrap x)) w := bgh (ks := .u8) (by kernel_rfl) (by kernel_rfl) .u8 x w K
theorem vw {x : Int} (h0 : -2147483648 ≤ x) (h1 : x < 2147483648) : IntKind.i32.wrap x = x := by
 show (if (true && decide (x % 4294967296 ≥ 2147483648)) = true then x % 4294967296 - 4294967296 else x % 4294967296) = x
 by_cases h : x % 4294967296 ≥ 2147483648
 ·simp [h]; omega
 ·simp [h]; omega
theorem ajm {t : ByteArray} {k : Nat} (h : ss t (k + 1) = false) : ∀ {n : Nat}, k + 1 < n → sk t (n - 1) = false
 | 0, hn => by omega
 | n + 1, hn => by
  rw [Nat.add_sub_cancel]
  by_cases hk : k + 1 = n
  ·subst hk; simp [sk, h]
  ·have := ajm h (n := n) (by omega)
   cases n with
   | zero => omega
   | succ n => rw [Nat.add_sub_cancel] at this; simp [sk, this]
def bhh (w : World) (t : ByteArray) (r n : Nat) : KL := fun x w1 => ∃ (a b : Value) (k : Nat), x = [a, b, .int .i32 (jk t r k : Nat), .int .i64 ((k + 1 : Nat) : Int)] ∧ w1 = w ∧ k + 1 ≤ n ∧ sk t k = true
theorem ayg {w : World} {t : ByteArray} {n least r : Nat} (hn : 2 ≤ n) (hn4 : n ≤ 4) (hr : r ≤ 31) (hl : least ≤ 65536) (hsz : n ≤ t.size) {x3 x2 : List Value} (e1 : gv x2 1 = .int .i64 (n : Nat)) (e2 : gv x2 2 = .int .i32 (least : Nat)) (e3 : gv x2 3 = .int .i32 (r : Nat)) {K : KV}
  (h : K (.tuple #[.int .i32 ((if sk t (n - 1) = false then 0 else if jk t r (n - 1) < least ∨ 1114111 < jk t r (n - 1) ∨ (55296 ≤ jk t r (n - 1) ∧ jk t r (n - 1) ≤ 57343) then 0 else jk t r (n - 1) : Nat) : Int), .int .i64 ((if sk t (n - 1) = false then 0 else if jk t r (n - 1) < least ∨ 1114111 < jk t r (n - 1) ∨ (55296 ≤ jk t r (n - 1) ∧ jk t r (n - 1) ≤ 57343) then 0 else n : Nat) : Int)]) w) :
  M.q.j3 x3 x2 (.string t) w K := by
 unfold M.q.j3
 simp only [fo, e3]
 refine ⟨bhh w t r n, fun x _ => n - ms x 3, ⟨_, _, 0, rfl, rfl, by omega, rfl⟩, ?_⟩
 rintro x w1 ⟨a, b, k, rfl, rfl, hk, hc⟩
 have g2 : gv [a, b, .int .i32 (jk t r k : Nat), .int .i64 ((k + 1 : Nat) : Int)] 2 = .int .i32 (jk t r k : Nat) := rfl
 have g3 : gv [a, b, .int .i32 (jk t r k : Nat), .int .i64 ((k + 1 : Nat) : Int)] 3 = .int .i64 ((k + 1 : Nat) : Int) := rfl
 simp only [e1, g3]
 have hb := aqu t hr k hc
 have hp : (64 : Nat) ^ k ≤ 64 ^ 3 := Nat.pow_le_pow_right (by omega) (by omega)
 by_cases hlt : k + 1 < n
 ·have hlt' : ((k + 1 : Nat) : Int) < n := by omega
  have hix : ∀ K, ixT P T.al (.string t) (.int .i64 ((k + 1 : Nat) : Int)) w1 K = K (.int .u8 (byt t (k + 1))) w1 := fun K => ayb t (by omega) w1 K
  simp only [kf, hlt', decide_true, Eng.cond_true]
  unfold M.q.j6
  have hix' := hix
  push_cast at hix'
  have hbl := afu t (k + 1)
  have hw : IntKind.i64.wrap (((k + 1 : Nat) : Int) + 1) = ((k + 1 + 1 : Nat) : Int) := by rw [ft (by omega) (by omega)]; rfl
  simp only [fo, g2, g3, hix]
  by_cases h1 : byt t (k + 1) < 128
  ·have h1' : (byt t (k + 1) : Int) < 128 := by omega
   have hcf : sk t (n - 1) = false := ajm (by simp [ss]; omega) hlt
   simp [h1']
   rw [hcf] at h
   simpa using h
  ·have h1' : ¬ (byt t (k + 1) : Int) < 128 := by omega
   by_cases h2 : 191 < byt t (k + 1)
   ·have h2' : (191 : Int) < byt t (k + 1) := by omega
    have hcf : sk t (n - 1) = false := ajm (by simp [ss]; omega) hlt
    simp [h1', hix', h2']
    rw [hcf] at h
    simpa using h
   ·have h2' : ¬ (191 : Int) < byt t (k + 1) := by omega
    simp [h1', hix', h2']
    unfold M.q.j8
    have hm1 : IntKind.i32.wrap ((jk t r k : Int) * 64) = (jk t r k : Int) * 64 := vw (by omega) (by omega)
    have hm2 : IntKind.i32.wrap (byt t (k + 1) : Int) = byt t (k + 1) := vw (by omega) (by omega)
    have hm3 : IntKind.i32.wrap ((jk t r k : Int) * 64 + byt t (k + 1)) = (jk t r k : Int) * 64 + byt t (k + 1) := vw (by omega) (by omega)
    have hm4 : IntKind.i32.wrap ((jk t r k : Int) * 64 + byt t (k + 1) - 128) = ((jk t r (k + 1) : Nat) : Int) := by
     rw [vw (by omega) (by omega)]
     simp only [jk]; omega
    push_cast at g2 g3 hw
    simp only [g2, g3, hix', ahx, tg, ji, jm, hm1, hm2, hm3, hm4, hw]
    refine ⟨⟨_, _, k + 1, rfl, rfl, by omega, by simp [sk, hc, ss]; omega⟩, ?_⟩
    simp [ms, gv]; omega
 ·have hke : n - 1 = k := by omega
  have hlt' : ¬ ((k + 1 : Nat) : Int) < n := by omega
  rw [hke, hc] at h
  simp only [kf, hlt', decide_false, Eng.cond_false]
  unfold M.q.j4
  have q3 : ∀ p q s u : Value, gv [p, q, s, u] 3 = u := fun _ _ _ _ => rfl
  simp only [fo, q3, g2, e1, e2]
  generalize jk t r k = v at *
  simp only [Bool.true_eq_false, if_false] at h
  by_cases a1 : v < least
  ·have a1' : (v : Int) < least := by omega
   simp [a1, a1'] at h ⊢
   exact h
  by_cases a2 : 1114111 < v
  ·have a1' : ¬ (v : Int) < least := by omega
   have a2' : (1114111 : Int) < v := by omega
   simp [a1, a1', a2, a2'] at h ⊢
   exact h
  by_cases a3 : 55296 ≤ v
  ·by_cases a4 : v ≤ 57343
   ·have a1' : ¬ (v : Int) < least := by omega
    have a2' : ¬ (1114111 : Int) < v := by omega
    have a3' : (55296 : Int) ≤ v := by omega
    have a4' : (v : Int) ≤ 57343 := by omega
    simp [a1, a1', a2, a2', a3, a3', a4, a4'] at h ⊢
    exact h
   ·have a1' : ¬ (v : Int) < least := by omega
    have a2' : ¬ (1114111 : Int) < v := by omega
    have a3' : (55296 : Int) ≤ v := by omega
    have a4' : ¬ (v : Int) ≤ 57343 := by omega
    simp [a1, a1', a2, a2', a3, a3', a4, a4'] at h ⊢
    exact h
  ·have a1' : ¬ (v : Int) < least := by omega
   have a2' : ¬ (1114111 : Int) < v := by omega
   have a3' : ¬ (55296 : Int) ≤ v := by omega
   simp [a1, a1', a2, a2', a3, a3'] at h ⊢
   exact h
theorem bef {w : World} (t : ByteArray) {K : KV} (h : K (.tuple #[.int .i32 ((rr t).1 : Nat), .int .i64 ((rr t).2 : Nat)]) w) : jb P F.dr [.string t] w K := by
 apply M.q.calls
 unfold M.q
 simp only [fo]
 unfold rr at h
 by_cases h0 : t.size = 0
 ·simp [h0] at h ⊢
  exact h
 have hsz : 0 < t.size := by omega
 have hix : ∀ K, ixT P T.al (.string t) (.int .i64 0) w K = K (.int .u8 (byt t 0)) w := fun K => ayb t hsz w K
 have hbl := afu t 0
 have hw0 : IntKind.i32.wrap (byt t 0 : Int) = byt t 0 := vw (by omega) (by omega)
 simp [h0] at h ⊢
 unfold M.q.j0
 simp only [fo, hix]
 by_cases h1 : byt t 0 < 128
 ·have h1' : (byt t 0 : Int) < 128 := by omega
  simp [h1, h1', ahx, hw0] at h ⊢
  exact h
 have h1' : ¬ (byt t 0 : Int) < 128 := by omega
 simp [h1, h1'] at h ⊢
 unfold M.q.j1
 simp only [fo]
 have fin : ∀ (n least r : Nat) (x2 : List Value), lx (byt t 0) = (n, least, r) → n ≠ 0 → 2 ≤ n → n ≤ 4 → r ≤ 31 → least ≤ 65536 → gv x2 1 = .int .i64 (n : Nat) → gv x2 2 = .int .i32 (least : Nat) → gv x2 3 = .int .i32 (r : Nat) → M.q.j2 x2 (.string t) [.int .i32 0, .int .i64 0] w K := by
  intro n least r x2 hc hn0 hn hn4 hr hl e1 e2 e3
  rw [hc] at h
  unfold M.q.j2
  have hn0' : ¬ (n : Int) = 0 := by omega
  by_cases hs : t.size < n
  ·have hs' : (t.size : Int) < n := by omega
   simp [e1, hn0, hn0', hs, hs'] at h ⊢
   exact h
  ·have hs' : ¬ (t.size : Int) < n := by omega
   simp only [fo]
   simp [e1, hn0, hn0', hs, hs'] at h ⊢
   refine ayg hn hn4 hr hl (by omega) e1 e2 e3 ?_
   by_cases hcs : sk t (n - 1) = false
   ·simp [hcs] at h ⊢; exact h
   ·by_cases hv : jk t r (n - 1) < least ∨ 1114111 < jk t r (n - 1) ∨ (55296 ≤ jk t r (n - 1) ∧ jk t r (n - 1) ≤ 57343)
    ·simp [hcs, hv] at h ⊢; exact h
    ·simp [hcs, hv] at h ⊢; exact h
 generalize hb0 : byt t 0 = b0 at *
 have hsub : ∀ (y : Int), 0 ≤ y → y < 300 → (b0 : Int) - y = (((b0 : Int) - y)) := fun _ _ _ => rfl
 by_cases c1 : 194 ≤ b0 ∧ b0 ≤ 223
 ·have p1 : (194 : Int) ≤ b0 := by omega
  have p2 : (b0 : Int) ≤ 223 := by omega
  have hw1 : IntKind.i32.wrap ((b0 : Int) - 192) = ((b0 - 192 : Nat) : Int) := by rw [vw (by omega) (by omega)]; omega
  simp [p1, p2, ahx, hw0, hw1]
  refine fin 2 128 (b0 - 192) _ (by simp [lx, c1]) (by decide) (by decide) (by decide) (by omega) (by decide) rfl rfl rfl
 have hz : ∀ x2, gv x2 1 = .int .i64 0 → lx b0 = (0, 0, 0) → M.q.j2 x2 (.string t) [.int .i32 0, .int .i64 0] w K := by
  intro x2 e1 hc
  rw [hc] at h
  unfold M.q.j2
  simp only [fo]
  simp [e1] at h ⊢
  exact h
 by_cases d1 : 224 ≤ b0
 ·have p1 : (194 : Int) ≤ b0 := by omega
  have p2 : ¬ (b0 : Int) ≤ 223 := by omega
  have p3 : (224 : Int) ≤ b0 := by omega
  by_cases d2 : b0 ≤ 239
  ·have p4 : (b0 : Int) ≤ 239 := by omega
   have hw1 : IntKind.i32.wrap ((b0 : Int) - 224) = ((b0 - 224 : Nat) : Int) := by rw [vw (by omega) (by omega)]; omega
   simp [p1, p2, p3, p4, ahx, hw0, hw1]
   exact fin 3 2048 (b0 - 224) _ (by simp [lx, c1, d1, d2]) (by decide) (by decide) (by decide) (by omega) (by decide) rfl rfl rfl
  ·have p4 : ¬ (b0 : Int) ≤ 239 := by omega
   have p5 : (240 : Int) ≤ b0 := by omega
   by_cases d3 : b0 ≤ 244
   ·have p6 : (b0 : Int) ≤ 244 := by omega
    have hw1 : IntKind.i32.wrap ((b0 : Int) - 240) = ((b0 - 240 : Nat) : Int) := by rw [vw (by omega) (by omega)]; omega
    simp [p1, p2, p3, p4, p5, p6, ahx, hw0, hw1]
    exact fin 4 65536 (b0 - 240) _ (by unfold lx; rw [if_neg c1, if_neg (by omega), if_pos (by omega)]) (by decide) (by decide) (by decide) (by omega) (by decide) rfl rfl rfl
   ·have p6 : ¬ (b0 : Int) ≤ 244 := by omega
    simp [p1, p2, p3, p4, p5, p6, ahx, hw0]
    exact hz _ rfl (by unfold lx; rw [if_neg c1, if_neg (by omega), if_neg (by omega)])
 ·have p1 : ¬ (194 : Int) ≤ b0 := by omega
  have p3 : ¬ (224 : Int) ≤ b0 := by omega
  have p5 : ¬ (240 : Int) ≤ b0 := by omega
  simp [p1, p3, p5]
  exact hz _ rfl (by unfold lx; rw [if_neg c1, if_neg (by omega), if_neg (by omega)])
theorem akb {t : ByteArray} (h0 : 0 < t.size) (h1 : ¬ byt t 0 < 128) {n least r : Nat} (hc : lx (byt t 0) = (n, least, r)) :
  rr t = if n = 0 ∨ t.size < n then (0, 0) else if sk t (n - 1) = false then (0, 0) else if jk t r (n - 1) < least ∨ 1114111 < jk t r (n - 1) ∨ (55296 ≤ jk t r (n - 1) ∧ jk t r (n - 1) ≤ 57343) then (0, 0) else (jk t r (n - 1), n) := by
 unfold rr
 rw [if_neg (by omega), if_neg h1, hc]
theorem bbc (v : Nat) : Utf8.valid (v : Int) = decide (¬ (1114111 < v ∨ (55296 ≤ v ∧ v ≤ 57343))) := by
 unfold Utf8.valid
 rw [Bool.eq_iff_iff]
 simp only [Bool.or_eq_true, Bool.and_eq_true, decide_eq_true_eq]
 omega
def na (t : ByteArray) (k : Nat) : Bool := decide (k < t.size) && ss t k
def aja (least n v : Nat) : Nat × Nat := if least ≤ v ∧ ¬ (1114111 < v ∨ (55296 ≤ v ∧ v ≤ 57343)) then (v, n) else (65533, 1)
theorem zx (t : ByteArray) : Utf8.decode t 0 = if byt t 0 < 128 then (byt t 0, 1) else if byt t 0 / 32 = 6 ∧ na t 1 = true then (if 128 ≤ byt t 0 % 32 * 64 + byt t 1 % 64 then (byt t 0 % 32 * 64 + byt t 1 % 64, 2) else (65533, 1))
  else if byt t 0 / 16 = 14 ∧ na t 1 = true ∧ na t 2 = true then aja 2048 3 (byt t 0 % 16 * 4096 + byt t 1 % 64 * 64 + byt t 2 % 64)
  else if byt t 0 / 8 = 30 ∧ na t 1 = true ∧ na t 2 = true ∧ na t 3 = true then aja 65536 4 (byt t 0 % 8 * 262144 + byt t 1 % 64 * 4096 + byt t 2 % 64 * 64 + byt t 3 % 64) else (65533, 1) := by
 have e : ∀ k, (t.get! (0 + k)).toNat = byt t k := fun k => by rw [Nat.zero_add]; rfl
 have c0 : ∀ k, (decide (0 + k < t.size) && byt t k / 64 == 2) = na t k := fun k => by
  have := afu t k
  have : (byt t k / 64 == 2) = ss t k := by
   unfold ss
   by_cases h : 128 ≤ byt t k <;> by_cases h' : byt t k ≤ 191
   ·have : byt t k / 64 = 2 := by omega
    simp [h, h', this]
   ·have : ¬ byt t k / 64 = 2 := by omega
    simp [h, h', this]
   ·have : ¬ byt t k / 64 = 2 := by omega
    simp [h, h', this]
   ·omega
  rw [this, Nat.zero_add]; rfl
 unfold Utf8.decode aja
 simp only [e, c0, bbc, Bool.and_eq_true, beq_iff_eq, and_assoc, decide_eq_true_eq, ge_iff_le, Utf8.runeError]
theorem xa {t : ByteArray} {k : Nat} (h : na t k = true) : k < t.size ∧ ss t k = true ∧ 128 ≤ byt t k ∧ byt t k ≤ 191 := by
 unfold na ss at h
 simp only [Bool.and_eq_true, decide_eq_true_eq] at h
 exact ⟨h.1, by unfold ss; simp [h.2], h.2.1, h.2.2⟩
def acs (c : Nat × Nat) : Nat × Nat := if c.2 = 0 then (65533, 1) else c
theorem alo {least n v : Nat} (hn : n ≠ 0) : aja least n v = acs (if v < least ∨ 1114111 < v ∨ (55296 ≤ v ∧ v ≤ 57343) then (0, 0) else (v, n)) := by
 unfold aja acs
 by_cases g : v < least ∨ 1114111 < v ∨ (55296 ≤ v ∧ v ≤ 57343)
 ·rw [if_pos g, if_neg (by omega)]; rfl
 ·rw [if_neg g, if_pos (by omega)]; simp [hn]
theorem agx {t : ByteArray} : ∀ {n : Nat}, sk t n = true ↔ ∀ k, 1 ≤ k → k ≤ n → ss t k = true
 | 0 => ⟨fun _ k h1 h2 => by omega, fun _ => rfl⟩
 | n + 1 => by
  simp only [sk, Bool.and_eq_true, agx (n := n)]
  constructor
  ·rintro ⟨h1, h2⟩ k hk1 hk2
   by_cases hk : k = n + 1
   ·subst hk; exact h2
   ·exact h1 k hk1 (by omega)
  ·intro h
   exact ⟨fun k h1 h2 => h k h1 (by omega), h (n + 1) (by omega) (by omega)⟩
theorem aef {t : ByteArray} (h0 : 0 < t.size) (h1 : ¬ byt t 0 < 128) {n least r : Nat} (hc : lx (byt t 0) = (n, least, r)) (hn : 2 ≤ n) (h : ∀ k, 1 ≤ k → k ≤ n - 1 → na t k = true) :
  rr t = if jk t r (n - 1) < least ∨ 1114111 < jk t r (n - 1) ∨ (55296 ≤ jk t r (n - 1) ∧ jk t r (n - 1) ≤ 57343) then (0, 0) else (jk t r (n - 1), n) := by
 rw [akb h0 h1 hc]
 have := (xa (h (n - 1) (by omega) (by omega))).1
 rw [if_neg (by omega), if_neg]
 rw [agx.2 fun k h1 h2 => (xa (h k h1 h2)).2.1]; simp
theorem ahi {t : ByteArray} (h0 : 0 < t.size) (h1 : ¬ byt t 0 < 128) {n least r : Nat} (hc : lx (byt t 0) = (n, least, r)) (hn : 2 ≤ n) (h : ¬ ∀ k, 1 ≤ k → k ≤ n - 1 → na t k = true) : rr t = (0, 0) := by
 rw [akb h0 h1 hc]
 by_cases hs : t.size < n
 ·rw [if_pos (.inr hs)]
 ·rw [if_neg (by omega), if_pos]
  cases hcs : sk t (n - 1) with
  | false => rfl
  | true =>
   refine absurd (fun k h1 h2 => ?_) h
   unfold na
   rw [agx.1 hcs k h1 h2]
   simp; omega
theorem aul {p : Nat → Prop} : (∀ k, 1 ≤ k → k ≤ 2 - 1 → p k) ↔ p 1 := ⟨fun h => h 1 (by omega) (by omega), fun h k h1 h2 => by
 obtain rfl : k = 1 := by omega
 exact h⟩
theorem avq {p : Nat → Prop} : (∀ k, 1 ≤ k → k ≤ 3 - 1 → p k) ↔ p 1 ∧ p 2 := ⟨fun h => ⟨h 1 (by omega) (by omega), h 2 (by omega) (by omega)⟩, fun h k h1 h2 => by
 have : k = 1 ∨ k = 2 := by omega
 rcases this with rfl | rfl
 ·exact h.1
 ·exact h.2⟩
theorem avc {p : Nat → Prop} : (∀ k, 1 ≤ k → k ≤ 4 - 1 → p k) ↔ p 1 ∧ p 2 ∧ p 3 := ⟨fun h => ⟨h 1 (by omega) (by omega), h 2 (by omega) (by omega), h 3 (by omega) (by omega)⟩, fun h k h1 h2 => by
 have : k = 1 ∨ k = 2 ∨ k = 3 := by omega
 rcases this with rfl | rfl | rfl
 ·exact h.1
 ·exact h.2.1
 ·exact h.2.2⟩
theorem ahk {x : Nat} (h1 : 128 ≤ x) (h2 : x ≤ 191) : x % 64 = x - 128 := by omega
theorem rf1 (t : ByteArray) (r : Nat) : jk t r 1 = r * 64 + byt t 1 - 128 := rfl
theorem rf2 (t : ByteArray) (r : Nat) : jk t r 2 = (r * 64 + byt t 1 - 128) * 64 + byt t 2 - 128 := rfl
theorem rf3 (t : ByteArray) (r : Nat) : jk t r 3 = ((r * 64 + byt t 1 - 128) * 64 + byt t 2 - 128) * 64 + byt t 3 - 128 := rfl
theorem bim {t : ByteArray} (h0 : 0 < t.size) (c1 : 194 ≤ byt t 0 ∧ byt t 0 ≤ 223) : Utf8.decode t 0 = acs (rr t) := by
 have h1 : ¬ byt t 0 < 128 := by omega
 have hc : lx (byt t 0) = (2, 128, byt t 0 - 192) := by unfold lx; rw [if_pos c1]
 rw [zx, if_neg h1]
 by_cases hd : na t 1 = true
 ·rw [aef h0 h1 hc (by decide) (aul.2 hd), if_pos ⟨by omega, hd⟩, ← alo (by decide)]
  obtain ⟨_, _, g1, g2⟩ := xa hd
  have hv : jk t (byt t 0 - 192) (2 - 1) = byt t 0 % 32 * 64 + byt t 1 % 64 := by
   show jk t (byt t 0 - 192) 1 = _
   rw [rf1, ahk g1 g2]; omega
  rw [hv]
  have hle : byt t 0 % 32 * 64 + byt t 1 % 64 < 55296 := by omega
  unfold aja
  by_cases hg : 128 ≤ byt t 0 % 32 * 64 + byt t 1 % 64
  ·rw [if_pos hg, if_pos ⟨hg, by omega⟩]
  ·rw [if_neg hg, if_neg fun h => hg h.1]
 ·rw [if_neg fun h => hd h.2, if_neg (by omega), if_neg (by omega), ahi h0 h1 hc (by decide) fun h => hd (aul.1 h)]; rfl
theorem bhu {t : ByteArray} (h0 : 0 < t.size) (c1 : 224 ≤ byt t 0 ∧ byt t 0 ≤ 239) : Utf8.decode t 0 = acs (rr t) := by
 have h1 : ¬ byt t 0 < 128 := by omega
 have hc : lx (byt t 0) = (3, 2048, byt t 0 - 224) := by unfold lx; rw [if_neg (by omega), if_pos c1]
 rw [zx, if_neg h1, if_neg (by omega)]
 by_cases hd : na t 1 = true ∧ na t 2 = true
 ·rw [aef h0 h1 hc (by decide) (avq.2 hd), if_pos ⟨by omega, hd⟩, ← alo (by decide)]
  obtain ⟨_, _, g1, g2⟩ := xa hd.1
  obtain ⟨_, _, g3, g4⟩ := xa hd.2
  have hv : jk t (byt t 0 - 224) (3 - 1) = byt t 0 % 16 * 4096 + byt t 1 % 64 * 64 + byt t 2 % 64 := by
   show jk t (byt t 0 - 224) 2 = _
   rw [rf2, ahk g1 g2, ahk g3 g4]; omega
  rw [hv]
 ·rw [if_neg fun h => hd h.2, if_neg (by omega), ahi h0 h1 hc (by decide) fun h => hd (avq.1 h)]; rfl
theorem bik {t : ByteArray} (h0 : 0 < t.size) (c1 : 240 ≤ byt t 0 ∧ byt t 0 ≤ 244) : Utf8.decode t 0 = acs (rr t) := by
 have h1 : ¬ byt t 0 < 128 := by omega
 have hc : lx (byt t 0) = (4, 65536, byt t 0 - 240) := by unfold lx; rw [if_neg (by omega), if_neg (by omega), if_pos c1]
 rw [zx, if_neg h1, if_neg (by omega), if_neg (by omega)]
 by_cases hd : na t 1 = true ∧ na t 2 = true ∧ na t 3 = true
 ·rw [aef h0 h1 hc (by decide) (avc.2 hd), if_pos ⟨by omega, hd⟩, ← alo (by decide)]
  obtain ⟨_, _, g1, g2⟩ := xa hd.1
  obtain ⟨_, _, g3, g4⟩ := xa hd.2.1
  obtain ⟨_, _, g5, g6⟩ := xa hd.2.2
  have hv : jk t (byt t 0 - 240) (4 - 1) = byt t 0 % 8 * 262144 + byt t 1 % 64 * 4096 + byt t 2 % 64 * 64 + byt t 3 % 64 := by
   show jk t (byt t 0 - 240) 3 = _
   rw [rf3, ahk g1 g2, ahk g3 g4, ahk g5 g6]; omega
  rw [hv]
 ·rw [if_neg fun h => hd h.2, ahi h0 h1 hc (by decide) fun h => hd (avc.1 h)]; rfl
theorem awn (t : ByteArray) (h0 : 0 < t.size) : Utf8.decode t 0 = acs (rr t) := by
 by_cases h1 : byt t 0 < 128
 ·have hr : rr t = (byt t 0, 1) := by unfold rr; rw [if_neg (by omega), if_pos h1]
  rw [zx, if_pos h1, hr]; rfl
 by_cases c1 : 194 ≤ byt t 0 ∧ byt t 0 ≤ 223
 ·exact bim h0 c1
 by_cases c2 : 224 ≤ byt t 0 ∧ byt t 0 ≤ 239
 ·exact bhu h0 c2
 by_cases c3 : 240 ≤ byt t 0 ∧ byt t 0 ≤ 244
 ·exact bik h0 c3
 have hc : lx (byt t 0) = (0, 0, 0) := by unfold lx; rw [if_neg c1, if_neg c2, if_neg c3]
 have hr : rr t = (0, 0) := by rw [akb h0 h1 hc]; simp
 have hb := afu t 0
 rw [hr, zx, if_neg h1]
 show _ = (65533, 1)
 by_cases d1 : byt t 0 / 32 = 6 ∧ na t 1 = true
 ·obtain ⟨_, _, g1, g2⟩ := xa d1.2
  rw [if_pos d1, if_neg (by omega)]
 ·rw [if_neg d1, if_neg (by omega)]
  by_cases d3 : byt t 0 / 8 = 30 ∧ na t 1 = true ∧ na t 2 = true ∧ na t 3 = true
  ·rw [if_pos d3]
   unfold aja
   rw [if_neg (by omega)]
  ·rw [if_neg d3]
def jn (s : ByteArray) (i : Nat) : ByteArray := s.extract i s.size
theorem afx (s : ByteArray) (i : Nat) : (jn s i).size = s.size - i := by simp [jn]
theorem apj (s : ByteArray) (k : Nat) : s.get! k = s.data[k]! := by cases s; rfl
theorem bbp (s : ByteArray) (i k : Nat) : byt (jn s i) k = byt s (i + k) := by
 unfold byt
 rw [apj, apj]
 have h : (jn s i).data = s.data.extract i s.size := by simp [jn]
 rw [h, getElem!_def, getElem!_def, Array.getElem?_extract]
 have hs : s.size = s.data.size := rfl
 by_cases hk : k < min s.size s.data.size - i
 ·rw [if_pos (by omega)]
 ·rw [if_neg (by omega), Array.getElem?_eq_none (by omega)]
theorem awj (s : ByteArray) (i n : Nat) : jn (jn s i) n = jn s (i + n) := by
 unfold jn
 rw [ByteArray.extract_extract]
 congr 1
 simp; omega
theorem asi (s : ByteArray) (i : Nat) : Utf8.decode s i = Utf8.decode (jn s i) 0 := by
 have e : ∀ k, (s.get! (i + k)).toNat = byt (jn s i) k := fun k => by rw [bbp]; rfl
 have e' : ∀ k, ((jn s i).get! (0 + k)).toNat = byt (jn s i) k := fun k => by rw [Nat.zero_add]; rfl
 have c : ∀ k, decide (i + k < s.size) = decide (0 + k < (jn s i).size) := fun k => by
  rw [afx, decide_eq_decide]; omega
 unfold Utf8.decode
 simp only [e, e', c]
theorem bew (t : ByteArray) : ux t wd = true ↔ 3 ≤ t.size ∧ byt t 0 = 239 ∧ byt t 1 = 191 ∧ byt t 2 = 189 := by
 have hs : t.size = t.data.toList.length := Array.length_toList.symm
 have hr : wd.toList = [239, 191, 189] := by decide +kernel
 have hz : wd.size = 3 := rfl
 unfold ux
 rw [hr, hz, Bool.and_eq_true, decide_eq_true_eq, beq_iff_eq]
 have he : (t.extract 0 3).toList = t.data.toList.take 3 := by
  rw [ByteArray.toList_eq]
  simp
 rw [he]
 have b : ∀ k, byt t k = (t.data.toList[k]?.getD default).toNat := fun k => by
  unfold byt
  rw [apj, getElem!_def]
  simp only [Array.getElem?_toList]
  cases t.data[k]? <;> rfl
 rw [b, b, b, hs]
 have u : ∀ (x : UInt8) (n : Nat) (h : n < 256), x.toNat = n ↔ x = UInt8.ofNat n := fun x n h => by
  constructor
  ·intro hx; rw [← hx]; simp
  ·rintro rfl; simp; omega
 match t.data.toList with
 | [] => simp
 | [x] => simp
 | [x, y] => simp
 | x :: y :: z :: r =>
  simp [u x 239 (by decide), u y 191 (by decide), u z 189 (by decide)]
theorem bgd (t : ByteArray) (h0 : 0 < t.size) : ((rr t).2 ≠ 0 ∧ (rr t).1 = 65533) ↔ (3 ≤ t.size ∧ byt t 0 = 239 ∧ byt t 1 = 191 ∧ byt t 2 = 189) := by
 have hb := afu t 0
 by_cases h1 : byt t 0 < 128
 ·have hr : rr t = (byt t 0, 1) := by unfold rr; rw [if_neg (by omega), if_pos h1]
  rw [hr]; simp; omega
 by_cases c1 : 194 ≤ byt t 0 ∧ byt t 0 ≤ 223
 ·have hc : lx (byt t 0) = (2, 128, byt t 0 - 192) := by unfold lx; rw [if_pos c1]
  by_cases hd : na t 1 = true
  ·rw [aef h0 h1 hc (by decide) (aul.2 hd)]
   obtain ⟨_, _, g1, g2⟩ := xa hd
   have hv : jk t (byt t 0 - 192) (2 - 1) = (byt t 0 - 192) * 64 + byt t 1 - 128 := rfl
   rw [hv]
   split <;> simp <;> omega
  ·rw [ahi h0 h1 hc (by decide) fun h => hd (aul.1 h)]; simp; omega
 by_cases c2 : 224 ≤ byt t 0 ∧ byt t 0 ≤ 239
 ·have hc : lx (byt t 0) = (3, 2048, byt t 0 - 224) := by unfold lx; rw [if_neg (by omega), if_pos c2]
  by_cases hd : na t 1 = true ∧ na t 2 = true
  ·rw [aef h0 h1 hc (by decide) (avq.2 hd)]
   obtain ⟨_, _, g1, g2⟩ := xa hd.1
   obtain ⟨g5, _, g3, g4⟩ := xa hd.2
   have hv : jk t (byt t 0 - 224) (3 - 1) = ((byt t 0 - 224) * 64 + byt t 1 - 128) * 64 + byt t 2 - 128 := rfl
   rw [hv]
   split <;> simp <;> omega
  ·rw [ahi h0 h1 hc (by decide) fun h => hd (avq.1 h)]
   simp only [ne_eq, not_true_eq_false, false_and, false_iff]
   rintro ⟨k0, k1, k2, k3⟩
   apply hd
   unfold na ss
   simp [k2, k3]; omega
 by_cases c3 : 240 ≤ byt t 0 ∧ byt t 0 ≤ 244
 ·have hc : lx (byt t 0) = (4, 65536, byt t 0 - 240) := by unfold lx; rw [if_neg (by omega), if_neg (by omega), if_pos c3]
  by_cases hd : na t 1 = true ∧ na t 2 = true ∧ na t 3 = true
  ·rw [aef h0 h1 hc (by decide) (avc.2 hd)]
   generalize jk t (byt t 0 - 240) (4 - 1) = v
   split <;> simp <;> omega
  ·rw [ahi h0 h1 hc (by decide) fun h => hd (avc.1 h)]; simp; omega
 have hc : lx (byt t 0) = (0, 0, 0) := by unfold lx; rw [if_neg c1, if_neg c2, if_neg c3]
 have hr : rr t = (0, 0) := by rw [akb h0 h1 hc]; simp
 rw [hr]; simp; omega
theorem bbf (t : ByteArray) : (rr t).2 ≤ t.size := by
 unfold rr
 by_cases h0 : t.size = 0
 ·rw [if_pos h0]; omega
 rw [if_neg h0]
 split
 ·simp; omega
 split
 ·simp
 split
 ·simp
 split
 ·simp
 ·simp; omega
def rrs (s : ByteArray) (i : Nat) : Option (List Nat) :=
 if h : i < s.size then (if h2 : (rr (jn s i)).2 = 0 then none else (rrs s (i + (rr (jn s i)).2)).map ((rr (jn s i)).1 :: ·)) else some []
termination_by s.size - i
decreasing_by omega
def ctl (c : Nat) : Bool := decide (c < 32) || (decide (127 ≤ c) && decide (c ≤ 159))
theorem ban (s : ByteArray) : ∀ (m i : Nat), s.size - i ≤ m → sq s i = match rrs s i with
  | none => false
  | some l => l.all fun c => !ctl c := by
 intro m
 induction m with
 | zero =>
  intro i hm
  unfold sq rrs
  rw [dif_neg (by omega), dif_neg (by omega)]; rfl
 | succ m ih =>
  intro i hm
  unfold sq rrs
  by_cases hi : i < s.size
  ·rw [dif_pos hi, dif_pos hi]
   have ht : 0 < (jn s i).size := by rw [afx]; omega
   have hd : Utf8.decode s i = acs (rr (jn s i)) := by rw [asi, awn _ ht]
   have he := bgd (jn s i) ht
   rw [← bew] at he
   unfold aba
   have hrest : s.extract i s.size = jn s i := rfl
   rw [hrest, hd]
   by_cases h2 : (rr (jn s i)).2 = 0
   ·rw [dif_pos h2]
    have hp : ux (jn s i) wd = false := by
     cases hq : ux (jn s i) wd with
     | false => rfl
     | true => exact absurd h2 (he.2 hq).1
    simp [acs, h2, hp]
   ·rw [dif_neg h2]
    have hf : acs (rr (jn s i)) = rr (jn s i) := by simp [acs, h2]
    rw [hf, ih (i + (rr (jn s i)).2) (by omega)]
    have hb : (decide ((rr (jn s i)).1 < 32) || (decide (127 ≤ (rr (jn s i)).1) && decide ((rr (jn s i)).1 ≤ 159) || decide ((rr (jn s i)).1 = 65533) && !ux (jn s i) wd)) = ctl (rr (jn s i)).1 := by
     unfold ctl
     by_cases hc : (rr (jn s i)).1 = 65533
     ·rw [he.1 ⟨h2, hc⟩, hc]; decide
     ·simp [hc]
    rw [hb]
    cases rrs s (i + (rr (jn s i)).2) with
    | none => simp
    | some l => simp
  ·rw [dif_neg hi, dif_neg hi]; rfl
def azq (c : Nat) : List Value := [.int .i32 (c : Nat)]
abbrev OwR (w : World) (base : Nat) (v : Value) (l : List Nat) : Prop := Ow w base T.au 1 azq v l
def akw (v : Value) : Nat := match v with
 | .string s => s.size
 | _ => 0
def bid (w : World) (s : ByteArray) : KL := fun x w1 => ∃ (i : Nat) (l : List Nat), x.length = 6 ∧ gv x 5 = .string (jn s i) ∧ OwR w1 w.heap.size (gv x 4) l ∧ Fr (fun _ => False) w w1 ∧ i ≤ s.size ∧ l.length ≤ i ∧ rrs s 0 = (rrs s i).map (l ++ ·)
theorem bbn {w : World} {s : ByteArray} (hs : s.size < 100000) {K : KV} (h0 : rrs s 0 = none → ∀ w', Fr (fun _ => False) w w' → K (.tuple #[.slice none 0 0, .bool false]) w')
  (h1 : ∀ l, rrs s 0 = some l → l.length ≤ s.size → ∀ w' v, OwR w' w.heap.size v l → Fr (fun _ => False) w w' → K (.tuple #[v, .bool true]) w') : jb P F.df [.string s] w K := by
 apply M.az.calls
 unfold M.az
 rw [fo]
 refine ⟨bid w s, fun x _ => akw (gv x 5), ⟨0, [], rfl, ?_, Ow.none, Fr.refl _ _, Nat.zero_le _, Nat.le_refl _, by simp⟩, ?_⟩
 ·show Value.string s = _
  unfold jn; simp
 rintro x w1 ⟨i, l, hx, e5, o1, f1, hi, hl, hR⟩
 unfold M.az.j1
 simp only [fo, e5, bfx]
 have hsz := afx s i
 by_cases hlt : i < s.size
 ·have hlt' : (0 : Int) < ((jn s i).size : Int) := by omega
  simp only [nn, hlt', decide_true, Eng.cond_true]
  unfold M.az.j2
  rw [e5, M.q.fcall]
  refine bef _ ?_
  simp only [zw, zz, fo, so]
  rw [show rrs s i = _ from rrs.eq_1 s i, dif_pos hlt] at hR
  by_cases h2 : (rr (jn s i)).2 = 0
  ·have h2' : (((rr (jn s i)).2 : Nat) : Int) = 0 := by omega
   simp only [h2', decide_true, Eng.cond_true]
   rw [dif_pos h2] at hR
   exact h0 hR w1 f1
  ·have h2' : ¬ (((rr (jn s i)).2 : Nat) : Int) = 0 := by omega
   simp only [h2', decide_false, Eng.cond_false]
   rw [dif_neg h2] at hR
   have hwd := bbf (jn s i)
   unfold M.az.j3
   simp [e5]
   have fa : Fr (fun _ => False) w1 (w1.alloc (.cells #[.int .i32 ((rr (jn s i)).1 : Nat)] T.au)) := (Fr.refl _ w1).alloc _
   have hge := f1.size
   refine qd et.ax (fun _ => rfl) (fun x u hu => by simp [azq] at hu; subst hu; rfl) (o1.fr fa fun _ _ h => h) (Sl.one (x := (rr (jn s i)).1) rfl rfl) (by simp; omega) (by decide) (by simp; omega) _ fun v' w2 o2 f2 g2 => ?_
   rw [apg (i := (rr (jn s i)).2) amb (.inr ⟨_, rfl⟩) (.inl ⟨rfl, rfl⟩) hwd (Nat.le_refl _)]
   refine ⟨⟨i + (rr (jn s i)).2, l ++ [(rr (jn s i)).1], rfl, ?_, o2, ?_, by omega, by simp; omega, ?_⟩, ?_⟩
   ·show Value.string _ = _
    rw [← awj]; rfl
   ·refine f1.jq ((fa.mono fun _ _ h => h.elim).trans f2) fun b hb he => ?_
    have := (o1.lt he).1; omega
   ·rw [hR]
    cases rrs s (i + (rr (jn s i)).2) <;> simp
   ·show akw (.string ((jn s i).extract (rr (jn s i)).2 (jn s i).size)) < akw (.string (jn s i))
    simp only [akw, ByteArray.size_extract]
    omega
 ·have hlt' : ¬ (0 : Int) < ((jn s i).size : Int) := by omega
  simp only [nn, hlt', decide_false, Eng.cond_false]
  rw [show rrs s i = _ from rrs.eq_1 s i, dif_neg hlt] at hR
  exact h1 l (by simpa using hR) (by omega) w1 _ o1 f1
def NmI (w : World) (l : List Nat) : KL := fun x w1 => ∃ (u : Value) (i : Nat), x = [u, .int .i64 (i : Nat)] ∧ w1 = w ∧ i ≤ l.length ∧ ∀ j c, l[j]? = some c → j < i → ctl c = false
theorem alc {w : World} (s : ByteArray) {K : KV} (h : ∀ w', Fr (fun _ => False) w w' → K (.int .i64 (ud s)) w') : jb P F.cj [.string s] w K := by
 apply M.bm.calls
 unfold M.bm
 unfold ud at h
 simp only [fo, bfx, kf]
 by_cases h0 : s.size = 0
 ·have : (s.size : Int) < 1 := by omega
  simp [h0] at h ⊢
  exact h w (Fr.refl _ _)
 have h0' : ¬ (s.size : Int) < 1 := by omega
 by_cases h1 : 32 < s.size
 ·have h1' : (32 : Int) < s.size := by omega
  simp [h0, h0', h1, h1'] at h ⊢
  exact h w (Fr.refl _ _)
 have h1' : ¬ (32 : Int) < s.size := by omega
 simp [h0, h0', h1, h1'] at h ⊢
 unfold M.bm.j0
 rw [M.az.fcall]
 rw [ban s _ 0 (Nat.le_refl _)] at h
 refine bbn (by omega) (fun hr w1 f1 => ?_) fun l hr hll w1 v o1 f1 => ?_
 ·rw [hr] at h
  simp only [zw, zz, fo]
  refine ⟨fun x w2 => gv x 1 = .int .i64 0 ∧ w2 = w1, fun _ _ => 0, ⟨rfl, rfl⟩, ?_⟩
  rintro x w2 ⟨e1, rfl⟩
  simp [e1]
  have := h w2 f1
  simpa using this
 ·rw [hr] at h
  simp only [zw, zz, fo]
  have hsl : Sl w1 1 azq v l := o1.sl fun _ => rfl
  refine ⟨NmI w1 l, fun x _ => l.length - ms x 1, ⟨_, 0, rfl, rfl, Nat.zero_le _, fun j c _ h => by omega⟩, ?_⟩
  rintro x w2 ⟨u, i, rfl, rfl, hi, hall⟩
  have q0 : ∀ a b : Value, gv [a, b] 0 = a := fun _ _ => rfl
  have q1 : ∀ a b : Value, gv [a, b] 1 = b := fun _ _ => rfl
  simp only [q0, q1]
  rw [hsl.ip (by simp)]
  by_cases hil : i < l.length
  ·have hil' : (i : Int) < l.length := by omega
   simp only [kf, hil', decide_true, Eng.cond_true]
   unfold M.bm.j3
   obtain ⟨b, o, cap, rfl, hb, _, hc⟩ := hsl.at hil
   have c0 := hc 0 _ rfl
   simp only [Nat.mul_one, Nat.add_zero] at c0
   generalize hli : l[i] = c at *
   have hgi : l[i]? = some c := by rw [List.getElem?_eq_getElem hil, hli]
   have hw : IntKind.i64.wrap ((i : Int) + 1) = ((i + 1 : Nat) : Int) := by rw [ft (by omega) (by omega)]; rfl
   have bad : ctl c = true → K (.int .i64 5) w2 := fun hct => by
    have : (l.all fun c => !ctl c) = false := by
     rw [List.all_eq_false]
     exact ⟨c, List.mem_of_getElem? hgi, by simp [hct]⟩
    have hh := h w2 f1
    simpa [this] using hh
   have th : ctl c = false → ∀ u, NmI w2 l [u, .int .i64 ((i : Int) + 1)] w2 ∧ l.length - ms [u, .int .i64 ((i : Int) + 1)] 1 < l.length - ms [u, .int .i64 (i : Int)] 1 := fun hct u => by
    refine ⟨⟨u, i + 1, rfl, rfl, by omega, fun j c' hj hlt => ?_⟩, by simp [ms, gv]; omega⟩
    by_cases hji : j = i
    ·subst hji; rw [hgi] at hj; cases hj; exact hct
    ·exact hall j c' hj (by omega)
   by_cases d1 : c < 32
   ·have d1' : (c : Int) < 32 := by omega
    simp [q0, q1, hil, c0, d1']
    exact bad (by simp [ctl, d1])
   have d1' : ¬ (c : Int) < 32 := by omega
   by_cases d2 : 127 ≤ c
   ·have d2' : (127 : Int) ≤ c := by omega
    by_cases d3 : c ≤ 159
    ·have d3' : (c : Int) ≤ 159 := by omega
     simp [q0, q1, hil, c0, d1', d2', d3']
     exact bad (by simp [ctl, d2, d3])
    ·have d3' : ¬ (c : Int) ≤ 159 := by omega
     simp [q0, q1, hil, c0, d1', d2', d3', hw]
     exact th (by simp [ctl, d1, d3]) _
   ·have d2' : ¬ (127 : Int) ≤ c := by omega
    simp [q0, q1, hil, c0, d1', d2', hw]
    exact th (by simp [ctl, d1, d2]) _
  ·have hil' : ¬ (i : Int) < l.length := by omega
   simp only [kf, hil', decide_false, Eng.cond_false]
   have : (l.all fun c => !ctl c) = true := by
    rw [List.all_eq_true]
    intro c hc
    obtain ⟨j, hj, rfl⟩ := List.mem_iff_getElem.1 hc
    rw [hall j _ (List.getElem?_eq_getElem hj) (by omega)]; rfl
   simp
   have hh := h w2 f1
   simpa [this] using hh
theorem bie (a b : Int) : orK [a, b] = if a = 0 then b else a := by
 unfold orK
 by_cases ha : a = 0 <;> by_cases hb : b = 0 <;> simp [List.find?, ha, hb]
theorem aop (s : ByteArray) : ud s = 0 ∨ ud s = 5 := by
 unfold ud
 split
 ·exact .inr rfl
 split
 ·exact .inl rfl
 ·exact .inr rfl
theorem asn {w : World} (s : Spn) {K : KV} (h : ∀ w', Fr (fun _ => False) w w' → K (.int .i64 (ul s)) w') : jb P F.de [tt s] w K := by
 apply M.cl.calls
 unfold M.cl
 rw [bex]
 have hb := bbl w s
 have hf : Fr (fun _ => False) w (w.alloc (.cells #[.int .u64 s.mh, .int .u64 s.id, .int .u64 s.qi, .int .u64 s.jc, .int .u64 s.len, .string s.kz, .string s.name, .bool s.wg] T.z)) := (Fr.refl _ w).alloc _
 generalize w.alloc (.cells #[.int .u64 s.mh, .int .u64 s.id, .int .u64 s.qi, .int .u64 s.jc, .int .u64 s.len, .string s.kz, .string s.name, .bool s.wg] T.z) = wa at *
 have c0 := vz hb 0 _ rfl
 have c1 := vz hb 1 _ rfl
 have c3 := vz hb 3 _ rfl
 have c4 := vz hb 4 _ rfl
 have c5 := vz hb 5 _ rfl
 unfold ul at h
 simp only [fo]
 by_cases h0 : s.mh = 0
 ·simp [c0, h0] at h ⊢
  exact h wa hf
 by_cases h1 : s.id = 0
 ·simp [c0, c1, h0, h1] at h ⊢
  exact h wa hf
 by_cases h2 : 1099511627776 < s.jc
 ·have h3 : 1099511627776 < max s.jc s.len := by omega
  simp [c0, c1, c3, h0, h1, h2, h3] at h ⊢
  exact h wa hf
 by_cases h2' : 1099511627776 < s.len
 ·have h3 : 1099511627776 < max s.jc s.len := by omega
  simp [c0, c1, c3, c4, h0, h1, h2, h2', h3] at h ⊢
  exact h wa hf
 have h3 : ¬ 1099511627776 < max s.jc s.len := by omega
 rw [if_neg (by simp [h0, h1, h3]), bie] at h
 simp [c0, c1, c3, c4, h0, h1, h2, h2']
 unfold M.cl.j0
 simp [c5]
 rw [M.bm.fcall]
 refine alc _ fun w2 f2 => ?_
 have hb2 : apo w2 w.heap.size s := f2.heap hb fun h => h
 have d6 := vz hb2 6 _ rfl
 by_cases n1 : ud s.kz = 0
 ·simp [n1, d6] at h ⊢
  rw [M.bm.fcall]
  refine alc _ fun w3 f3 => ?_
  have hh := h w3 ((hf.trans f2).trans f3)
  rcases aop s.name with n2 | n2
  ·simp [n2] at hh ⊢; exact hh
  ·simp [n2] at hh ⊢; exact hh
 ·have n5 : ud s.kz = 5 := (aop _).resolve_left n1
  have hh := h w2 (hf.trans f2)
  simp [n5] at hh ⊢
  exact hh
def SoI (W : World) (tr : Int) (l : List Spn) : KL := fun x w1 => ∃ (u0 u1 : Value) (i : Nat), x = [u0, u1, .int .i64 (i : Nat)] ∧ i ≤ l.length ∧ ti tr [] l = ti tr ((l.take i).map Spn.id) (l.drop i) ∧ Fr (fun _ => False) W w1
def SiI (W : World) (l : List Spn) (i : Nat) (hi : i < l.length) : KL := fun x w1 => ∃ (u : Value) (j : Nat), x = [u, .int .i64 (j : Nat)] ∧ j ≤ i ∧ (∀ k (hk : k < l.length), k < j → l[k].id ≠ l[i].id) ∧ Fr (fun _ => False) W w1
theorem afk {w : World} {v : Value} {l : List Spn} {tr : Int} (hs : SlS w v l) (hlen : l.length ≤ 1000000) {K : KV} (h : ∀ w', Fr (fun _ => False) w w' → K (.bool (rn tr l)) w') : fk P F.cd [.int .u64 tr, v] w K := by
 rw [M.an.fcall]
 apply M.an.calls
 unfold M.an
 simp only [fo]
 have hln : ∀ w' K, biT P .len #[T.n] T.b [false] [v] w' K = K (.int .i64 l.length) w' := fun w' K => hs.ip (by kernel_rfl) [false]
 refine ⟨SoI w tr l, fun x _ => l.length - ms x 2, ⟨_, _, 0, rfl, Nat.zero_le _, by simp, Fr.refl _ _⟩, ?_⟩
 rintro x w1 ⟨u0, u1, i, rfl, hi, hr, f1⟩
 unfold M.an.j1
 by_cases hil : i < l.length
 ·have hili : (i : Int) < (l.length : Int) := by omega
  have hwi : IntKind.i64.wrap ((i : Int) + 1) = ((i + 1 : Nat) : Int) := by rw [ft (by omega) (by omega)]; rfl
  simp [hln, hil]
  unfold M.an.j2
  obtain ⟨b, o, cap, hv, hb, _, hc⟩ := (hs.fr f1 fun _ _ _ h => h : SlS w1 v l).at hil
  have hia : ∀ w' K, iaT P T.n v (.int .i64 (i : Nat)) w' K = K (.pointer (some ⟨b, o + i * 8, none⟩)) w' := fun w' K => by rw [hv]; simp [hil]
  have hld : ∀ K, ldN P 8 b (o + i * 8) w1 K = K (tt l[i]) w1 := fun K => ldS hc K
  have hdrop : l.drop i = l[i] :: l.drop (i + 1) := List.drop_eq_getElem_cons hil
  rw [hdrop] at hr
  simp [hia, hld]
  rw [M.cl.fcall]
  refine asn l[i] fun w2 f2 => ?_
  have no : ∀ w', Fr (fun _ => False) w w' → ¬ (ul l[i] = 0 ∧ l[i].mh = tr ∧ l[i].id ∉ (l.take i).map Spn.id) → K (.bool false) w' := fun w' f hn => by
   have := h w' f
   unfold rn at this
   rw [hr, agv hn] at this
   simpa using this
  have c0 : fx w2 b (o + i * 8) = some (.int .u64 l[i].mh) := by
   have := hc 0 _ rfl
   rw [Nat.add_zero] at this
   rw [td (f2.jj b hb fun h => h)]; exact this
  by_cases h1 : ul l[i] = 0
  case neg =>
   simp [h1]
   exact no w2 (f1.trans f2) fun hh => h1 hh.1
  by_cases h2 : l[i].mh = tr
  case neg =>
   simp [h1, hia, c0, h2]
   exact no w2 (f1.trans f2) fun hh => h2 hh.2.1
  simp [h1, hia, c0, h2]
  refine ⟨SiI w l i hil, fun x _ => i - ms x 1, ⟨_, 0, rfl, Nat.zero_le _, fun k _ hk => by omega, f1.trans f2⟩, ?_⟩
  rintro x w3 ⟨u, j, rfl, hj, hpre, f3⟩
  have hs3 : SlS w3 v l := hs.fr f3 fun _ _ _ h => h
  by_cases hji : j < i
  ·have hjl : j < l.length := by omega
   have hjii : (j : Int) < (i : Int) := by omega
   have hwj : IntKind.i64.wrap ((j : Int) + 1) = ((j + 1 : Nat) : Int) := by rw [ft (by omega) (by omega)]; rfl
   obtain ⟨b1, o1, c1, e1, _, _, k1⟩ := hs3.at hil
   obtain ⟨b2, o2, c2, e2, _, _, k2⟩ := hs3.at hjl
   have i1 : ∀ w' K, iaT P T.n v (.int .i64 (i : Nat)) w' K = K (.pointer (some ⟨b1, o1 + i * 8, none⟩)) w' := fun w' K => by rw [e1]; simp [hil]
   have i2 : ∀ w' K, iaT P T.n v (.int .i64 (j : Nat)) w' K = K (.pointer (some ⟨b2, o2 + j * 8, none⟩)) w' := fun w' K => by rw [e2]; simp [hjl]
   have q1 := k1 1 _ rfl
   have q2 := k2 1 _ rfl
   simp [hjii]
   unfold M.an.j6
   by_cases he : l[j].id = l[i].id
   ·simp [i1, i2, q1, q2, he]
    refine no _ (f3.dr 1) fun hh => hh.2.2 ?_
    rw [List.mem_map]
    exact ⟨l[j], List.mem_take_iff_getElem.2 ⟨j, by omega, rfl⟩, he⟩
   ·simp [i1, i2, q1, q2, he, hwj]
    refine ⟨⟨_, j + 1, rfl, by omega, fun k hk hkj => ?_, f3.dr 1⟩, by simp [ms, gv]; omega⟩
    by_cases hkj2 : k = j
    ·subst hkj2; exact he
    ·exact hpre k hk (by omega)
  ·have hjii : ¬ (j : Int) < (i : Int) := by omega
   simp [hjii, hwi]
   refine ⟨⟨_, _, i + 1, rfl, by omega, ?_, f3⟩, by simp [ms, gv]; omega⟩
   have hni : l[i].id ∉ (l.take i).map Spn.id := fun hm => by
    obtain ⟨s, hs', hse⟩ := List.mem_map.1 hm
    obtain ⟨k, hk, rfl⟩ := List.mem_take_iff_getElem.1 hs'
    exact hpre k (by omega) (by omega) hse
   rw [hr, ahz h1 h2 hni, List.take_add_one, List.map_append, List.getElem?_eq_getElem hil]
   rfl
 ·have hili : ¬ (i : Int) < (l.length : Int) := by omega
  have hr1 : ti tr [] l = true := by rw [hr, List.drop_of_length_le (by omega)]; rfl
  simp [hln, hil]
  unfold M.an.j0
  have fin := h w1 f1
  unfold rn at fin
  rw [hr1] at fin
  by_cases h0 : 0 < l.length
  ·have h0' : (1 : Int) ≤ l.length := by omega
   by_cases h16 : l.length ≤ 16
   ·have h16' : (l.length : Int) ≤ 16 := by omega
    simp [hln, h0', h16']
    simpa [h0, h16] using fin
   ·have h16' : ¬ (l.length : Int) ≤ 16 := by omega
    simp [hln, h0', h16']
    simpa [h0, h16] using fin
  ·have h0' : ¬ (1 : Int) ≤ l.length := by omega
   simp [hln, h0']
   simpa [h0] using fin
def ajx (l : List Int) (i : Nat) : Int := match i with
 | 0 => 0
 | i + 1 => l.getD i 0
def RrI (W : World) (l : List Int) : KL := fun x w1 => ∃ (u : Value) (i : Nat), x = [u, .int .i64 (i : Nat)] ∧ i ≤ l.length ∧ sg 0 l = sg (ajx l i) (l.drop i) ∧ Fr (fun _ => False) W w1
theorem auw {w : World} {v : Value} {l : List Int} (hs : SlU w v l) (hlen : l.length ≤ 1000000) (hid : ∀ m ∈ l, 0 ≤ m) {K : KV} (h : ∀ w', Fr (fun _ => False) w w' → K (.bool (sg 0 l && (decide (0 < l.length) && decide (l.length ≤ 16)))) w') : fk P F.dp [v] w K := by
 rw [M.bv.fcall]
 apply M.bv.calls
 unfold M.bv
 simp only [fo]
 have hln : ∀ w' K, biT P .len #[T.f] T.b [false] [v] w' K = K (.int .i64 l.length) w' := fun w' K => hs.ip (by kernel_rfl) [false]
 refine ⟨RrI w l, fun x _ => l.length - ms x 1, ⟨_, 0, rfl, Nat.zero_le _, rfl, Fr.refl _ _⟩, ?_⟩
 rintro x w1 ⟨u, i, rfl, hi, hr, f1⟩
 by_cases hil : i < l.length
 ·have hili : (i : Int) < (l.length : Int) := by omega
  have hwi : IntKind.i64.wrap ((i : Int) + 1) = ((i + 1 : Nat) : Int) := by rw [ft (by omega) (by omega)]; rfl
  simp [hln, hil]
  unfold M.bv.j2
  have hs1 : SlU w1 v l := hs.fr f1 fun _ _ _ h => h
  obtain ⟨b, o, cap, hv, hb, hc⟩ := yc hs1 hil
  have hia : ∀ w' K, iaT P T.f v (.int .i64 (i : Nat)) w' K = K (.pointer (some ⟨b, o + i, none⟩)) w' := fun w' K => by rw [hv]; simp [hil]
  have hdrop : l.drop i = l[i] :: l.drop (i + 1) := List.drop_eq_getElem_cons hil
  rw [hdrop, sg] at hr
  have hm0 := hid _ (List.getElem_mem hil)
  have no : ¬ ajx l i < l[i] → K (.bool false) (dr w1 1) := fun hn => by
   have := h _ (f1.dr 1)
   rw [hr, decide_eq_false hn] at this
   simpa using this
  have yes : ajx l i < l[i] → RrI w l [u, .int .i64 (IntKind.i64.wrap ((i : Int) + 1))] (dr w1 1) ∧ l.length - ms [u, .int .i64 (IntKind.i64.wrap ((i : Int) + 1))] 1 < l.length - ms [u, .int .i64 (i : Nat)] 1 := fun hy => by
   rw [hwi]
   refine ⟨⟨_, i + 1, rfl, by omega, ?_, f1.dr 1⟩, by simp [ms, gv]; omega⟩
   rw [hr, decide_eq_true hy, Bool.true_and]
   show _ = sg (l.getD i 0) _
   rw [List.getD_eq_getElem?_getD, List.getElem?_eq_getElem hil]
   rfl
  by_cases hz : l[i] = 0
  ·simp [hia, hc, hz]
   refine no ?_
   rw [hz]
   cases i with
   | zero => simp [ajx]
   | succ j =>
    show ¬ l.getD j 0 < 0
    rw [List.getD_eq_getElem?_getD, List.getElem?_eq_getElem (by omega)]
    have := hid _ (List.getElem_mem (show j < l.length by omega))
    simp; exact this
  cases i with
  | zero =>
   have yy := yes (by show 0 < _; omega)
   have hia' : ∀ w' K, iaT P T.f v (.int .i64 0) w' K = K (.pointer (some ⟨b, o + 0, none⟩)) w' := fun w' K => hia w' K
   have hc0 : fx w1 b o = some (.int .u64 l[0]) := hc
   simp [hia', hc0, hz]
   simpa using yy
  | succ j =>
   have hjl : j < l.length := by omega
   obtain ⟨b2, o2, cap2, hv2, hb2, hc2⟩ := yc hs1 hjl
   have hia2 : ∀ w' K, iaT P T.f v (.int .i64 (j : Nat)) w' K = K (.pointer (some ⟨b2, o2 + j, none⟩)) w' := fun w' K => by rw [hv2]; simp [hjl]
   have hwj : IntKind.i64.wrap (((j + 1 : Nat) : Int) - 1) = (j : Int) := by rw [ft (by omega) (by omega)]; omega
   have hwj' : IntKind.i64.wrap (j : Int) = (j : Int) := by rw [ft (by omega) (by omega)]
   have hpos : (0 : Int) < (j : Int) + 1 := by omega
   have hpos' : (0 : Int) < ((j + 1 : Nat) : Int) := by omega
   have hla : ajx l (j + 1) = l[j] := by
    show l.getD j 0 = _
    rw [List.getD_eq_getElem?_getD, List.getElem?_eq_getElem hjl]; rfl
   have hia' : ∀ w' K, iaT P T.f v (.int .i64 ((j : Int) + 1)) w' K = K (.pointer (some ⟨b, o + (j + 1), none⟩)) w' := fun w' K => hia w' K
   by_cases hge : l[j + 1] ≤ l[j]
   ·simp [hia', hc, hz, hpos, hwj', hia2, hc2, hge]
    exact no (by rw [hla]; omega)
   ·have yy := yes (by rw [hla]; omega)
    simp [hia', hc, hz, hpos, hwj', hia2, hc2, hge]
    simpa using yy
 ·have hili : ¬ (i : Int) < (l.length : Int) := by omega
  have hr1 : sg 0 l = true := by rw [hr, List.drop_of_length_le (by omega)]; rfl
  simp [hln, hil]
  unfold M.bv.j0
  have fin := h w1 f1
  rw [hr1] at fin
  by_cases h0 : 0 < l.length
  ·have h0' : (1 : Int) ≤ l.length := by omega
   by_cases h16 : l.length ≤ 16
   ·have h16' : (l.length : Int) ≤ 16 := by omega
    simp [hln, h0', h16']
    simpa [h0, h16] using fin
   ·have h16' : ¬ (l.length : Int) ≤ 16 := by omega
    simp [hln, h0', h16']
    simpa [h0, h16] using fin
  ·have h0' : ¬ (1 : Int) ≤ l.length := by omega
   simp [hln, h0']
   simpa [h0] using fin
def akp (ok : Bool) (im : Bal) (v : Int) : Bool := (decide (v = 0) || (ki v && !(decide (im = gu)))) && (if ok = true then !(decide (v = 0)) || decide (im = gu) else decide (v = 0) && !(decide (im = gu)))
def ky (p : Pk) (ls : List Spn) (lm : List Mem) (lu : List Int) : Bool :=
 if p.fu = 1 ∨ p.fu = 2 then rn p.tr ls else if p.fu = 3 then ym lm else if p.fu = 4 then decide (0 < p.b.n) else if p.fu = 5 then decide (0 < p.b.n) && akp p.ok p.im p.v else if p.fu = 6 then decide (0 < p.b.n) && ki p.v else if p.fu = 7 then decide (0 < p.b.n) && (p.ok == decide (p.im = gu)) else if p.fu = 8 then ki p.v else if p.fu = 9 then decide (0 < p.b.n) && rn p.tr ls else if p.fu = 10 then sg 0 lu && (decide (0 < lu.length) && decide (lu.length ≤ 16)) else false
def ahf (p : Pk) (ls : List Spn) (lm : List Mem) (lu : List Int) : Bool := qt p (jx p) ls (ou p ls) lm (ot p lm) lu (oh p lu)
def sx (p : Pk) (ls : List Spn) (lm : List Mem) (lu : List Int) : Bool := (ahf p ls lm lu && (decide (p.fu = 3) || decide (0 < p.tr))) && ky p ls lm lu
def zo (p : Pk) (ls : List Spn) (lm : List Mem) (lu : List Int) : Int := if sx p ls lm lu = true then 0 else 6
def pq (p : Pk) : Pk := if p.fu = 4 ∨ p.fu = 6 then ⟨if p.v = 0 then 4 else 6, p.tr, p.b, gu, p.v, false, gt, gt, gt⟩ else if p.fu = 5 ∨ p.fu = 7 then ⟨p.fu, p.tr, p.b, p.im, p.v, p.ok, gt, gt, gt⟩ else jx p
theorem azy {p : Pk} {ls : List Spn} {lm : List Mem} {lu : List Int} (hr : wy p) (hk : 1 ≤ p.fu ∧ p.fu ≤ 10) : (rj p ls lm lu && qt p (pq p) ls (ou p ls) lm (ot p lm) lu (oh p lu)) = sx p ls lm lu := by
 have h1 := hr.tr.1
 have h2 := hr.b.1.1
 have core : (rj p ls lm lu && kq p (pq p)) = ((kq p (jx p) && (decide (p.fu = 3) || decide (0 < p.tr))) && ky p ls lm lu) := by
  obtain ⟨k, tr, b, im, v, ok, sv, mv, iv⟩ := p
  simp only at hk h1 h2
  have hcase : k = 1 ∨ k = 2 ∨ k = 3 ∨ k = 4 ∨ k = 5 ∨ k = 6 ∨ k = 7 ∨ k = 8 ∨ k = 9 ∨ k = 10 := by omega
  rcases hcase with rfl | rfl | rfl | rfl | rfl | rfl | rfl | rfl | rfl | rfl
  ·simp [rj, ky, pq, jx, kq, agd]
   cases rn tr ls <;> by_cases ht : 0 < tr <;> by_cases hb : b = gu <;> by_cases hs : im = gu <;> by_cases hv : v = 0 <;> cases ok <;> simp [ht, hb, hs, hv]
  ·simp [rj, ky, pq, jx, kq, agd]
   cases rn tr ls <;> by_cases ht : 0 < tr <;> by_cases hb : b = gu <;> by_cases hs : im = gu <;> by_cases hv : v = 0 <;> cases ok <;> simp [ht, hb, hs, hv]
  ·simp [rj, ky, pq, jx, kq]
   cases ym lm <;> by_cases ht : tr = 0 <;> by_cases hb : b = gu <;> by_cases hs : im = gu <;> by_cases hv : v = 0 <;> cases ok <;> simp [ht, hb, hs, hv]
  ·simp [rj, ky, pq, jx, kq, arj]
   by_cases ht : 0 < tr <;> by_cases hb : 0 < b.n <;> by_cases hs : im = gu <;> by_cases hv : v = 0 <;> cases ok <;> simp [ht, hb, hs, hv]
  ·simp [rj, ky, pq, jx, kq, agc, akp]
   by_cases ht : tr = 0 <;> by_cases hb : b.n = 0 <;> by_cases hs : im = gu <;> by_cases hv : v = 0 <;> cases ok <;> cases htl : ki v <;> simp [ht, hb, hs, hv, htl] <;> first | omega | (subst hv; simp [ki] at htl) | skip
  ·simp [rj, ky, pq, jx, kq, arj]
   by_cases ht : 0 < tr <;> by_cases hb : 0 < b.n <;> by_cases hs : im = gu <;> by_cases hv : v = 0 <;> cases ok <;> simp [ht, hb, hs, hv] <;> first | rfl | (simp [ki]; done) | skip
  ·simp [rj, ky, pq, jx, kq, agc]
   by_cases ht : tr = 0 <;> by_cases hb : b.n = 0 <;> by_cases hs : im = gu <;> by_cases hv : v = 0 <;> cases ok <;> simp [ht, hb, hs, hv] <;> first | omega | skip
  ·simp [rj, ky, pq, jx, kq, aoh]
   by_cases ht : 0 < tr <;> by_cases hb : b = gu <;> by_cases hs : im = gu <;> cases ok <;> simp [ht, hb, hs]
  ·simp [rj, ky, pq, jx, kq, ahv]
   cases rn tr ls <;> by_cases ht : 0 < tr <;> by_cases hb : 0 < b.n <;> by_cases hs : im = gu <;> by_cases hv : v = 0 <;> cases ok <;> simp [ht, hb, hs, hv]
  ·simp [rj, ky, pq, jx, kq, akm]
   cases sg 0 lu <;> by_cases ht : 0 < tr <;> by_cases hb : b = gu <;> by_cases hs : im = gu <;> by_cases hv : v = 0 <;> cases ok <;> simp [ht, hb, hs, hv]
 unfold sx ahf qt
 generalize decide (lm = ot p lm) = A
 generalize decide (lu = oh p lu) = B
 generalize su ls (ou p ls) = C
 cases A <;> cases B <;> cases C <;> simp <;> simpa using core
theorem vt {p q q' : Pk} (h1 : q.fu = q'.fu) (h2 : q.tr = q'.tr) (h3 : q.b = q'.b) (h4 : q.im = q'.im) (h5 : q.v = q'.v) (h6 : q.ok = q'.ok) : kq p q = kq p q' := by
 unfold kq; rw [h1, h2, h3, h4, h5, h6]
theorem ayz {w : World} {p : Pk} {ls : List Spn} {lm : List Mem} {lu : List Int} {t : Value} (ht : ThR w p ls lm lu t) (hk : 1 ≤ p.fu ∧ p.fu ≤ 10) (l1 : ls.length ≤ 1000000) (l2 : lm.length ≤ 1000000) (l3 : lu.length ≤ 1000000) {K : KV}
  (h : ∀ w' q, oz w' q (ou p ls) (ot p lm) (oh p lu) → (∀ x, kq x q = kq x (pq p)) → Fr (fun _ => False) w w' → K (pkA q) w') : fk P F.ac [t] w K := by
 have e0 : ([] : List Spn).length ≤ 1000000 := by simp
 have e1 : ([] : List Mem).length ≤ 1000000 := by simp
 have e2 : ([] : List Int).length ≤ 1000000 := by simp
 cases ht with
 | si v q hs =>
  have hS : ou p ls = ls := by unfold ou; rw [if_pos (by omega)]
  have hM : ot p lm = [] := by unfold ot; rw [if_neg (by omega)]
  have hU : oh p lu = [] := by unfold oh; rw [if_neg (by omega)]
  rw [hS, hM, hU] at h
  refine amd hs l1 fun w' v' s f => h w' _ ⟨s, Sl.nil, Sl.nil, l1, e1, e2⟩ (fun x => vt ?_ ?_ ?_ ?_ ?_ ?_) f
  all_goals rcases q with q | q <;> simp [pq, jx, q]
 | afw v q hs =>
  have hS : ou p ls = [] := by unfold ou; rw [if_neg (by omega)]
  have hM : ot p lm = lm := by unfold ot; rw [if_pos (by omega)]
  have hU : oh p lu = [] := by unfold oh; rw [if_neg (by omega)]
  rw [hS, hM, hU] at h
  refine auz hs l2 fun w' v' s f => h w' ⟨3, 0, gu, gu, 0, false, gt, v', gt⟩ ⟨Sl.nil, s, Sl.nil, e0, l2, e2⟩ (fun x => vt ?_ ?_ ?_ ?_ ?_ ?_) f
  all_goals simp [pq, jx, q]
 | ask q =>
  have hS : ou p ls = [] := by unfold ou; rw [if_neg (by omega)]
  have hM : ot p lm = [] := by unfold ot; rw [if_neg (by omega)]
  have hU : oh p lu = [] := by unfold oh; rw [if_neg (by omega)]
  rw [hS, hM, hU] at h
  refine aqp fun w' f => h w' _ ⟨Sl.nil, Sl.nil, Sl.nil, e0, e1, e2⟩ (fun x => vt ?_ ?_ ?_ ?_ ?_ ?_) f
  all_goals rcases q with q | q <;> simp [pq, bam, q]
 | yd q =>
  have hS : ou p ls = [] := by unfold ou; rw [if_neg (by omega)]
  have hM : ot p lm = [] := by unfold ot; rw [if_neg (by omega)]
  have hU : oh p lu = [] := by unfold oh; rw [if_neg (by omega)]
  rw [hS, hM, hU] at h
  refine alk fun w' f => h w' _ ⟨Sl.nil, Sl.nil, Sl.nil, e0, e1, e2⟩ (fun x => vt ?_ ?_ ?_ ?_ ?_ ?_) f
  all_goals rcases q with q | q <;> simp [pq, q]
 | uo q =>
  have hS : ou p ls = [] := by unfold ou; rw [if_neg (by omega)]
  have hM : ot p lm = [] := by unfold ot; rw [if_neg (by omega)]
  have hU : oh p lu = [] := by unfold oh; rw [if_neg (by omega)]
  rw [hS, hM, hU] at h
  refine aoa fun w' f => h w' _ ⟨Sl.nil, Sl.nil, Sl.nil, e0, e1, e2⟩ (fun x => vt ?_ ?_ ?_ ?_ ?_ ?_) f
  all_goals simp [pq, jx, q]
 | vk v q hs =>
  have hS : ou p ls = ls := by unfold ou; rw [if_pos (by omega)]
  have hM : ot p lm = [] := by unfold ot; rw [if_neg (by omega)]
  have hU : oh p lu = [] := by unfold oh; rw [if_neg (by omega)]
  rw [hS, hM, hU] at h
  refine akn hs l1 fun w' v' s f => h w' _ ⟨s, Sl.nil, Sl.nil, l1, e1, e2⟩ (fun x => vt ?_ ?_ ?_ ?_ ?_ ?_) f
  all_goals simp [pq, jx, q]
 | yg v q hs =>
  have hS : ou p ls = [] := by unfold ou; rw [if_neg (by omega)]
  have hM : ot p lm = [] := by unfold ot; rw [if_neg (by omega)]
  have hU : oh p lu = lu := by unfold oh; rw [if_pos (by omega)]
  rw [hS, hM, hU] at h
  refine amj hs l3 fun w' v' s f => h w' _ ⟨Sl.nil, Sl.nil, s, e0, e1, l3⟩ (fun x => vt ?_ ?_ ?_ ?_ ?_ ?_) f
  all_goals simp [pq, jx, q]
 | none q => exact absurd hk q
theorem awl {p : Pk} {ls : List Spn} {lm : List Mem} {lu : List Int} (h : ¬ (1 ≤ p.fu ∧ p.fu ≤ 10)) : sx p ls lm lu = false := by
 unfold sx ky
 rw [if_neg (by omega), if_neg (by omega), if_neg (by omega), if_neg (by omega), if_neg (by omega), if_neg (by omega), if_neg (by omega), if_neg (by omega), if_neg (by omega), Bool.and_false]
theorem aqy {w : World} {p : Pk} {ls : List Spn} {lm : List Mem} {lu : List Int} (hp : oz w p ls lm lu) (hr : wy p) {K : KV} (h : ∀ w', Fr (fun _ => False) w w' → K (.int .i64 (zo p ls lm lu)) w') : fk P F.ek [pkA p] w K := by
 rw [M.ej.fcall]
 apply M.ej.calls
 unfold M.ej
 refine St.po (St.jc w) fun pb w1 S1 => ?_
 have S1' : St w w1 (gc pb (pkC p).toArray T.a :: []) := S1
 have pl := fun K => uu S1' K
 simp [pl]
 refine anc (hp.fr S1.fr) fun w2 t ht f2 => ?_
 have S2 := S1'.iu f2
 have S3 := S2.iu ((Fr.refl _ w2).dr 1)
 unfold zo at h
 by_cases hk : 1 ≤ p.fu ∧ p.fu ≤ 10
 case neg =>
  rw [ht.bgw hk]
  rw [awl hk] at h
  simp [bed]
  exact h _ S3.fr
 rw [← azy hr hk] at h
 simp [ht.eqn hk]
 have ht3 := ht.fr ((Fr.refl _ w2).dr 1)
 refine bek ht3 hk hp.ls hp.lm hp.lu fun w4 f4 => ?_
 have S4 := S3.iu f4
 have pl4 := fun K => uu S4 K
 cases hb : rj p ls lm lu with
 | false =>
  rw [hb] at h
  simp
  exact h _ S4.fr
 | true =>
 rw [hb, Bool.true_and] at h
 simp [pl4]
 refine ayz (ht3.fr f4) hk hp.ls hp.lm hp.lu fun w5 q hq hf f5 => ?_
 have S5 := S4.iu f5
 have pl5 := fun K => uu S5 K
 simp [pl5]
 refine bao (hp.fr S5.fr) hq fun w6 f6 => ?_
 have S6 := S5.iu f6
 have fin := h w6 S6.fr
 have e : qt p q ls (ou p ls) lm (ot p lm) lu (oh p lu) = qt p (pq p) ls (ou p ls) lm (ot p lm) lu (oh p lu) := by unfold qt; rw [hf p]
 rw [e]
 generalize qt p (pq p) ls (ou p ls) lm (ot p lm) lu (oh p lu) = bb at *
 cases bb with
 | true => simp at fin ⊢; exact fin
 | false => simp at fin ⊢; exact fin
theorem bbj {w : World} {p : Pk} {ls : List Spn} {lm : List Mem} {lu : List Int} (hp : oz w p ls lm lu) (hr : wy p) {K : KV} (h1 : sx p ls lm lu = true → ∀ w' t, ThR w' p ls lm lu t → Fr (fun _ => False) w w' → K (.tuple #[t, .int .i64 0]) w') (h0 : sx p ls lm lu = false → ∀ w', Fr (fun _ => False) w w' → K (.tuple #[.nilIface, .int .i64 6]) w') : fk P F.et [pkA p] w K := by
 rw [M.ez.fcall]
 apply M.ez.calls
 unfold M.ez
 refine St.po (St.jc w) fun pb w1 S1 => ?_
 have S1' : St w w1 (gc pb (pkC p).toArray T.a :: []) := S1
 have pl := fun K => uu S1' K
 simp [pl]
 refine aqy (hp.fr S1.fr) hr fun w2 f2 => ?_
 have S2 := S1'.iu f2
 unfold zo
 cases he : sx p ls lm lu with
 | false =>
  simp
  exact h0 he w2 S2.fr
 | true =>
  simp
  have pl2 := fun K => uu S2 K
  simp [pl2]
  refine anc (hp.fr S2.fr) fun w3 t ht f3 => ?_
  exact h1 he w3 t ht (S2.iu f3).fr
theorem ads {x : Int} (h : 0 ≤ x) : decide (0 < x) = !decide (x = 0) := by
 by_cases hx : x = 0
 ·simp [hx]
 ·have : 0 < x := by omega
  simp [hx, this]
theorem bep {v : Int} : ki v = (decide (1 ≤ v) && decide (v ≤ 3)) := by unfold ki; simp
theorem anu {w : World} {p : Pk} {ls : List Spn} {lm : List Mem} {lu : List Int} (hp : oz w p ls lm lu) (hr : wy p) (hm : ∀ m ∈ lm, 0 ≤ m.id) (hu : ∀ m ∈ lu, 0 ≤ m) {K : KV} (h : ∀ w', Fr (fun _ => False) w w' → K (.int .i64 (zo p ls lm lu)) w') : fk P F.cc [pkA p] w K := by
 rw [M.bg.fcall]
 apply M.bg.calls
 unfold M.bg
 refine St.po (St.jc w) fun pb w1 S1 => ?_
 have S1' : St w w1 (gc pb (pkC p).toArray T.a :: []) := S1
 obtain ⟨_, _, _, c4, _⟩ := ik S1'
 have S1d := S1'.iu ((Fr.refl _ w1).dr 1)
 have pl := fun K => uu S1d K
 simp [c4, bcx, pt, pl]
 refine bdm (hp.fr S1d.fr) fun w2 f2 => ?_
 have S2 := S1d.iu f2
 have pl2 := fun K => uu S2 K
 simp [pl2]
 refine axz (hp.fr S2.fr) (ate (hp.fr S2.fr)) fun w3 f3 => ?_
 have S3 := S2.iu f3
 obtain ⟨c0, c1, c2, c4, c6, c7, c8, c9, c10, _⟩ := ik S3
 have hbn : fx w3 pb 2 = some (.int .u64 p.b.n) := by rw [S3.cell]; rfl
 have hp3 := hp.fr S3.fr
 show _
 have eB : qt p (jx p) ls (ou p ls) lm (ot p lm) lu (oh p lu) = ahf p ls lm lu := rfl
 rw [eB]
 have h1 := hr.tr.1
 have h2 := hr.b.1.1
 unfold zo sx at h
 rw [ads h1] at h
 have hbo : aew P T.ar = true := by kernel_rfl
 -- the uo of its verdict
 have main : ∀ (B : Bool), B = (ahf p ls lm lu && (decide (p.fu = 3) || !decide (p.tr = 0))) → ∀ (K0 : KL), (∀ (v0 v1 : Value) (r : List Value) (w4 : World), Fr (fun _ => False) w w4 → K0 (v0 :: v1 :: .bool (B && ky p ls lm lu) :: r) w4) →
   ∀ t33 x1, t33 = .int .i64 p.fu → x1 = [.bool (decide (p.fu = 1) || decide (p.fu = 2))] → M.bg.j1 x1 (.bool B) (.pointer (some ⟨pb, 0, none⟩)) K0 t33 (.bool (ki p.v)) (.bool (decide (p.im = gu))) w3 K := by
  intro B eB K0 hK t33 x1 e33 ex
  subst e33 ex
  unfold M.bg.j1
  have fin := fun v0 v1 r => hK v0 v1 r w3 S3.fr
  by_cases q12 : p.fu = 1 ∨ p.fu = 2
  ·have hk : ky p ls lm lu = rn p.tr ls := by unfold ky; rw [if_pos q12]
   rw [hk] at hK fin
   have hd : (decide (p.fu = 1) || decide (p.fu = 2)) = true := by simpa using q12
   rw [hd]
   cases B with
   | false => simp at fin ⊢; exact fin _ _ _
   | true =>
    simp [c1, c8]
    refine afk hp3.s hp.ls fun w4 f4 => ?_
    exact hK _ _ _ w4 (S3.fr.trans f4)
  have n1 : ¬ p.fu = 1 := fun h => q12 (.inl h)
  have n2 : ¬ p.fu = 2 := fun h => q12 (.inr h)
  by_cases q3 : p.fu = 3
  ·have hk : ky p ls lm lu = ym lm := by unfold ky; rw [if_neg q12, if_pos q3]
   rw [hk] at hK fin
   cases B with
   | false => simp [n1, n2, q3] at fin ⊢; exact fin _ _ _
   | true =>
    simp [q3, c9]
    refine ant hp3.m hp.lm hm fun w4 f4 => ?_
    exact hK _ _ _ w4 (S3.fr.trans f4)
  by_cases q4 : p.fu = 4
  ·have hk : ky p ls lm lu = !decide (p.b.n = 0) := by unfold ky; rw [if_neg q12, if_neg q3, if_pos q4, ads h2]
   rw [hk] at hK fin
   cases B with
   | false => simp [n1, n2, q3, q4] at fin ⊢; exact fin _ _ _
   | true => simp [q4, hbn] at fin ⊢; exact fin _ _ _
  by_cases q5 : p.fu = 5
  ·have hk : ky p ls lm lu = (!decide (p.b.n = 0) && akp p.ok p.im p.v) := by unfold ky; rw [if_neg q12, if_neg q3, if_neg q4, if_pos q5, ads h2]
   rw [hk] at hK fin
   unfold akp at fin
   cases B with
   | false => cases hok : p.ok <;> simp [n1, n2, q3, q4, q5, c7, hok] at fin ⊢ <;> exact fin _ _ _
   | true =>
    cases hok : p.ok <;> cases htl : ki p.v <;> by_cases hb : p.b.n = 0 <;> by_cases hv : p.v = 0 <;> by_cases hs : p.im = gu <;> simp [q5, hbn, c7, c6, hok, htl, hb, hv, hs] at fin ⊢ <;> exact fin _ _ _
  by_cases q6 : p.fu = 6
  ·have hk : ky p ls lm lu = (!decide (p.b.n = 0) && ki p.v) := by unfold ky; rw [if_neg q12, if_neg q3, if_neg q4, if_neg q5, if_pos q6, ads h2]
   rw [hk] at hK fin
   cases B with
   | false => simp [n1, n2, q3, q4, q5, q6] at fin ⊢; exact fin _ _ _
   | true => by_cases hb : p.b.n = 0 <;> simp [q6, hbn, hb] at fin ⊢ <;> exact fin _ _ _
  by_cases q7 : p.fu = 7
  ·have hk : ky p ls lm lu = (!decide (p.b.n = 0) && (p.ok == decide (p.im = gu))) := by unfold ky; rw [if_neg q12, if_neg q3, if_neg q4, if_neg q5, if_neg q6, if_pos q7, ads h2]
   rw [hk] at hK fin
   cases B with
   | false => simp [n1, n2, q3, q4, q5, q6, q7] at fin ⊢; exact fin _ _ _
   | true => by_cases hb : p.b.n = 0 <;> simp [q7, hbn, hb, c7, aeu hbo] at fin ⊢ <;> exact fin _ _ _
  by_cases q8 : p.fu = 8
  ·have hk : ky p ls lm lu = ki p.v := by unfold ky; rw [if_neg q12, if_neg q3, if_neg q4, if_neg q5, if_neg q6, if_neg q7, if_pos q8]
   rw [hk] at hK fin
   cases B with
   | false => simp [n1, n2, q3, q4, q5, q6, q7, q8] at fin ⊢; exact fin _ _ _
   | true => simp [q8] at fin ⊢; exact fin _ _ _
  by_cases q9 : p.fu = 9
  ·have hk : ky p ls lm lu = (!decide (p.b.n = 0) && rn p.tr ls) := by unfold ky; rw [if_neg q12, if_neg q3, if_neg q4, if_neg q5, if_neg q6, if_neg q7, if_neg q8, if_pos q9, ads h2]
   rw [hk] at hK fin
   cases B with
   | false => simp [n1, n2, q3, q4, q5, q6, q7, q8, q9] at fin ⊢; exact fin _ _ _
   | true =>
    by_cases hb : p.b.n = 0
    ·simp [q9, hbn, hb] at fin ⊢; exact fin _ _ _
    ·simp [q9, hbn, hb, c1, c8]
     refine afk hp3.s hp.ls fun w4 f4 => ?_
     have fin4 := fun v0 v1 r => hK v0 v1 r w4 (S3.fr.trans f4)
     simp [hb] at fin4 ⊢
     exact fin4 _ _ _
  by_cases q10 : p.fu = 10
  ·have hk : ky p ls lm lu = (sg 0 lu && (decide (0 < lu.length) && decide (lu.length ≤ 16))) := by unfold ky; rw [if_neg q12, if_neg q3, if_neg q4, if_neg q5, if_neg q6, if_neg q7, if_neg q8, if_neg q9, if_pos q10]
   rw [hk] at hK fin
   cases B with
   | false => simp [n1, n2, q3, q4, q5, q6, q7, q8, q9, q10] at fin ⊢; exact fin _ _ _
   | true =>
    simp [q10, c10]
    refine auw hp3.u hp.lu hu fun w4 f4 => ?_
    exact hK _ _ _ w4 (S3.fr.trans f4)
  ·have hk : ky p ls lm lu = false := by unfold ky; rw [if_neg q12, if_neg q3, if_neg q4, if_neg q5, if_neg q6, if_neg q7, if_neg q8, if_neg q9, if_neg q10]
   rw [hk, Bool.and_false] at fin
   simp [n1, n2, q3, q4, q5, q6, q7, q8, q9, q10]
   exact fin _ _ _
 have fin : ∀ w4, Fr (fun _ => False) w w4 → K (.int .i64 (if (((ahf p ls lm lu && (decide (p.fu = 3) || !decide (p.tr = 0))) && ky p ls lm lu) = true) then 0 else 6)) w4 := h
 have m2 := main _ rfl
 have tl : ki p.v = (decide (1 ≤ p.v) && decide (p.v ≤ 3)) := bep
 generalize ahf p ls lm lu = E at *
 have m3 := fun e K0 hK t33 x1 a b => main (E && (decide (p.fu = 3) || !decide (p.tr = 0))) e K0 hK t33 x1 a b
 have m4 := m3 rfl
 have tailK : ∀ (X : Bool) (w4 : World), X = ((E && (decide (p.fu = 3) || !decide (p.tr = 0))) && ky p ls lm lu) → Fr (fun _ => False) w w4 → (unT P .not (.bool X) w4 fun t162 w => fm t162 (K (.int .i64 6) w) (K (.int .i64 0) w)) := fun X w4 e f => by
  have := fin w4 f
  rw [← e] at this
  cases X with
  | true => simp at this ⊢; exact this
  | false => simp at this ⊢; exact this
 have fork : M.bg.j1 [.bool (decide (p.fu = 1) || decide (p.fu = 2))] (.bool (E && (decide (p.fu = 3) || !decide (p.tr = 0)))) (.pointer (some ⟨pb, 0, none⟩)) (fun x0 w => unT P .not (gv x0 2) w fun t162 w => fm t162 (K (.int .i64 6) w) (K (.int .i64 0) w)) (.int .i64 p.fu) (.bool (ki p.v)) (.bool (decide (p.im = gu))) w3 K :=
  m4 _ (fun v0 v1 r w4 f4 => tailK _ w4 rfl f4) _ _ rfl rfl
 clear main m3 m4 m2
 have tl1 : ∀ {Q : Value → World → Prop}, Q (.bool (ki p.v)) w3 → (fj P .geq T.j (.tmp 25) (.const (.int .i64 1)) (.int .i64 p.v) (.int .i64 1) w3 fun t26 w => fi (isB t26 true) (fun K' => K' (.pointer (some ⟨pb, 6, none⟩)) w) w fun t28 w => fi (isB t26 true) (fun K' => ldT P T.j t28 w K') w fun t29 w => fi (isB t26 true) (fun K' => fj P .leq T.j (.tmp 29) (.const (.int .i64 3)) t29 (.int .i64 3) w K') w fun t30 w => ge t26 t30 (.bool false) w Q) := fun {Q} hQ => by
  rw [tl] at hQ
  by_cases v1 : 1 ≤ p.v
  ·by_cases v3 : p.v ≤ 3
   ·simp [v1, v3, c6] at hQ ⊢; exact hQ
   ·simp [v1, v3, c6] at hQ ⊢; exact hQ
  ·simp [v1] at hQ ⊢; exact hQ
 have go : (fj P .geq T.j (.tmp 25) (.const (.int .i64 1)) (.int .i64 p.v) (.int .i64 1) w3 fun t26 w => fi (isB t26 true) (fun K' => K' (.pointer (some ⟨pb, 6, none⟩)) w) w fun t28 w => fi (isB t26 true) (fun K' => ldT P T.j t28 w K') w fun t29 w => fi (isB t26 true) (fun K' => fj P .leq T.j (.tmp 29) (.const (.int .i64 3)) t29 (.int .i64 3) w K') w fun t30 w => ge t26 t30 (.bool false) w fun t31 w =>
   ldT P T.b (.pointer (some ⟨pb, 0, none⟩)) w fun t33 w => fj P .eql T.b (.tmp 33) (.const (.int .i64 1)) t33 (.int .i64 1) w fun t35 w =>
   fm t35 (M.bg.j1 [t35] (.bool (E && (decide (p.fu = 3) || !decide (p.tr = 0)))) (.pointer (some ⟨pb, 0, none⟩)) (fun x0 w => unT P .not (gv x0 2) w fun t162 w => fm t162 (K (.int .i64 6) w) (K (.int .i64 0) w)) t33 t31 (.bool (decide (p.im = gu))) w K)
    (fj P .eql T.b (.tmp 33) (.const (.int .i64 2)) t33 (.int .i64 2) w fun t36 w => M.bg.j1 [t36] (.bool (E && (decide (p.fu = 3) || !decide (p.tr = 0)))) (.pointer (some ⟨pb, 0, none⟩)) (fun x0 w => unT P .not (gv x0 2) w fun t162 w => fm t162 (K (.int .i64 6) w) (K (.int .i64 0) w)) t33 t31 (.bool (decide (p.im = gu))) w K)) := by
  refine tl1 ?_
  simp [c0]
  by_cases k1 : p.fu = 1
  ·simp [k1] at fork ⊢; exact fork
  ·simp [k1] at fork ⊢; exact fork
 clear fork tl1
 cases E with
 | false =>
  simp [c6] at go ⊢
  exact go
 | true =>
  by_cases k3 : p.fu = 3
  ·simp [c0, c6, k3] at go ⊢
   exact go
  ·simp [c0, c1, c6, k3] at go ⊢
   exact go
structure ajz (ls : List Spn) (lm : List Mem) (lu : List Int) : Prop where
 s : ls.length ≤ 40
 m : lm.length ≤ 100
 u : lu.length ≤ 100
 nm : ∀ x ∈ ls, x.name.size ≤ 200 ∧ x.kz.size ≤ 200
theorem zd.aun {w : World} {p : Pk} {ls : List Spn} {lm : List Mem} {lu : List Int} (h : zd w p ls lm lu) (l : ajz ls lm lu) : oz w p ls lm lu := h.rd (by have := l.s; omega) (by have := l.m; omega) (by have := l.u; omega)
def LiI (W : World) (pb : Nat) (p : Pk) (ls : List Spn) : KL := fun x w1 => ∃ (u : Value) (i : Nat), x = [u, .int .i64 (i : Nat)] ∧ i ≤ ls.length ∧ (∀ j (h : j < ls.length), j < i → ls[j].name.size ≤ 200 ∧ ls[j].kz.size ≤ 200) ∧ St W w1 (gc pb (pkC p).toArray T.a :: [])
theorem axn {w : World} {p : Pk} {ls : List Spn} {lm : List Mem} {lu : List Int} (hp : zd w p ls lm lu) {K : KV} (h : ∀ bb w', (bb = true → ajz ls lm lu) → Fr (fun _ => False) w w' → K (.bool bb) w') : fk P F.dc [pkA p] w K := by
 rw [M.bp.fcall]
 apply M.bp.calls
 unfold M.bp
 refine St.po (St.jc w) fun pb w1 S1 => ?_
 have S1' : St w w1 (gc pb (pkC p).toArray T.a :: []) := S1
 obtain ⟨_, _, _, _, _, _, c8, c9, c10, _⟩ := ik S1'
 have l1 : ∀ w' K, biT P .len #[T.n] T.b [false] [p.sv] w' K = K (.int .i64 ls.length) w' := fun w' K => hp.s.ip (by kernel_rfl) [false]
 have l2 : ∀ w' K, biT P .len #[T.o] T.b [false] [p.mv] w' K = K (.int .i64 lm.length) w' := fun w' K => hp.m.ip (by kernel_rfl) [false]
 have l3 : ∀ w' K, biT P .len #[T.f] T.b [false] [p.iv] w' K = K (.int .i64 lu.length) w' := fun w' K => hp.u.ip (by kernel_rfl) [false]
 have no : ∀ w', Fr (fun _ => False) w w' → K (.bool false) w' := fun w' f => h false w' (fun h => by cases h) f
 by_cases h1 : 40 < ls.length
 ·have h1' : (40 : Int) < ls.length := by omega
  simp [c8, l1, h1']
  exact no _ S1.fr
 have h1' : ¬ (40 : Int) < ls.length := by omega
 by_cases h2 : 100 < lm.length
 ·have h2' : (100 : Int) < lm.length := by omega
  simp [c8, l1, h1', c9, l2, h2']
  exact no _ S1.fr
 have h2' : ¬ (100 : Int) < lm.length := by omega
 by_cases h3 : 100 < lu.length
 ·have h3' : (100 : Int) < lu.length := by omega
  simp [c8, l1, h1', c9, l2, h2', c10, l3, h3']
  exact no _ S1.fr
 have h3' : ¬ (100 : Int) < lu.length := by omega
 simp [c8, l1, h1', c9, l2, h2', c10, l3, h3']
 refine ⟨LiI w pb p ls, fun x _ => ls.length - ms x 1, ⟨_, 0, rfl, Nat.zero_le _, fun j _ h => by omega, S1'⟩, ?_⟩
 rintro x w2 ⟨u, i, rfl, hi, hpre, S2⟩
 unfold M.bp.j2
 obtain ⟨_, _, _, _, _, _, c8, _⟩ := ik S2
 by_cases hil : i < ls.length
 ·have hili : (i : Int) < (ls.length : Int) := by omega
  have hwi : IntKind.i64.wrap ((i : Int) + 1) = ((i + 1 : Nat) : Int) := by rw [ft (by omega) (by omega)]; rfl
  obtain ⟨b, o, cap, hv, _, _, k1⟩ := (hp.fr S2.fr).s.at hil
  have hia : ∀ w' K, iaT P T.n p.sv (.int .i64 (i : Nat)) w' K = K (.pointer (some ⟨b, o + i * 8, none⟩)) w' := fun w' K => by rw [hv]; simp [hil]
  have n6 := k1 6 _ rfl
  have n5 := k1 5 _ rfl
  have lstr : ∀ (s : ByteArray) w' K, biT P .len #[T.al] T.b [false] [.string s] w' K = K (.int .i64 s.size) w' := fun s w' K => atw (by kernel_rfl) [false] s w' K
  simp [c8, l1, hil]
  unfold M.bp.j3
  by_cases q1 : 200 < ls[i].name.size
  ·have q1' : (200 : Int) < (ls[i].name.size : Int) := by omega
   simp [c8, hia, n6, lstr, q1']
   exact no _ S2.fr
  have q1' : ¬ (200 : Int) < (ls[i].name.size : Int) := by omega
  by_cases q2 : 200 < ls[i].kz.size
  ·have q2' : (200 : Int) < (ls[i].kz.size : Int) := by omega
   simp [c8, hia, n6, n5, lstr, q1', q2']
   exact no _ S2.fr
  have q2' : ¬ (200 : Int) < (ls[i].kz.size : Int) := by omega
  simp [c8, hia, n6, n5, lstr, q1', q2', hwi]
  refine ⟨⟨_, i + 1, rfl, by omega, fun j hj hlt => ?_, S2⟩, by simp [ms, gv]; omega⟩
  by_cases hji : j = i
  ·subst hji; omega
  ·exact hpre j hj (by omega)
 ·have hili : ¬ (i : Int) < (ls.length : Int) := by omega
  simp [c8, l1, hil]
  refine h true _ (fun _ => ⟨by omega, by omega, by omega, fun x hx => ?_⟩) S2.fr
  obtain ⟨j, hj, rfl⟩ := List.getElem_of_mem hx
  exact hpre j hj (by omega)
section
variable {i : Nat} {g : Nat → Rg} {val gj : Nat → Int} {prop : Nat → Prop} {tk : List (Nat × Nat)}
end
set_option maxRecDepth 100000
open Go.Eng Go.Proofs.YtfnhoaemapheoaaGreat.Sint
structure RI (s f : Int) (L : Lg) (F : Nat) (D : Dk) (m : iy) : Prop where
 th : ni s f L F D
 ga : vr (gh L.fq)
 set : um (gh L.fq) F m
 le : F ≤ (gh L.fq).length
section
variable {s f : Int} {L : Lg} {F : Nat} {D : Dk} {m : iy}
theorem RI.avz (h : RI s f L F D m) : jr (gh L.fq) = m := ada h.set h.le
theorem RI.ok (h : RI s f L F D m) : ∀ p ∈ m, okE p := by rw [← h.avz]; exact ber h.ga
theorem RI.asc (h : RI s f L F D m) : Asc m := by rw [← h.avz]; exact uz _
theorem bcn (h : RI s f L F D m) {L' : Lg} {D' : Dk} {i : Nat} (g : ni s f L' F D') (e : gh L'.fq = gh L.fq ++ (jy m).take i) : RI s f L' F D' m :=
 ⟨g, by rw [e]; exact aem h.ga h.ok i, by rw [e]; exact afj h.set h.le h.ok i, by rw [e, List.length_append]; have := h.le; omega⟩
end
end Go.Proofs.YtfnhoaemapheoaaGreat
