/-
  Names of spans: which are right. No condition.
-/
import Derived.Test.YtfnhoaemapheoaaGreatM
import Derived.Test.YtfnhoaemapheoaaGreatFacts
import Derived.Test.YtfnhoaemapheoaaGreatZEngSl
import Derived.Test.YtfnhoaemapheoaaGreatRows
import Derived.Laws.StructEq
import Derived.Test.YtfnhoaemapheoaaGreatZMs0
import Derived.Sort.AssemblyPlain
set_option maxRecDepth 100000
namespace Go.Proofs.YtfnhoaemapheoaaGreat
open Go.Eng
@[simp] theorem aoh : abf P T.ah = true := kr
@[simp] theorem bmj (ty : TypeId) (cs : List Bool) (s : ByteArray) (w : World) (K : KV) : biT P .len #[T.ah] ty cs [.string s] w K = K (.int .i64 s.size) w := ayg aoh cs s w K
theorem ari (s : ByteArray) : s.toList.isEmpty = decide (s.size = 0) := by
 have h : s.size = s.data.toList.length := Array.length_toList.symm
 rw [ByteArray.toList_eq, h]
 cases s.data.toList <;> simp
def xk (s p : ByteArray) : Bool := decide (p.size ≤ s.size) && ((s.extract 0 p.size).toList == p.toList)
theorem avf {w : World} (s p : ByteArray) {K : KV} (h : K (.bool (xk s p)) w) : ku P F.dy [.string s, .string p] w K := by
 apply M.dk.calls
 unfold M.dk
 rw [M.bl.fcall]
 apply M.bl.calls
 unfold M.bl
 unfold xk at h
 by_cases hl : p.size ≤ s.size
 ·have hl' : (p.size : Int) ≤ s.size := by omega
  have hsl : ∀ K, slT P T.ah (.string s) none (some (.int .i64 (p.size : Int))) none w K = K (.string (s.extract 0 p.size)) w := fun K => aug aoh (.inl ⟨rfl, rfl⟩) (.inr ⟨_, rfl⟩) (Nat.zero_le _) hl w K
  simp [hl, hsl, agc] at h ⊢
  exact h
 ·have hl' : ¬ (p.size : Int) ≤ s.size := by omega
  simp [hl] at h ⊢
  exact h
def yc : ByteArray := ⟨#[239, 191, 189]⟩
def acp (s : ByteArray) (i : Nat) : Bool := decide ((Utf8.decode s i).1 < 32) || ((decide (127 ≤ (Utf8.decode s i).1) && decide ((Utf8.decode s i).1 ≤ 159)) || (decide ((Utf8.decode s i).1 = 65533) && !xk (s.extract i s.size) yc))
def uv (s : ByteArray) (i : Nat) : Bool :=
 if h : i < s.size then !acp s i && uv s (i + (Utf8.decode s i).2) else true
termination_by s.size - i
decreasing_by have := ahu s i; omega
def qi (s : ByteArray) : Int := if s.size = 0 ∨ 32 < s.size then 5 else if uv s 0 = true then 0 else 5
def bak (w : World) (s : ByteArray) : KL := fun x w1 => ∃ (pos : Nat), w1.heap[w.heap.size]? = some (.stringIter s pos) ∧ Fz w w1 ∧ uv s pos = uv s 0
def aji (s : ByteArray) (it : Nat) (w : World) : Nat := match w.heap[it]? with
 | some (.stringIter _ pos) => s.size - pos
 | _ => 0
theorem axr {w : World} (s : ByteArray) {K : KV} (h : ∀ w', Fz w w' → K (.int .i64 (qi s)) w') : ku P F.fi [.string s] w K := by
 apply M.cd.calls
 unfold M.cd
 simp only [ib]
 have hemp : s.toList.isEmpty = decide (s.size = 0) := ari s
 unfold qi at h
 by_cases h0 : s.size = 0
 ·simp [agc, hemp, h0] at h ⊢
  exact h w (Fr.refl _ _)
 ·by_cases h1 : 32 < s.size
  ·have h1' : (32 : Int) < s.size := by omega
   simp [agc, hemp, h0, h1, h1'] at h ⊢
   exact h w (Fr.refl _ _)
  ·have h1' : ¬ (32 : Int) < s.size := by omega
   simp [agc, hemp, h0, h1, h1'] at h ⊢
   unfold M.cd.j0
   simp only [ib]
   rw [bmr (ww aoh)]
   refine ⟨bak w s, fun _ w1 => aji s w.heap.size w1, ⟨0, by rw [iw, if_pos rfl], (Fr.refl _ w).alloc _, rfl⟩, ?_⟩
   rintro x w1 ⟨pos, hit, hf, hp⟩
   refine bms hit _ (fun he => ?_) fun hlt w2 hit2 hf2 => ?_
   ·have hr : uv s 0 = true := by rw [← hp]; unfold uv; rw [dif_neg he]
    have e0 : ∀ w K, exT P (.tuple #[.bool false]) 0 w K = K (.bool false) w := fun _ _ => rfl
    simp [e0]
    have := h w1 hf
    simpa [hr] using this
   ·simp
    unfold M.cd.j3
    simp
    have hr : uv s pos = (!acp s pos && uv s (pos + (Utf8.decode s pos).2)) := by
     conv => lhs; unfold uv
     rw [dif_pos hlt]
    have F2 : Fz w w2 := hf.lq hf2 fun g hg h' => by omega
    have hbad : acp s pos = true → K (.int .i64 5) w2 := fun hb => by
     rw [hb, hp] at hr
     have := h w2 F2
     simpa [hr] using this
    have hgood : acp s pos = false → ∀ xs, bak w s xs w2 ∧ aji s w.heap.size w2 < aji s w.heap.size w1 := fun hb xs => by
     rw [hb, hp] at hr
     refine ⟨⟨_, hit2, F2, by rw [hr]; rfl⟩, ?_⟩
     have := ahu s pos
     simp only [aji, hit, hit2]; omega
    unfold acp at hbad hgood
    generalize hc : (Utf8.decode s pos).1 = c at *
    clear hc
    have hsl : ∀ K, slT P T.ah (.string s) (some (.int .i64 (pos : Int))) none none w2 K = K (.string (s.extract pos s.size)) w2 := fun K => aug aoh (.inr ⟨_, rfl⟩) (.inl ⟨rfl, rfl⟩) (by omega) (Nat.le_refl _) w2 K
    have j4 : ∀ (b : Bool) (t14 : Value), b = (decide (c < 32) || (decide (127 ≤ c) && decide (c ≤ 159))) → M.cd.j4 [.bool b] (.int .i32 c) (.string s) (.int .i64 pos) (fun x' w' => bak w s x' w' ∧ aji s w.heap.size w' < aji s w.heap.size w1) t14 x w2 K := by
     intro b t14 hb
     unfold M.cd.j4
     cases b with
     | true => simp at hb ⊢; exact hbad (by simp; omega)
     | false =>
      by_cases he : c = 65533
      ·have he' : (c : Int) = 65533 := by omega
       simp [he', hsl]
       rw [M.dk.fcall]
       refine avf _ _ ?_
       have hx : xk (s.extract pos s.size) ⟨#[239, 191, 189]⟩ = xk (s.extract pos s.size) yc := rfl
       rw [hx]
       cases hq : xk (s.extract pos s.size) yc with
       | true => simp; exact hgood (by simp [he, hq]) _
       | false => simp; exact hbad (by simp [he, hq])
      ·have he' : ¬ (c : Int) = 65533 := by omega
       simp [he']
       refine hgood ?_ _
       have : (decide (c < 32) || (decide (127 ≤ c) && decide (c ≤ 159))) = false := hb.symm
       simp [he] at this ⊢
       exact this
    by_cases h32 : c < 32
    ·have h32' : (c : Int) < 32 := by omega
     simp [h32']
     exact j4 true _ (by simp [h32])
    ·have h32' : ¬ (c : Int) < 32 := by omega
     by_cases h127 : 127 ≤ c
     ·have h127' : (127 : Int) ≤ c := by omega
      by_cases h159 : c ≤ 159
      ·have h159' : (c : Int) ≤ 159 := by omega
       simp [h32', h127', h159']
       exact j4 true _ (by simp [h32, h127, h159])
      ·have h159' : ¬ (c : Int) ≤ 159 := by omega
       simp [h32', h127', h159']
       exact j4 false _ (by simp [h32, h127, h159])
     ·have h127' : ¬ (127 : Int) ≤ c := by omega
      simp [h32', h127']
      exact j4 false _ (by simp [h32, h127])
set_option maxRecDepth 100000
structure Spn where
 iu : Int
 id : Int
 ou : Int
 ji : Int
 len : Int
 kf : ByteArray
 name : ByteArray
 ru : Bool
def ja (s : Spn) : List Value := [.int .u64 s.iu, .int .u64 s.id, .int .u64 s.ou, .int .u64 s.ji, .int .u64 s.len, .string s.kf, .string s.name, .bool s.ru]
def ko (s : Spn) : Value := .agg #[.int .u64 s.iu, .int .u64 s.id, .int .u64 s.ou, .int .u64 s.ji, .int .u64 s.len, .string s.kf, .string s.name, .bool s.ru]
theorem lk (s : Spn) : (ja s).length = 8 := rfl
theorem og (s : Spn) : ∀ u ∈ ja s, kq u = true := fun u hu => by
 simp only [ja, List.mem_cons, List.not_mem_nil, or_false] at hu
 rcases hu with rfl | rfl | rfl | rfl | rfl | rfl | rfl | rfl <;> rfl
@[simp] theorem bwi (t1 t2 ty : TypeId) (cs : List Bool) (k : IntKind) (x y : Int) (w : World) (K : KV) : biT P .max #[t1, t2] ty cs [.int k x, .int k y] w K = K (.int k (max x y)) w := by
 have : (if x < y then y else x) = max x y := by split <;> omega
 simp [biT, my, builtin, Builtin.max_, Builtin.max2, Sem.run_bind, Result.andThen, Sem.run_pure, this]
def zh (k : Int) : List Value := [.int .i64 k]
def orK (l : List Int) : Int := (l.find? fun k => !decide (k = 0)).getD 0
def OrI (w : World) (l : List Int) : KL := fun x w1 => ∃ (a b : Value) (i : Nat), x = [a, b, .int .i64 (i : Nat)] ∧ w1 = w ∧ i ≤ l.length ∧ ∀ (j : Nat) k, l[j]? = some k → j < i → k = 0
theorem bot {w : World} {v : Value} {l : List Int} (hs : Sl w 1 zh v l) (hlen : l.length ≤ 1000) {K : KV} (h : K (.int .i64 (orK l)) w) : ku P F.ew [v] w K := by
 apply M.cp.calls
 unfold M.cp
 simp only [ib]
 rw [hs.jb (by simp)]
 refine ⟨OrI w l, fun x _ => l.length - ms x 2, ⟨_, _, 0, rfl, rfl, Nat.zero_le _, fun j k _ h => by omega⟩, ?_⟩
 rintro x w1 ⟨a, b, i, rfl, rfl, hi, hz⟩
 have gv2 : gv [a, b, .int .i64 (i : Int)] 2 = .int .i64 (i : Int) := rfl
 simp only [gv2]
 by_cases hil : i < l.length
 ·obtain ⟨bb, o, cap, rfl, hb, _, hr⟩ := hs.at hil
  have e0 := hr 0 _ rfl
  simp only [Nat.mul_one, Nat.add_zero] at e0
  have hw : IntKind.i64.wrap ((i : Int) + 1) = ((i + 1 : Nat) : Int) := by rw [ig]; rfl
  simp [hil]
  unfold M.cp.j2
  simp only [ib, gv2]
  by_cases hk : l[i] = 0
  ·simp [hil, e0, hk, hw]
   refine ⟨⟨_, _, i + 1, rfl, rfl, by omega, fun j k hj hlt => ?_⟩, by simp [ms, gv]; omega⟩
   by_cases hji : j = i
   ·subst hji
    rw [List.getElem?_eq_getElem hil] at hj
    cases hj; exact hk
   ·exact hz j k hj (by omega)
  ·simp [hil, e0, hk]
   have : orK l = l[i] := by
    unfold orK
    have : l.find? (fun k => !decide (k = 0)) = some l[i] := by
     rw [List.find?_eq_some_iff_getElem]
     refine ⟨by simpa using hk, i, hil, rfl, fun j hj => ?_⟩
     have := hz j _ (List.getElem?_eq_getElem (by omega)) hj
     simp [this]
    rw [this]; rfl
   rw [this] at h; exact h
 ·simp [hil]
  have : orK l = 0 := by
   unfold orK
   have : l.find? (fun k => !decide (k = 0)) = none := by
    rw [List.find?_eq_none]
    intro k hk
    obtain ⟨j, hj, rfl⟩ := List.mem_iff_getElem.1 hk
    have := hz j _ (List.getElem?_eq_getElem hj) (by omega)
    simp [this]
   rw [this]; rfl
  rw [this] at h; exact h
def ly (s : Spn) : Int := if s.iu = 0 ∨ s.id = 0 ∨ 1099511627776 < max s.ji s.len then 1 else orK [qi s.kf, qi s.name]
theorem akk {w : World} (s : Spn) {K : KV} (h : ∀ w', Fz w w' → K (.int .i64 (ly s)) w') : ku P F.fb [ko s] w K := by
 apply M.de.calls
 unfold M.de ko
 simp only [ib, xm, bbw]
 generalize hwa : w.alloc (.cells #[.int .u64 s.iu, .int .u64 s.id, .int .u64 s.ou, .int .u64 s.ji, .int .u64 s.len, .string s.kf, .string s.name, .bool s.ru] T.e) = wa
 have hb : wa.heap[w.heap.size]? = some (.cells #[.int .u64 s.iu, .int .u64 s.id, .int .u64 s.ou, .int .u64 s.ji, .int .u64 s.len, .string s.kf, .string s.name, .bool s.ru] T.e (0, 0)) := by rw [← hwa, iw, if_pos rfl]
 have hf : Fz w wa := by rw [← hwa]; exact (Fr.refl _ w).alloc _
 have c0 := ie hb 0
 have c1 := ie hb 1
 have c3 := ie hb 3
 have c4 := ie hb 4
 have c5 := ie hb 5
 have c6 := ie hb 6
 simp at c0 c1 c3 c4 c5 c6
 unfold ly at h
 by_cases h0 : s.iu = 0
 ·simp [c0, h0] at h ⊢
  exact h wa hf
 ·by_cases h1 : s.id = 0
  ·simp [c0, c1, h0, h1] at h ⊢
   exact h wa hf
  ·by_cases h2 : 1099511627776 < max s.ji s.len
   ·simp [c0, c1, c3, c4, h0, h1, h2] at h ⊢
    exact h wa hf
   ·simp [c0, c1, c3, c4, h0, h1, h2] at h ⊢
    unfold M.de.j0
    simp [c5, c6]
    rw [M.cd.fcall]
    refine axr _ fun w2 f2 => ?_
    have f2' : Fz wa w2 := ⟨f2.size, f2.ke, f2.tape, f2.os, f2.output⟩
    have d6 : ic w2 w.heap.size 6 = some (.string s.name) := by rw [tz (f2'.ke _ (qa hb) fun h => h)]; exact c6
    simp [d6]
    rw [M.cd.fcall]
    refine axr _ fun w3 f3 => ?_
    simp
    rw [M.cp.fcall]
    have hsl : Sl (w3.alloc (.cells #[.int .i64 (qi s.kf), .int .i64 (qi s.name)] T.w)) 1 zh (.slice (some ⟨w3.heap.size, 0, none⟩) 2 2) [qi s.kf, qi s.name] := by
     refine ⟨_, 2, rfl, Nat.le_refl _, by decide, fun i x hi => ⟨_, 0, rfl, by simp, fun j u hu => ?_⟩⟩
     rw [amh rfl]
     match i with
     | 0 => simp at hi; subst hi; match j with
      | 0 => simpa [zh] using hu
      | j + 1 => simp [zh] at hu
     | 1 => simp at hi; subst hi; match j with
      | 0 => simpa [zh] using hu
      | j + 1 => simp [zh] at hu
     | i + 2 => simp at hi
    exact bot hsl (by simp) (h _ (((hf.trans f2').trans f3).alloc _))
theorem bjb {t : TypeId} (h : aer P t = false) {xs : Array Value} {i : Nat} {v : Value} (hv : xs[i]? = some v) (w : World) : (part t xs i).run P w = .ok v w := by
 unfold part
 rw [Sem.run_bind, bfa h]
 simp [Result.andThen, hv, Sem.run_pure]
theorem eqF {d : Nat} {xs ys : Array Value} {f : Field} {fs : List Field} {w : World} {u v : Value} {b c : Bool} (hn : f.name ≠ "_") (h : aer P f.type = false) (hx : xs[f.offset]? = some u) (hy : ys[f.offset]? = some v) (he : (Op.equalIn d f.type u v).run P w = .ok b w) (hr : (Op.eqFields d xs ys fs).run P w = .ok c w) : (Op.eqFields d xs ys (f :: fs)).run P w = .ok (b && c) w := by
 simp only [Op.eqFields]
 rw [if_pos hn]
 simp only [Sem.run_bind, bjb h hx, bjb h hy, he, Result.andThen]
 cases b
 ·rfl
 ·simpa using hr
def rt (m : Mem) : Value := .agg #[.int .u64 m.id, .int .u64 m.inc, .int .i64 m.st]
abbrev SlM (w : World) (v : Value) (l : List Mem) : Prop := Sl w 3 adr v l
theorem ldM {w : World} {b i : Nat} {m : Mem} (h : ∀ k v, (adr m)[k]? = some v → ic w b (i + k) = some v) (K : KV) : ldN P 3 b i w K = K (rt m) w := po (adr m) 3 rfl h K
def tm : Int → List Mem → Bool
 | _, [] => true
 | mf, m :: l => decide (mf < m.id) && tm m.id l
def RsI (W : World) (l : List Mem) : KL := fun x w1 => ∃ (u0 u1 : Value) (mf : Int) (i : Nat), x = [u0, u1, .int .u64 mf, .int .i64 (i : Nat)] ∧ i ≤ l.length ∧ tm 0 l = tm mf (l.drop i) ∧ Fz W w1
theorem bcv {w : World} (m : Mem) {K : KV} (h : ∀ w', Fz w w' → K (.int .u64 m.id) w') : nr P (.func (.func F.dj) #[] #[]) [rt m] w K := by
 rw [M.dx.rcall]
 apply M.dx.calls
 unfold M.dx rt
 simp
 have c0 : ic (w.alloc (.cells #[.int .u64 m.id, .int .u64 m.inc, .int .i64 m.st] T.r)) w.heap.size 0 = some (.int .u64 m.id) := by rw [ie (by rw [iw, if_pos rfl])]; rfl
 simp [c0]
 exact h _ ((Fr.refl _ w).alloc _)
theorem bkn {w : World} {v : Value} {l : List Mem} (hs : SlM w v l) (hlen : l.length ≤ 1000000) {K : KV} (h : ∀ w', Fz w w' → K (.bool (tm 0 l && (decide (0 < l.length) && decide (l.length ≤ 16)))) w') :
  gr P F.cf [v, .int .i64 16, .func (.func F.dj) #[] #[]] w K := by
 rw [M.ag.fcall]
 apply M.ag.calls
 unfold M.ag
 simp only [ib]
 rw [hs.jb (by kernel_rfl)]
 refine ⟨RsI w l, fun x _ => l.length - ms x 3, ⟨_, _, 0, 0, rfl, Nat.zero_le _, rfl, Fr.refl _ _⟩, ?_⟩
 rintro x w1 ⟨u0, u1, mf, i, rfl, hi, hr, f1⟩
 have q2 : gv [u0, u1, .int .u64 mf, .int .i64 (i : Nat)] 2 = .int .u64 mf := rfl
 have q3 : gv [u0, u1, .int .u64 mf, .int .i64 (i : Nat)] 3 = .int .i64 (i : Nat) := rfl
 have hs1 := hs.fr f1 fun _ _ _ h => h
 simp only [q3]
 by_cases hil : i < l.length
 ·have hil' : (i : Int) < l.length := by omega
  simp [hil']
  unfold M.ag.j2
  obtain ⟨b, o, cap, hv, hb, _, hc⟩ := hs1.at hil
  have hld : ∀ K, ldN P 3 b (o + i * 3) w1 K = K (rt l[i]) w1 := fun K => ldM hc K
  have hwi : IntKind.i64.wrap ((i : Int) + 1) = ((i + 1 : Nat) : Int) := by rw [ig]; rfl
  have hdrop : l.drop i = l[i] :: l.drop (i + 1) := List.drop_eq_getElem_cons hil
  rw [hdrop] at hr
  generalize l[i] = m at *
  subst hv
  simp [q2, q3, hil, hld]
  have e1 : rt m = .agg #[.int .u64 m.id, .int .u64 m.inc, .int .i64 m.st] := rfl
  rw [e1]
  simp
  have hba : (w1.alloc (.cells #[.int .u64 0, .int .u64 0, .int .i64 0] T.r)).heap[w1.heap.size]? = some (.cells #[.int .u64 0, .int .u64 0, .int .i64 0] T.r (0, 0)) := by rw [iw, if_pos rfl]
  refine km (vs := [.int .u64 m.id, .int .u64 m.inc, .int .i64 m.st]) hba rfl (by simp) fun w2 b2 f2 => ?_
  have f2' : Fz w1 w2 := ((Fr.refl _ w1).alloc _).lq f2 fun y hy he => by subst he; omega
  have hld2 : ∀ {w'}, Fz w2 w' → ∀ K, ldN P 3 w1.heap.size 0 w' K = K (rt m) w' := fun f K => by
   have b3 := f.heap b2 fun h => h
   exact ldM (m := m) (i := 0) (fun k v hk => by rw [ie b3, Nat.zero_add, List.getElem?_toArray]; exact hk) K
  rw [hld2 (Fr.refl _ _)]
  refine bcv m fun w3 f3 => ?_
  simp
  by_cases hle : m.id ≤ mf
  ·have hlt : ¬ mf < m.id := by omega
   simp [hle]
   have hf : tm 0 l = false := by rw [hr]; unfold tm; simp [hlt]
   rw [hf] at h
   exact h w3 ((f1.trans f2').trans f3)
  ·have hlt : mf < m.id := by omega
   simp [hle]
   rw [hld2 f3]
   refine bcv m fun w4 f4 => ?_
   simp [hwi]
   refine ⟨⟨_, _, m.id, i + 1, rfl, by omega, ?_, ((f1.trans f2').trans f3).trans f4⟩, by simp [ms, gv]; omega⟩
   rw [hr]
   show (decide (mf < m.id) && tm m.id (l.drop (i + 1))) = _
   simp [hlt]
 ·have hil' : ¬ (i : Int) < l.length := by omega
  have hr1 : tm 0 l = true := by rw [hr, List.drop_of_length_le (by omega)]; rfl
  simp [hil']
  unfold M.ag.j0
  rw [hs1.jb (by kernel_rfl)]
  rw [hr1] at h
  by_cases h0 : 0 < l.length
  ·have h0' : (0 : Int) < l.length := by omega
   have hx : decide ((l.length : Int) ≤ 16) = decide (l.length ≤ 16) := by
    by_cases h16 : l.length ≤ 16
    ·rw [decide_eq_true h16, decide_eq_true (by omega)]
    ·rw [decide_eq_false h16, decide_eq_false (by omega)]
   simp [h0]
   rw [hs1.jb (by kernel_rfl)]
   simp
   rw [hx]
   have := h w1 f1
   simpa [h0] using this
  ·simp [h0]
   have := h w1 f1
   simpa [h0] using this
def bpt (W : World) (p : Mem → Bool) (l : List Mem) : KL := fun x w1 => ∃ (u0 u1 : Value) (i : Nat), x = [u0, u1, .int .i64 (i : Nat)] ∧ i ≤ l.length ∧ (∀ j (h : j < l.length), j < i → p l[j] = false) ∧ Fz W w1
theorem bhw {w : World} {v fv : Value} {l : List Mem} {p : Mem → Bool} (hs : SlM w v l) (hlen : l.length ≤ 1000000) (hp : ∀ m w1, Fz w w1 → ∀ {K : KV}, (∀ w', Fz w1 w' → K (.bool (p m)) w') → nr P fv [rt m] w1 K) {K : KV}
  (h1 : ∀ w' i (hi : i < l.length), p l[i] = true → (∀ j (h : j < l.length), j < i → p l[j] = false) → Fz w w' → K (.int .i64 (i : Nat)) w')
  (h0 : ∀ w', (∀ m ∈ l, p m = false) → Fz w w' → K (.int .i64 (-1)) w') : gr P F.ay [v, fv] w K := by
 rw [M.q.fcall]
 apply M.q.calls
 unfold M.q
 simp only [ib]
 rw [hs.jb (by kernel_rfl)]
 refine ⟨bpt w p l, fun x _ => l.length - ms x 2, ⟨_, _, 0, rfl, Nat.zero_le _, fun _ _ h => by omega, Fr.refl _ _⟩, ?_⟩
 rintro x w1 ⟨u0, u1, i, rfl, hi, hz, f1⟩
 have q2 : gv [u0, u1, .int .i64 (i : Nat)] 2 = .int .i64 (i : Nat) := rfl
 have hs1 := hs.fr f1 fun _ _ _ h => h
 simp only [q2]
 by_cases hil : i < l.length
 ·have hil' : (i : Int) < l.length := by omega
  simp [hil']
  unfold M.q.j2
  obtain ⟨b, o, cap, hv, hb, _, hc⟩ := hs1.at hil
  have hld : ∀ K, ldN P 3 b (o + i * 3) w1 K = K (rt l[i]) w1 := fun K => ldM hc K
  have hwi : IntKind.i64.wrap ((i : Int) + 1) = ((i + 1 : Nat) : Int) := by rw [ig]; rfl
  subst hv
  simp [q2, hil, hld]
  refine hp l[i] w1 f1 fun w2 f2 => ?_
  cases hpi : p l[i] with
  | true => simp; exact h1 w2 i hil hpi hz (f1.trans f2)
  | false =>
   simp [hwi]
   refine ⟨⟨_, _, i + 1, rfl, by omega, fun j hj hji => ?_, f1.trans f2⟩, by simp [ms, gv]; omega⟩
   by_cases hje : j = i
   ·subst hje; exact hpi
   ·exact hz j hj (by omega)
 ·have hil' : ¬ (i : Int) < l.length := by omega
  simp [hil']
  refine h0 w1 (fun m hm => ?_) f1
  obtain ⟨j, hj, rfl⟩ := List.getElem_of_mem hm
  exact hz j hj (by omega)
def qz (m : Mem) : Bool := decide (m.inc = 0) || (decide (m.st < 0) || decide (2 < m.st))
theorem bls {w : World} (m : Mem) {K : KV} (h : ∀ w', Fz w w' → K (.bool (qz m)) w') : nr P (.func (.func F.di) #[] #[]) [rt m] w K := by
 rw [M.dw.rcall]
 apply M.dw.calls
 unfold M.dw rt
 simp
 have hb : (w.alloc (.cells #[.int .u64 m.id, .int .u64 m.inc, .int .i64 m.st] T.r)).heap[w.heap.size]? = some (.cells #[.int .u64 m.id, .int .u64 m.inc, .int .i64 m.st] T.r (0, 0)) := by rw [iw, if_pos rfl]
 have c1 : ic (w.alloc (.cells #[.int .u64 m.id, .int .u64 m.inc, .int .i64 m.st] T.r)) w.heap.size 1 = some (.int .u64 m.inc) := by rw [ie hb]; rfl
 have c2 : ic (w.alloc (.cells #[.int .u64 m.id, .int .u64 m.inc, .int .i64 m.st] T.r)) w.heap.size 2 = some (.int .i64 m.st) := by rw [ie hb]; rfl
 have fin := h _ ((Fr.refl _ w).alloc (.cells #[.int .u64 m.id, .int .u64 m.inc, .int .i64 m.st] T.r))
 unfold qz at fin
 generalize w.alloc (.cells #[.int .u64 m.id, .int .u64 m.inc, .int .i64 m.st] T.r) = w1 at *
 by_cases h1 : m.inc = 0
 ·simp [c1, c2, h1] at fin ⊢; exact fin
 by_cases h2 : m.st < 0
 ·simp [c1, c2, h1, h2] at fin ⊢; exact fin
 simp [c1, c2, h1, h2] at fin ⊢; exact fin
theorem aut {w : World} {v : Value} {l : List Mem} (hs : SlM w v l) (hlen : l.length ≤ 1000000) {K : KV} (h : ∀ w', Fz w w' → K (.bool (l.any qz)) w') : gr P F.av [v, .func (.func F.di) #[] #[]] w K := by
 rw [M.aj.fcall]
 apply M.aj.calls
 unfold M.aj
 refine bhw (p := qz) hs hlen (fun m w1 _ _ hK => bls m hK) (fun w' i hi hpi _ f => ?_) fun w' hn f => ?_
 ·have : l.any qz = true := List.any_eq_true.2 ⟨l[i], List.getElem_mem hi, hpi⟩
  rw [this] at h
  have h0 : (0 : Int) ≤ (i : Nat) := by omega
  simp [h0]
  exact h w' f
 ·have : l.any qz = false := by
   rw [List.any_eq_false]
   intro m hm; rw [hn m hm]; simp
  rw [this] at h
  simp
  exact h w' f
theorem apm {w : World} {v : Value} {l : List Mem} (hs : SlM w v l) (hlen : l.length ≤ 1000000) {K : KV} (h : ∀ w' v', SlM w' v' l → (∀ x, v'.ownBlock = some x → w.heap.size ≤ x) → Fz w w' → K v' w') : gr P F.aw [v] w K := by
 rw [M.az.fcall]
 apply M.az.calls
 unfold M.az
 simp only [ib]
 have hs' := hs
 obtain ⟨a, cap, rfl, _⟩ := hs'
 cases a with
 | none =>
  simp
  have hz : l = [] := by
   obtain ⟨a', cap', hv, _, _, h3⟩ := hs
   cases l with
   | nil => rfl
   | cons x l =>
    obtain ⟨b, o, ha, _⟩ := h3 0 x rfl
    injection hv with h1 _ _
    rw [← h1] at ha; cases ha
  subst hz
  exact h w _ Sl.nil (fun x hx => by simp [Value.ownBlock] at hx) (Fr.refl _ _)
 | some a =>
  simp
  have f0 : Fz w (w.alloc (.cells #[] T.r)) := (Fr.refl _ w).alloc _
  refine rq et.k auk bhc (base := w.heap.size) (Ow.empty (by rw [iw, if_pos rfl]) (Nat.le_refl _)) (hs.fr f0 fun _ _ _ h => h) (by simp; omega) (by decide) (by simp) _ fun v3 w3 o3 f3 g3 => ?_
  rw [List.nil_append] at o3
  exact h w3 v3 (o3.sl auk) (fun x hx => (o3.lt hx).1) (f0.lq f3 fun b hb hv => by simp [Value.ownBlock] at hv; omega)
theorem bdj (x y : Mem) (w : World) : (Op.equalIn 10000 T.r (rt x) (rt y)).run P w = .ok (x.id == y.id && (x.inc == y.inc && (x.st == y.st))) w := by
 have hS : P.underlying T.r = some (.struct (P.fieldsOf T.r)) := by kernel_rfl
 have hp : P.stoodInHeld T.r = false := by kernel_rfl
 unfold rt
 rw [show (10000 : Nat) = 9999 + 1 from rfl, run_equalIn_agg w 9999 T.r _ _ hS hp]
 simp only [Program.fieldsOf, show P.underlying T.r = _ from Tryz.underlying139]
 have u22 : P.underlying T.g = some (.int .u64) := by kernel_rfl
 have u3 : P.underlying T.c = some (.int .i64) := by kernel_rfl
 have a22 : aer P T.g = false := by kernel_rfl
 have a3 : aer P T.c = false := by kernel_rfl
 refine eqF (by decide) a22 rfl rfl (run_equalIn_int w 9998 T.g _ _ _ _ u22) ?_
 refine eqF (by decide) a22 rfl rfl (run_equalIn_int w 9998 T.g _ _ _ _ u22) ?_
 have := eqF (fs := []) (d := 9999) (xs := #[.int .u64 x.id, .int .u64 x.inc, .int .i64 x.st]) (ys := #[.int .u64 y.id, .int .u64 y.inc, .int .i64 y.st]) (f := { name := "State", type := T.c, offset := 2, embedded := false, tag := "", pkgPath := "", byteOffset := 16 }) (w := w) (c := true) (by decide) a3 rfl rfl (run_equalIn_int w 9998 T.c _ _ _ _ u3) rfl
 simpa using this
theorem bob (x y : Mem) : (x.id == y.id && (x.inc == y.inc && (x.st == y.st))) = decide (x = y) := by
 obtain ⟨a, b, c⟩ := x
 obtain ⟨a', b', c'⟩ := y
 simp only [Mem.mk.injEq]
 by_cases h1 : a = a' <;> by_cases h2 : b = b' <;> by_cases h3 : c = c' <;> simp [h1, h2, h3]
theorem bdy (rx ry : Operand) (x y : Mem) (w : World) (K : KV) : ij P .neq T.r rx ry (rt x) (rt y) w K = K (.bool !(decide (x = y))) w := by
 have hm : P.eqGuardType P.depth T.r = false := by kernel_rfl
 have hg := run_eqGuard_agg (P := P) w .neq T.r rx ry #[.int .u64 x.id, .int .u64 x.inc, .int .i64 x.st] #[.int .u64 y.id, .int .u64 y.inc, .int .i64 y.st] hm
 have he := bdj x y w
 rw [bob] at he
 unfold ij jv
 unfold rt at he ⊢
 rw [Sem.run_bind, hg]
 simp only [Result.andThen]
 rw [run_neq_struct, he]
 rfl
def EmI (W : World) (l1 l2 : List Mem) : KL := fun x w1 => ∃ (u0 u1 : Value) (i : Nat), x = [u0, u1, .int .i64 (i : Nat)] ∧ i ≤ l1.length ∧ (∀ j, j < i → l1[j]? = l2[j]?) ∧ Fz W w1
theorem bfc {w : World} {v1 v2 : Value} {l1 l2 : List Mem} (s1 : SlM w v1 l1) (s2 : SlM w v2 l2) (hlen : l1.length ≤ 1000000) {K : KV} (h : ∀ w', Fz w w' → K (.bool (decide (l1 = l2))) w') : gr P F.bc [v1, v2] w K := by
 rw [M.h.fcall]
 apply M.h.calls
 unfold M.h
 simp only [ib]
 rw [s1.jb (by kernel_rfl), s2.jb (by kernel_rfl)]
 by_cases hne : l1.length = l2.length
 ·simp [hne]
  unfold M.h.j0
  simp only [ib]
  rw [s1.jb (by kernel_rfl)]
  refine ⟨EmI w l1 l2, fun x _ => l1.length - ms x 2, ⟨_, _, 0, rfl, Nat.zero_le _, fun _ h => by omega, Fr.refl _ _⟩, ?_⟩
  rintro x w1 ⟨u0, u1, i, rfl, hi, hz, f1⟩
  have q2 : gv [u0, u1, .int .i64 (i : Nat)] 2 = .int .i64 (i : Nat) := rfl
  have t1 := s1.fr f1 fun _ _ _ h => h
  have t2 := s2.fr f1 fun _ _ _ h => h
  simp only [q2]
  by_cases hil : i < l1.length
  ·have hil' : (i : Int) < l1.length := by omega
   have hil2 : i < l2.length := by omega
   simp [hil']
   unfold M.h.j3
   obtain ⟨b1, o1, cap1, hv1, _, _, e1⟩ := (s1.fr (f1.dr 1) fun _ _ _ h => h).at hil
   obtain ⟨b2, o2, cap2, hv2, _, _, e2⟩ := (s2.fr (f1.dr 1) fun _ _ _ h => h).at hil2
   have hld1 : ∀ K, ldN P 3 b1 (o1 + i * 3) (Eng.dr w1 1) K = K (rt l1[i]) (Eng.dr w1 1) := fun K => ldM e1 K
   have hld2 : ∀ K, ldN P 3 b2 (o2 + i * 3) (Eng.dr w1 1) K = K (rt l2[i]) (Eng.dr w1 1) := fun K => ldM e2 K
   have hwi : IntKind.i64.wrap ((i : Int) + 1) = ((i + 1 : Nat) : Int) := by rw [ig]; rfl
   subst hv1 hv2
   simp [q2, hil, hil2, hld1, hld2, bdy]
   by_cases heq : l1[i] = l2[i]
   ·simp [heq, hwi]
    refine ⟨⟨_, _, i + 1, rfl, by omega, fun j hj => ?_, f1.dr 1⟩, by simp [ms, gv]; omega⟩
    by_cases hji : j = i
    ·subst hji
     rw [List.getElem?_eq_getElem hil, List.getElem?_eq_getElem hil2, heq]
    ·exact hz j (by omega)
   ·simp [heq]
    have hf : decide (l1 = l2) = false := decide_eq_false fun h => heq (by subst h; rfl)
    rw [hf] at h
    exact h _ (f1.dr 1)
  ·have hil' : ¬ (i : Int) < l1.length := by omega
   simp [hil']
   have hf : decide (l1 = l2) = true := decide_eq_true (List.ext_getElem? fun j => by
    by_cases hj : j < i
    ·exact hz j hj
    ·rw [List.getElem?_eq_none (by omega), List.getElem?_eq_none (by omega)])
   rw [hf] at h
   exact h _ f1
 ·have hf : decide (l1 = l2) = false := decide_eq_false fun h => hne (by rw [h])
  rw [hf] at h
  have hne' : ¬ (l1.length : Int) = l2.length := by omega
  simp [hne']
  exact h w (Fr.refl _ _)
theorem aty (v : Value) (w : World) (K : KV) : taT P (.iface T.u v) T.au T.s true w K = K (.tuple #[.agg #[.int .u64 0, .bool false, .slice none 0 0], .bool false]) w := kr
theorem ajp (b : Nat) (w : World) (K : KV) : pp P T.a (.pointer (some ⟨b, 0, none⟩)) w K = ldN P 11 b 0 w K := kr
def agj (v : Value) : List Value := [.int .i64 3, .int .u64 0, .int .u64 0, .int .u64 0, .int .u64 0, .int .u64 0, .int .i64 0, .bool false, .slice none 0 0, v, .slice none 0 0]
theorem biz {w : World} {b : Nat} {v : Value} {f : Nat × Nat} (h : w.heap[b]? = some (.cells (agj v).toArray T.a f)) (K : KV) : ldN P 11 b 0 w K = K (.agg (agj v).toArray) w :=
 po (agj v) 11 rfl (fun k u hk => by rw [ie h, Nat.zero_add, List.getElem?_toArray]; exact hk) K
def aal (l : List Mem) : Bool := (tm 0 l && (decide (0 < l.length) && decide (l.length ≤ 16))) && !(l.any qz)
theorem bdm {w : World} {v : Value} {l : List Mem} (hs : SlM w v l) (hlen : l.length ≤ 1000000) {K : KV} (h : ∀ w', Fz w w' → K (.bool (aal l)) w') : gr P F.bf [.iface T.u (.agg #[v])] w K := by
 rw [M.s.fcall]
 apply M.s.calls
 unfold M.s
 simp
 have hba : (w.alloc (.cells #[.int .u64 0, .int .u64 0] T.d)).heap[w.heap.size]? = some (.cells #[.int .u64 0, .int .u64 0] T.d (0, 0)) := by rw [iw, if_pos rfl]
 refine km (vs := [.int .u64 0, .int .u64 0]) hba rfl (by simp) fun w2 b2 f2 => ?_
 have f2' : Fz w w2 := ((Fr.refl _ w).alloc _).lq f2 fun y hy he => by subst he; omega
 have hs2 := hs.fr f2' fun _ _ _ h => h
 rw [aty]
 obtain ⟨a, c, hv, _⟩ := id hs2
 have hcell : ∀ {w'}, Fz w2 w' → SlM w' v l := fun f => hs2.fr f fun _ _ _ h => h
 rw [hv]
 simp
 have hbm : (w2.alloc (.cells #[.slice none 0 0] T.u)).heap[w2.heap.size]? = some (.cells #[.slice none 0 0] T.u (0, 0)) := by rw [iw, if_pos rfl]
 refine km (vs := [.slice a l.length c]) hbm rfl (by simp) fun w3 b3 f3 => ?_
 have f3' : Fz w2 w3 := ((Fr.refl _ w2).alloc _).lq f3 fun y hy he => by subst he; omega
 have c0 : ic w3 w2.heap.size 0 = some (.slice a l.length c) := by rw [ie b3]; rfl
 simp [c0]
 rw [← hv]
 refine bkn (hcell f3') hlen fun w4 f4 => ?_
 have c4 : ic w4 w2.heap.size 0 = some (.slice a l.length c) := by rw [ie (f4.heap b3 fun h => h)]; rfl
 unfold aal at h
 generalize (tm 0 l && (decide (0 < l.length) && decide (l.length ≤ 16))) = r at *
 cases r with
 | false =>
  simp
  exact h w4 ((f2'.trans f3').trans f4)
 | true =>
  simp [c4]
  rw [← hv]
  refine aut (hcell (f3'.trans f4)) hlen fun w5 f5 => ?_
  simp
  exact h w5 (((f2'.trans f3').trans f4).trans f5)
theorem aza {w : World} {v : Value} {l : List Mem} (hs : SlM w v l) (hlen : l.length ≤ 1000000) {K : KV} (h : ∀ w' v', SlM w' v' l → Fz w w' → K (.agg (agj v').toArray) w') : gr P F.ax [.iface T.u (.agg #[v])] w K := by
 rw [M.n.fcall]
 apply M.n.calls
 unfold M.n
 simp
 rw [aty]
 generalize hw1 : w.alloc (.cells #[.int .i64 0, .int .u64 0, .int .u64 0, .int .u64 0, .int .u64 0, .int .u64 0, .int .i64 0, .bool false, .slice none 0 0, .slice none 0 0, .slice none 0 0] T.a) = w1
 have hb1 : w1.heap[w.heap.size]? = some (.cells #[.int .i64 0, .int .u64 0, .int .u64 0, .int .u64 0, .int .u64 0, .int .u64 0, .int .i64 0, .bool false, .slice none 0 0, .slice none 0 0, .slice none 0 0] T.a (0, 0)) := by rw [← hw1, iw, if_pos rfl]
 have f1 : Fz w w1 := by rw [← hw1]; exact (Fr.refl _ w).alloc _
 have hs1 := hs.fr f1 fun _ _ _ h => h
 obtain ⟨a, c, hv, _⟩ := id hs1
 have hcell : ∀ {w'}, Fz w1 w' → SlM w' v l := fun f => hs1.fr f fun _ _ _ h => h
 rw [hv]
 simp
 have hbm : (w1.alloc (.cells #[.slice none 0 0] T.u)).heap[w1.heap.size]? = some (.cells #[.slice none 0 0] T.u (0, 0)) := by rw [iw, if_pos rfl]
 refine km (vs := [.slice a l.length c]) hbm rfl (by simp) fun w3 b3 f3 => ?_
 have f3' : Fz w1 w3 := ((Fr.refl _ w1).alloc _).lq f3 fun y hy he => by subst he; omega
 have c0 : ic w3 w1.heap.size 0 = some (.slice a l.length c) := by rw [ie b3]; rfl
 simp [c0]
 rw [← hv]
 refine apm (hcell f3') hlen fun w4 v4 s4 n4 f4 => ?_
 obtain ⟨a4, c4, hv4, _⟩ := id s4
 have hb4 := (f3'.trans f4).heap hb1 fun h => h
 rw [hv4]
 simp
 refine km (vs := agj (.slice a4 l.length c4)) hb4 rfl (by simp [agj]) fun w5 b5 f5 => ?_
 rw [biz b5]
 have e : Value.agg (agj (.slice a4 l.length c4)).toArray = .agg #[.int .i64 3, .int .u64 0, .int .u64 0, .int .u64 0, .int .u64 0, .int .u64 0, .int .i64 0, .bool false, .slice none 0 0, .slice a4 l.length c4, .slice none 0 0] := rfl
 rw [e]
 simp
 refine km (vs := agj (.slice a4 l.length c4)) b5 rfl (by simp [agj]) fun w6 b6 f6 => ?_
 rw [ajp, biz b6]
 simp
 have hlt1 : w.heap.size < w1.heap.size := (Array.getElem?_eq_some_iff.1 hb1).1
 have hs31 := f3'.size
 have hnn : ∀ b, (Value.slice a4 l.length c4).ownBlock = some b → b ≠ w.heap.size := fun b hb => by
  have := n4 b (by rw [hv4]; exact hb)
  omega
 rw [hv4] at s4
 have s6 : SlM w6 (.slice a4 l.length c4) l := (s4.fr f5 fun b hb _ => hnn b hb).fr f6 fun b hb _ => hnn b hb
 have f46 : Fz w w6 := (((f1.trans f3').trans f4).lq f5 fun y hy he => by subst he; omega).lq f6 fun y hy he => by subst he; omega
 exact h w6 _ s6 f46
end Go.Proofs.YtfnhoaemapheoaaGreat
namespace Go.Eng
end Go.Eng
set_option maxRecDepth 100000
namespace Go.Proofs.YtfnhoaemapheoaaGreat
open Go.Eng
set_option maxRecDepth 100000
end Go.Proofs.YtfnhoaemapheoaaGreat
namespace Go.Eng
end Go.Eng
set_option maxRecDepth 100000
namespace Go.Proofs.YtfnhoaemapheoaaGreat
open Go.Eng
set_option maxRecDepth 100000
abbrev SlS (w : World) (v : Value) (l : List Spn) : Prop := Sl w 8 ja v l
def atq (w : World) (b : Nat) (s : Spn) : Prop := w.heap[b]? = some (.cells #[.int .u64 s.iu, .int .u64 s.id, .int .u64 s.ou, .int .u64 s.ji, .int .u64 s.len, .string s.kf, .string s.name, .bool s.ru] T.e (0, 0))
theorem bjp (s : Spn) (w : World) (K : KV) : nc P T.e (ko s) w K = K (.pointer (some ⟨w.heap.size, 0, none⟩)) (w.alloc (.cells #[.int .u64 s.iu, .int .u64 s.id, .int .u64 s.ou, .int .u64 s.ji, .int .u64 s.len, .string s.kf, .string s.name, .bool s.ru] T.e)) := by
 rw [xm]; rfl
theorem bhg (w : World) (s : Spn) : atq (w.alloc (.cells #[.int .u64 s.iu, .int .u64 s.id, .int .u64 s.ou, .int .u64 s.ji, .int .u64 s.len, .string s.kf, .string s.name, .bool s.ru] T.e)) w.heap.size s := by
 unfold atq; rw [iw, if_pos rfl]
theorem yd {w : World} {b : Nat} {s : Spn} (h : atq w b s) : ∀ k v, (ja s)[k]? = some v → ic w b k = some v := fun k v hk => by
 rw [ie h]
 have : (#[.int .u64 s.iu, .int .u64 s.id, .int .u64 s.ou, .int .u64 s.ji, .int .u64 s.len, .string s.kf, .string s.name, .bool s.ru] : Array Value) = (ja s).toArray := rfl
 rw [this]; simpa using hk
theorem ldS {w : World} {b i : Nat} {s : Spn} (h : ∀ k v, (ja s)[k]? = some v → ic w b (i + k) = some v) (K : KV) : ldN P 8 b i w K = K (ko s) w := po (ja s) 8 rfl h K
theorem adm {w : World} {v : Value} {l : List Spn} (hs : SlS w v l) (hlen : l.length ≤ 1000000) {K : KV} (h : ∀ w' v', SlS w' v' l → (∀ x, v'.ownBlock = some x → w.heap.size ≤ x ∧ x < w'.heap.size) → Fz w w' → K v' w') : ku P F.h [v] w K := by
 apply M.j.calls
 unfold M.j
 simp only [ib]
 have hs' := hs
 obtain ⟨a, cap, rfl, _⟩ := hs'
 cases a with
 | none =>
  simp
  have hz : l = [] := by
   obtain ⟨a', cap', hv, _, _, h3⟩ := hs
   cases l with
   | nil => rfl
   | cons x l =>
    obtain ⟨b, o, ha, _⟩ := h3 0 x rfl
    injection hv with h1 _ _
    rw [← h1] at ha; cases ha
  subst hz
  exact h w _ Sl.nil (fun x hx => by simp [Value.ownBlock] at hx) (Fr.refl _ _)
 | some a =>
  simp
  have f0 : Fz w (w.alloc (.cells #[] T.e)) := (Fr.refl _ w).alloc _
  refine rq et.b lk og (base := w.heap.size) (Ow.empty (by rw [iw, if_pos rfl]) (Nat.le_refl _)) (hs.fr f0 fun _ _ _ h => h) (by simp; omega) (by decide) (by simp) _ fun v3 w3 o3 f3 g3 => ?_
  rw [List.nil_append] at o3
  exact h w3 v3 (o3.sl lk) (fun x hx => o3.lt hx) (f0.lq f3 fun b hb hv => by simp [Value.ownBlock] at hv; omega)
def pi (k : Int) : List Value := [.int .u64 k]
theorem pu (p : Int) : (pi p).length = 1 := rfl
theorem akh (p : Int) : ∀ u ∈ pi p, kq u = true := fun u hu => by
 simp only [pi, List.mem_cons, List.not_mem_nil, or_false] at hu
 subst hu; rfl
abbrev SlU (w : World) (v : Value) (l : List Int) : Prop := Sl w 1 pi v l
abbrev OwU (w : World) (base : Nat) (v : Value) (l : List Int) : Prop := Ow w base T.g 1 pi v l
theorem afa {w : World} {v : Value} {l : List Int} (h : SlU w v l) {i : Nat} (hi : i < l.length) : ∃ b o cap, v = .slice (some ⟨b, o, none⟩) l.length cap ∧ b < w.heap.size ∧ ic w b (o + i) = some (.int .u64 l[i]) := by
 obtain ⟨b, o, cap, hv, hb, _, hr⟩ := h.at hi
 have := hr 0 _ rfl
 simp only [Nat.mul_one, Nat.add_zero] at this
 exact ⟨b, o, cap, hv, hb, this⟩
def vq (x y : Spn) : Bool := x.iu == y.iu && (x.id == y.id && (x.ou == y.ou && (x.ji == y.ji && (x.len == y.len && (x.kf.toList == y.kf.toList && (x.name.toList == y.name.toList && (x.ru == y.ru)))))))
theorem amm (x : Spn) : vq x x = true := by simp [vq]
theorem baj (x y : Spn) (w : World) : (Op.equalIn 10000 T.e (ko x) (ko y)).run P w = .ok (vq x y) w := by
 have hS : P.underlying T.e = some (.struct (P.fieldsOf T.e)) := by kernel_rfl
 have hp : P.stoodInHeld T.e = false := by kernel_rfl
 unfold ko
 rw [show (10000 : Nat) = 9999 + 1 from rfl, run_equalIn_agg w 9999 T.e _ _ hS hp]
 have u22 : P.underlying 35 = some (.int .u64) := Tryz.underlying35
 have u9 : P.underlying 9 = some .string := Tryz.underlying9
 have u4 : P.underlying 4 = some .bool := Tryz.underlying4
 simp only [Program.fieldsOf, show P.underlying T.e = _ from Tryz.underlying85]
 have a22 : aer P 35 = false := by kernel_rfl
 have a9 : aer P 9 = false := by kernel_rfl
 have a4 : aer P 4 = false := by kernel_rfl
 unfold vq
 refine eqF (by decide) a22 rfl rfl (run_equalIn_int w 9998 35 _ _ _ _ u22) ?_
 refine eqF (by decide) a22 rfl rfl (run_equalIn_int w 9998 35 _ _ _ _ u22) ?_
 refine eqF (by decide) a22 rfl rfl (run_equalIn_int w 9998 35 _ _ _ _ u22) ?_
 refine eqF (by decide) a22 rfl rfl (run_equalIn_int w 9998 35 _ _ _ _ u22) ?_
 refine eqF (by decide) a22 rfl rfl (run_equalIn_int w 9998 35 _ _ _ _ u22) ?_
 refine eqF (by decide) a9 rfl rfl (run_equalIn_string w 9998 9 _ _ u9) ?_
 refine eqF (by decide) a9 rfl rfl (run_equalIn_string w 9998 9 _ _ u9) ?_
 have := eqF (fs := []) (d := 9999) (xs := #[.int .u64 x.iu, .int .u64 x.id, .int .u64 x.ou, .int .u64 x.ji, .int .u64 x.len, .string x.kf, .string x.name, .bool x.ru]) (ys := #[.int .u64 y.iu, .int .u64 y.id, .int .u64 y.ou, .int .u64 y.ji, .int .u64 y.len, .string y.kf, .string y.name, .bool y.ru]) (f := { name := "Fail", type := 4, offset := 7, embedded := false, tag := "", pkgPath := "", byteOffset := 72 }) (w := w) (c := true) (by decide) a4 rfl rfl (run_equalIn_bool' w 9998 4 _ _ u4) rfl
 simpa using this
theorem acq (rx ry : Operand) (x y : Spn) (w : World) (K : KV) : ij P .neq T.e rx ry (ko x) (ko y) w K = K (.bool !(vq x y)) w := by
 have hm : P.eqGuardType P.depth T.e = false := by kernel_rfl
 have hg := run_eqGuard_agg (P := P) w .neq T.e rx ry #[.int .u64 x.iu, .int .u64 x.id, .int .u64 x.ou, .int .u64 x.ji, .int .u64 x.len, .string x.kf, .string x.name, .bool x.ru] #[.int .u64 y.iu, .int .u64 y.id, .int .u64 y.ou, .int .u64 y.ji, .int .u64 y.len, .string y.kf, .string y.name, .bool y.ru] hm
 have he := baj x y w
 unfold ij jv
 unfold ko at he ⊢
 rw [Sem.run_bind, hg]
 simp only [Result.andThen]
 rw [run_neq_struct, he]
 rfl
def bee (w : World) (l1 l2 : List Spn) : KL := fun x w1 => ∃ (a : Value) (i : Nat), x = [a, .int .i64 (i : Nat)] ∧ i ≤ l1.length ∧ (∀ j (h1 : j < l1.length) (h2 : j < l2.length), j < i → vq l1[j] l2[j] = true) ∧ Fz w w1
def boz (l1 l2 : List Spn) : Prop := l1.length = l2.length ∧ ∀ j (h1 : j < l1.length) (h2 : j < l2.length), vq l1[j] l2[j] = true
theorem bfx {w : World} {v1 v2 : Value} {l1 l2 : List Spn} (h1 : SlS w v1 l1) (h2 : SlS w v2 l2) (hn : l1.length < 1000000) (hs : boz l1 l2) {K : KV}
  (h : ∀ w', Fz w w' → K (.bool true) w') : ku P F.bp [v1, v2] w K := by
 obtain ⟨hne, hall⟩ := hs
 apply M.l.calls
 unfold M.l
 simp only [ib]
 rw [h1.jb (by simp), h2.jb (by simp)]
 simp [hne]
 unfold M.l.j0
 simp only [ib]
 refine ⟨bee w l1 l2, fun x _ => l1.length - ms x 1, ⟨_, 0, rfl, Nat.zero_le _, fun j _ _ h => by omega, Fr.refl _ _⟩, ?_⟩
 rintro x w1 ⟨a, i, rfl, hin, hpre, hf1⟩
 have g1 : gv [a, .int .i64 (i : Int)] 1 = .int .i64 (i : Int) := rfl
 simp only [g1]
 have hr1 : SlS w1 v1 l1 := h1.fr hf1 fun _ _ _ h => h
 have hr2 : SlS w1 v2 l2 := h2.fr hf1 fun _ _ _ h => h
 rw [hr1.jb (by simp)]
 by_cases hlt : i < l1.length
 ·have hlt2 : i < l2.length := by omega
  obtain ⟨b1, o1, c1, rfl, _, _, k1⟩ := hr1.at hlt
  obtain ⟨b2, o2, c2, rfl, _, _, k2⟩ := hr2.at hlt2
  have hw : IntKind.i64.wrap ((i : Int) + 1) = ((i + 1 : Nat) : Int) := by rw [ig]; rfl
  have d1 : ∀ K, ldN P 8 b1 (o1 + i * 8) (dr w1 1) K = K (ko l1[i]) (dr w1 1) := fun K => ldS (w := dr w1 1) k1 K
  have d2 : ∀ K, ldN P 8 b2 (o2 + i * 8) (dr w1 1) K = K (ko l2[i]) (dr w1 1) := fun K => ldS (w := dr w1 1) k2 K
  simp [hlt]
  unfold M.l.j3
  simp only [ib, g1]
  simp [hlt, hlt2, d1, d2, acq, hall i hlt hlt2, hw]
  refine ⟨⟨_, i + 1, rfl, by omega, fun j a1 a2 _ => hall j a1 a2, hf1.dr 1⟩, by simp [ms, gv]; omega⟩
 ·simp [hlt]
  exact h _ hf1
end Go.Proofs.YtfnhoaemapheoaaGreat
set_option maxRecDepth 100000
namespace Go.Proofs.YtfnhoaemapheoaaGreat.CB
open Go.Eng
theorem ang {w : World} {n : Nat} (hn : n ≤ 1000000000) {K : KV} (h : ∀ w' v, Ow w' w.heap.size T.ao 1 agt v [] → Fz w w' → K v w') :
  ku P F.ck [.slice none 0 0, .int .i64 n] w K := by
 apply M.bk.calls
 unfold M.bk
 have hneg : ¬ (n : Int) < 0 := by omega
 simp [hneg]
 unfold M.bk.j0
 have hsl : oe P T.f = true := by kernel_rfl
 have w0 : IntKind.i64.wrap 0 = 0 := by decide
 have wn : IntKind.i64.wrap (n : Int) = n := ig
 rw [ib, amr hsl, yn hsl]
 simp only [lz, si]
 have e1 : IntKind.i64.wrap ((n : Int) - IntKind.i64.wrap (((0 : Nat) : Int) - ((0 : Nat) : Int))) = n := by
  rw [show ((0 : Nat) : Int) - ((0 : Nat) : Int) = 0 from by omega, w0, Int.sub_zero, wn]
 rw [e1]
 by_cases h0 : 0 < n
 ·have h0' : (0 : Int) < n := by omega
  simp only [h0', decide_true, Eng.cond_true]
  rw [amr hsl, aab (i := 0) (j := 0) hsl (.inl ⟨rfl, rfl⟩) (.inr ⟨.i64, rfl⟩) (Nat.le_refl _) (Nat.le_refl _)]
  refine bcg (enc := agt) et.f (kn := .i64) (by kernel_rfl) h0 hn (by decide) _ fun w' cap hc o f => ?_
  rw [yn hsl, aab (i := 0) (j := 0) hsl (.inl ⟨rfl, rfl⟩) (.inr ⟨.i64, rfl⟩) (Nat.le_refl _) (Nat.zero_le _)]
  rw [if_neg (by omega)]
  have := h w' _ o f
  simpa [Addr.add, gv] using this
 ·have h0' : ¬ (0 : Int) < n := by omega
  simp only [h0', decide_false, Eng.cond_false]
  exact h w _ Ow.none (Fr.refl _ _)
abbrev Sls (w : World) (v : Value) (l : List Int) : Prop := Sl w 1 agt v l
abbrev Ows (w : World) (base : Nat) (v : Value) (l : List Int) : Prop := Ow w base T.ao 1 agt v l
def tot (L : List (Value × List Int)) : Nat := (L.map fun p => p.2.length).sum
theorem adb {L : List (Value × List Int)} {i : Nat} (hi : i < L.length) : tot (L.take (i + 1)) = tot (L.take i) + L[i].2.length := by
 unfold tot
 rw [List.take_succ_eq_append_getElem hi, List.map_append, List.sum_append]; simp
theorem aho {L : List (Value × List Int)} (i : Nat) : tot (L.take i) ≤ tot L := by
 unfold tot
 conv => rhs; rw [← List.take_append_drop i L, List.map_append, List.sum_append]
 omega
theorem akt (L : List (Value × List Int)) : (L.flatMap (·.2)).length = tot L := by
 unfold tot
 induction L with
 | nil => rfl
 | cons p L ih => simp [ih]
def CaI (w : World) (L : List (Value × List Int)) : KL := fun x w1 => ∃ (u : Value) (i : Nat), x = [u, .int .i64 (tot (L.take i) : Nat), .int .i64 (i : Nat)] ∧ w1 = w ∧ i ≤ L.length
def CbI (w : World) (L : List (Value × List Int)) : KL := fun x w1 => ∃ (u v : Value) (i : Nat), x = [u, v, .int .i64 (i : Nat)] ∧ i ≤ L.length ∧ Fz w w1 ∧ Ows w1 w.heap.size v ((L.take i).flatMap (·.2))
theorem abn {w : World} {b cap : Nat} {L : List (Value × List Int)} {e : TypeId} (hb : w.heap[b]? = some (.cells (L.map (·.1)).toArray e (0, 0))) (hs : ∀ p ∈ L, Sls w p.1 p.2) (ht : tot L ≤ 100000000) (hL : L.length ≤ 1000) {K : KV}
  (h : ∀ w' v, Ows w' w.heap.size v (L.flatMap (·.2)) → Fz w w' → K v w') : ku P F.ar [.slice (some ⟨b, 0, none⟩) L.length cap] w K := by
 apply M.k.calls
 unfold M.k
 have hss : oe P T.m = true := by kernel_rfl
 have hsl : oe P T.f = true := by kernel_rfl
 have q0 : ∀ a b c : Value, gv [a, b, c] 0 = a := fun _ _ _ => rfl
 have q1 : ∀ a b c : Value, gv [a, b, c] 1 = b := fun _ _ _ => rfl
 have q2 : ∀ a b c : Value, gv [a, b, c] 2 = c := fun _ _ _ => rfl
 have q4 : ∀ a b c d e : Value, gv [a, b, c, d, e] 4 = e := fun _ _ _ _ _ => rfl
 have cell : ∀ (w' : World), Fz w w' → ∀ (i : Nat) (hi : i < L.length), ic w' b i = some L[i].1 := fun w' f i hi => by
  rw [ie (f.heap hb fun h => h)]
  simp [hi]
 rw [ib, yn hss]
 refine ⟨CaI w L, fun x _ => L.length - ms x 2, ⟨_, 0, rfl, rfl, Nat.zero_le _⟩, ?_⟩
 rintro x w1 ⟨u, i, rfl, rfl, hi⟩
 simp only [q0, q1, q2, lw, ib]
 by_cases hil : i < L.length
 ·have hil' : (i : Int) < L.length := by omega
  simp only [hil', decide_true, Eng.cond_true]
  unfold M.k.j2
  have hwi : IntKind.i64.wrap ((i : Int) + 1) = ((i + 1 : Nat) : Int) := by rw [ig]; rfl
  have c0 := cell w1 (Fr.refl _ _) i hil
  have hsi := hs L[i] (List.getElem_mem hil)
  obtain ⟨a', cap', hv', _⟩ := hsi
  have htt := adb hil
  have hle := aho (L := L) (i + 1)
  have hwt : IntKind.i64.wrap ((tot (L.take i) : Int) + (L[i].2.length : Int)) = ((tot (L.take (i + 1)) : Nat) : Int) := by rw [ig]; omega
  have hng : ¬ ((tot (L.take (i + 1)) : Nat) : Int) < 0 := by omega
  simp only [q0, q1, q2, ib]
  simp [hil, c0, hv', hwt, hwi, -Int.natCast_add]
  refine ⟨⟨_, i + 1, rfl, rfl, by omega⟩, ?_⟩
  simp [ms, gv]; omega
 ·have hie : i = L.length := by omega
  have hil' : ¬ (i : Int) < L.length := by omega
  simp only [hil', decide_false, Eng.cond_false]
  have htk : L.take i = L := List.take_of_length_le (by omega)
  rw [htk]
  unfold M.k.j0
  simp only [q4]
  rw [M.bk.fcall]
  refine ang (by omega) fun w2 v2 o2 f2 => ?_
  rw [ib, yn hss]
  refine ⟨CbI w1 L, fun x _ => L.length - ms x 2, ⟨_, v2, 0, rfl, Nat.zero_le _, f2, o2⟩, ?_⟩
  rintro x w3 ⟨u', v, j, rfl, hj, f3, o3⟩
  simp only [q0, q1, q2, lw, ib]
  by_cases hjl : j < L.length
  ·have hjl' : (j : Int) < L.length := by omega
   simp only [hjl', decide_true, Eng.cond_true]
   unfold M.k.j6
   have hwj : IntKind.i64.wrap ((j : Int) + 1) = ((j + 1 : Nat) : Int) := by rw [ig]; rfl
   have c0 := cell w3 f3 j hjl
   have hsj := (hs L[j] (List.getElem_mem hjl)).fr f3 fun _ _ _ h => h
   have hl1 : ((L.take j).flatMap (·.2)).length = tot (L.take j) := akt _
   have htt := adb hjl
   have hle := aho (L := L) (j + 1)
   simp only [q0, q1, q2, ib]
   simp [hjl, c0, -List.length_flatMap]
   have hge := f3.size
   refine rq et.f ka xo o3 hsj (by rw [hl1]; omega) (by decide) hge _ fun v' w4 o4 f4 g4 => ?_
   simp only [hwj]
   refine ⟨⟨_, v', j + 1, rfl, by omega, f3.lq f4 fun x hx he => by have := (o3.lt he).1; omega, ?_⟩, ?_⟩
   ·rw [List.take_succ_eq_append_getElem hjl, List.flatMap_append]
    simpa using o4
   ·simp [ms, gv]; omega
  ·have hjl' : ¬ (j : Int) < L.length := by omega
   simp only [hjl', decide_false, Eng.cond_false, q4]
   have htj : L.take j = L := List.take_of_length_le (by omega)
   rw [htj] at o3
   exact h w3 v o3 f3
end Go.Proofs.YtfnhoaemapheoaaGreat.CB
set_option maxRecDepth 100000
namespace Go.Proofs.YtfnhoaemapheoaaGreat
open Go.Eng
class SD where
 k : IntKind
 el : TypeId
 sl : TypeId
 azh : FuncId
 bfy : FuncId
 bhh : FuncId
 bal : FuncId
 bba : FuncId
 bax : FuncId
 bgr : FuncId
 azz : FuncId
 bhe : FuncId
 bii : FuncId
 bia : FuncId
 bbh : FuncId
 bfl : FuncId
 bfo : FuncId
 bfu : FuncId
 bap : FuncId
abbrev T.am [SD] : TypeId := SD.el
abbrev T.an [SD] : TypeId := SD.sl
abbrev F.dl [SD] : FuncId := SD.azh
abbrev F.gi [SD] : FuncId := SD.bfy
abbrev F.gj [SD] : FuncId := SD.bhh
abbrev F.gb [SD] : FuncId := SD.bal
abbrev F.gf [SD] : FuncId := SD.bba
abbrev F.gg [SD] : FuncId := SD.bax
abbrev F.gk [SD] : FuncId := SD.bgr
abbrev F.gh [SD] : FuncId := SD.azz
abbrev F.gl [SD] : FuncId := SD.bhe
abbrev F.gc [SD] : FuncId := SD.bii
abbrev F.gd [SD] : FuncId := SD.bia
abbrev F.fy [SD] : FuncId := SD.bbh
abbrev F.gm [SD] : FuncId := SD.bfl
abbrev F.gn [SD] : FuncId := SD.bfo
abbrev F.ge [SD] : FuncId := SD.bfu
abbrev F.go [SD] : FuncId := SD.bap
def M.eb [SD] (c d : Value) : QQ := fun w K => gr P F.gi [c] w fun a w => gq (isB a true) (fun K' => K' d w) w fun e w => gq (isB a true) (gr P F.gi [e] w) w fun f w => gq (isB a true) (unT P .not f w) w fun g w => il a g bF w fun b w => gq (isB b false) (fun K' => K' c w) w fun h w => gq (isB b false) (fun K' => K' d w) w fun i w => gq (isB b false) (ij P .lss T.am (.tmp 13) (.tmp 14) h i w) w fun j w => il b bY j w fun l w => K l w
def M.ev [SD] (a : Value) : QQ := fun w K => ij P .neq T.am (.tmp 3) (.tmp 4) a a w fun b w => K b w
def M.cw.j4 [SD] (a : List Value) (b : Value) (d : KL) : QQ := fun w K => gt (fun e => je w fun w => w = w ∧ w = w ∧ w = w ∧ w = w ∧ gp (bK .sub T.c 36 (gv a 0) i1 w) w fun c => w = w ∧ w = w ∧ gp (bK .sub T.c 39 (gv a 0) i1 w) w fun f => gp (iaT P T.an b f w) w fun g => gp (ldT P T.am g w) w fun h => w = w ∧ w = w ∧ gp (iaT P T.an b (gv a 0) w) w fun i => gp (ldT P T.am i w) w fun j => gp (iaT P T.an b (gv a 0) w) w fun l => stT P T.am l h w fun _ w => gy (bK .sub T.c 36 (gv a 0) i1 w) w c ∧ gy (fun K' => K' (gv a 0) w) w (gv a 0) ∧ gy (fun K' => K' b w) w b ∧ gp (iaT P T.an b c w) w fun m => stT P T.am m j w fun _ w => e [] w) fun o w => bK .sub T.c 31 (gv a 0) i1 w fun n w => d [n] w
def M.cw.j3 [SD] (b : List Value) (d c : Value) (e f : KL) : QQ := fun w K => gt (fun g => je w fun w => w = w ∧ w = w ∧ gp (bT .gtr T.c 16 17 (gv b 0) d w) w fun a => w = w ∧ gp (fun K' => gq (isB a true) (fun K' => K' c w) w K') w fun h => gp (fun K' => gq (isB a true) (fun K' => K' (gv b 0) w) w K') w fun i => gp (gq (isB a true) (iaT P T.an h i w) w) w fun j => gp (gq (isB a true) (ldT P T.am j w) w) w fun l => gp (fun K' => gq (isB a true) (fun K' => K' c w) w K') w fun m => gp (fun K' => gq (isB a true) (fun K' => K' (gv b 0) w) w K') w fun n => gp (gq (isB a true) (bK .sub T.c 25 n i1 w) w) w fun o => gp (gq (isB a true) (iaT P T.an m o w) w) w fun p => gp (gq (isB a true) (ldT P T.am p w) w) w fun q => gq (isB a true) (gr P F.dl [l, q] w) w fun r w => gp (il a r bF w) w fun s => ia s (g [] w) (e [(gv b 0)] w)) fun t w => M.cw.j4 b c f w K
def M.cw.j0 [SD] (a : List Value) (b c d : Value) (e : KL) : QQ := fun w K => gt (fun f => bT .lss T.c 10 11 (gv a 1) b w fun g w => ia g (f [] w) (K (.tuple #[]) w)) fun n w => gt (fun h => jh [(gv a 1)] w fun i j w => M.cw.j3 j c d h i w K) fun l w => bK .add T.c 13 (gv a 1) i1 w fun m w => e [(gv l 0), m] w
def M.cw [SD] (b a c : Value) : QQ := fun w K => bK .add T.c 8 a i1 w fun d w => jh [undef, d] w fun e f w => M.cw.j0 f c a b e w K
def M.cb.j3 [SD] (a : Value) (d b : List Value) (c : Value) (f : KL) : QQ := fun w K => je w fun w => w = w ∧ w = w ∧ w = w ∧ gp (bT .add T.c 54 55 a (gv d 1) w) w fun g => w = w ∧ w = w ∧ w = w ∧ gp (bT .add T.c 58 59 a (gv b 0) w) w fun e => w = w ∧ w = w ∧ w = w ∧ gp (bT .add T.c 62 63 a (gv b 0) w) w fun h => gp (iaT P T.an c h w) w fun i => gp (ldT P T.am i w) w fun j => w = w ∧ w = w ∧ w = w ∧ gp (bT .add T.c 68 69 a (gv d 1) w) w fun l => gp (iaT P T.an c l w) w fun m => gp (ldT P T.am m w) w fun n => gp (iaT P T.an c g w) w fun o => stT P T.am o j w fun _ w => gy (bT .add T.c 58 59 a (gv b 0) w) w e ∧ gy (fun K' => K' (gv b 0) w) w (gv b 0) ∧ gy (fun K' => K' a w) w a ∧ gy (fun K' => K' c w) w c ∧ gp (iaT P T.an c e w) w fun p => stT P T.am p n w fun _ w => f [(gv b 0), (gv b 0)] w
def M.cb.j2 [SD] (a : Value) (c : List Value) (b : Value) (d : List Value) (e : KL) : QQ := fun w K => gt (fun f => je w fun w => w = w ∧ w = w ∧ w = w ∧ gp (bT .add T.c 40 41 a (gv c 1) w) w fun g => gp (iaT P T.an b g w) w fun h => gp (ldT P T.am h w) w fun i => w = w ∧ w = w ∧ w = w ∧ gp (bT .add T.c 46 47 a (gv d 0) w) w fun j => gp (iaT P T.an b j w) w fun l => gp (ldT P T.am l w) w fun m => gr P F.dl [i, m] w fun n w => gp (unT P .not n w) w fun o => ia o (K (.tuple #[]) w) (f [] w)) fun p w => M.cb.j3 a c d b e w K
def M.cb.j1 [SD] (b f c d : Value) (g : List Value) (h : KL) : QQ := fun w K => gt (fun e => je w fun w => w = w ∧ gp (bK .add T.c 17 b i1 w) w fun i => w = w ∧ gp (bT .lss T.c 18 19 i f w) w fun a => w = w ∧ gp (fun K' => gq (isB a true) (fun K' => K' c w) w K') w fun j => gp (fun K' => gq (isB a true) (fun K' => K' d w) w K') w fun l => gp (fun K' => gq (isB a true) (fun K' => K' b w) w K') w fun m => gp (gq (isB a true) (bT .add T.c 23 24 l m w) w) w fun n => gp (gq (isB a true) (iaT P T.an j n w) w) w fun o => gp (gq (isB a true) (ldT P T.am o w) w) w fun p => gp (fun K' => gq (isB a true) (fun K' => K' c w) w K') w fun q => gp (fun K' => gq (isB a true) (fun K' => K' d w) w K') w fun r => gp (fun K' => gq (isB a true) (fun K' => K' b w) w K') w fun s => gp (gq (isB a true) (bT .add T.c 29 30 r s w) w) w fun t => gp (gq (isB a true) (bK .add T.c 31 t i1 w) w) w fun u => gp (gq (isB a true) (iaT P T.an q u w) w) w fun v => gp (gq (isB a true) (ldT P T.am v w) w) w fun x => gq (isB a true) (gr P F.dl [p, x] w) w fun y w => gp (il a y bF w) w fun z => ia z (bK .add T.c 37 b i1 w fun A w => e [A] w) (e [b] w)) fun B w => M.cb.j2 d g c B h w K
def M.cb.j0 [SD] (a : List Value) (b d e : Value) (f : KL) : QQ := fun w K => ij P .mul T.c (.const i2) (.tmp 11) i2 (gv a 1) w fun g w => bK .add T.c 12 g i1 w fun c w => gt (fun h => bT .geq T.c 14 15 c b w fun i w => ia i (K (.tuple #[]) w) (h [] w)) fun j w => M.cb.j1 c b d e a f w K
def M.cb [SD] (a b c d : Value) : QQ := fun w K => jh [undef, b] w fun e f w => M.cb.j0 f c a d e w K
def M.ct.j1 [SD] (a : List Value) (b : KL) (c d e : Value) (f : KL) : QQ := fun w K => gt (fun g => bK .geq T.c 18 (gv a 0) i0 w fun h w => ia h (g [] w) (b [(gv a 0)] w)) fun l w => gt (fun i => gr P F.gb [c, (gv a 0), d, e] w fun m w => i [] w) fun n w => bK .sub T.c 20 (gv a 0) i1 w fun j w => f [j] w
def M.ct.j5 [SD] (a : Value) (b : List Value) (c : Value) (e : KL) : QQ := fun w K => gt (fun f => je w fun w => w = w ∧ w = w ∧ w = w ∧ w = w ∧ w = w ∧ gp (bT .add T.c 36 37 a (gv b 0) w) w fun d => w = w ∧ w = w ∧ w = w ∧ gp (bT .add T.c 40 41 a (gv b 0) w) w fun g => gp (iaT P T.an c g w) w fun h => gp (ldT P T.am h w) w fun i => w = w ∧ w = w ∧ gp (iaT P T.an c a w) w fun j => gp (ldT P T.am j w) w fun l => gp (iaT P T.an c a w) w fun m => stT P T.am m i w fun _ w => gy (bT .add T.c 36 37 a (gv b 0) w) w d ∧ gy (fun K' => K' (gv b 0) w) w (gv b 0) ∧ gy (fun K' => K' a w) w a ∧ gy (fun K' => K' c w) w c ∧ gp (iaT P T.an c d w) w fun n => stT P T.am n l w fun _ w => gr P F.gb [c, i0, (gv b 0), a] w fun p w => f [] w) fun q w => bK .sub T.c 31 (gv b 0) i1 w fun o w => e [o] w
def M.ct.j0 [SD] (b c d : Value) : QQ := fun w K => bK .sub T.c 27 b i1 w fun e w => jh [e] w fun f a w => gt (fun g => bK .geq T.c 29 (gv a 0) i0 w fun h w => ia h (g [] w) (K (.tuple #[]) w)) fun i w => M.ct.j5 c a d f w K
def M.ct [SD] (c a d : Value) : QQ := fun w K => bT .sub T.c 12 13 d a w fun b w => gt (fun e => bK .sub T.c 15 b i1 w fun f w => ij P .quo T.c (.tmp 16) (.const i2) f i2 w fun g w => jh [g] w fun h i w => M.ct.j1 i e c b a h w K) fun j w => M.ct.j0 b a c w K
def M.au.j1 [SD] (b : List Value) (d c e : Value) (f g : KL) : QQ := fun w K => gt (fun h => je w fun w => w = w ∧ w = w ∧ gp (bT .leq T.c 30 31 (gv b 0) d w) w fun a => w = w ∧ gp (fun K' => gq (isB a true) (fun K' => K' c w) w K') w fun i => gp (fun K' => gq (isB a true) (fun K' => K' (gv b 0) w) w K') w fun j => gp (gq (isB a true) (iaT P T.an i j w) w) w fun l => gp (gq (isB a true) (ldT P T.am l w) w) w fun m => gp (fun K' => gq (isB a true) (fun K' => K' c w) w K') w fun n => gp (fun K' => gq (isB a true) (fun K' => K' e w) w K') w fun o => gp (gq (isB a true) (iaT P T.an n o w) w) w fun p => gp (gq (isB a true) (ldT P T.am p w) w) w fun q => gq (isB a true) (gr P F.dl [m, q] w) w fun r w => gp (il a r bF w) w fun s => ia s (h [] w) (f [(gv b 0)] w)) fun u w => bK .add T.c 44 (gv b 0) i1 w fun t w => g [t] w
def M.au.j4 [SD] (d b : List Value) (c e : Value) (f g : KL) : QQ := fun w K => gt (fun h => je w fun w => w = w ∧ w = w ∧ gp (bT .leq T.c 46 47 (gv d 0) (gv b 0) w) w fun a => w = w ∧ gp (fun K' => gq (isB a true) (fun K' => K' c w) w K') w fun i => gp (fun K' => gq (isB a true) (fun K' => K' (gv b 0) w) w K') w fun j => gp (gq (isB a true) (iaT P T.an i j w) w) w fun l => gp (gq (isB a true) (ldT P T.am l w) w) w fun m => gp (fun K' => gq (isB a true) (fun K' => K' c w) w K') w fun n => gp (fun K' => gq (isB a true) (fun K' => K' e w) w K') w fun o => gp (gq (isB a true) (iaT P T.an n o w) w) w fun p => gp (gq (isB a true) (ldT P T.am p w) w) w fun q => gq (isB a true) (gr P F.dl [m, q] w) w fun r w => gp (gq (isB a true) (unT P .not r w) w) w fun s => gp (il a s bF w) w fun t => ia t (h [] w) (f [(gv b 0)] w)) fun v w => bK .sub T.c 61 (gv b 0) i1 w fun u w => g [u] w
def M.au.j10 [SD] (b d : List Value) (c e : Value) (f g : KL) : QQ := fun w K => gt (fun h => je w fun w => w = w ∧ w = w ∧ gp (bT .leq T.c 99 100 (gv b 0) (gv d 1) w) w fun a => w = w ∧ gp (fun K' => gq (isB a true) (fun K' => K' c w) w K') w fun i => gp (fun K' => gq (isB a true) (fun K' => K' (gv b 0) w) w K') w fun j => gp (gq (isB a true) (iaT P T.an i j w) w) w fun l => gp (gq (isB a true) (ldT P T.am l w) w) w fun m => gp (fun K' => gq (isB a true) (fun K' => K' c w) w K') w fun n => gp (fun K' => gq (isB a true) (fun K' => K' e w) w K') w fun o => gp (gq (isB a true) (iaT P T.an n o w) w) w fun p => gp (gq (isB a true) (ldT P T.am p w) w) w fun q => gq (isB a true) (gr P F.dl [m, q] w) w fun r w => gp (il a r bF w) w fun s => ia s (h [] w) (f [(gv b 0)] w)) fun u w => bK .add T.c 113 (gv b 0) i1 w fun t w => g [t] w
def M.au.j13 [SD] (d b : List Value) (c e : Value) (f g : KL) : QQ := fun w K => gt (fun h => je w fun w => w = w ∧ w = w ∧ gp (bT .leq T.c 115 116 (gv d 0) (gv b 0) w) w fun a => w = w ∧ gp (fun K' => gq (isB a true) (fun K' => K' c w) w K') w fun i => gp (fun K' => gq (isB a true) (fun K' => K' (gv b 0) w) w K') w fun j => gp (gq (isB a true) (iaT P T.an i j w) w) w fun l => gp (gq (isB a true) (ldT P T.am l w) w) w fun m => gp (fun K' => gq (isB a true) (fun K' => K' c w) w K') w fun n => gp (fun K' => gq (isB a true) (fun K' => K' e w) w K') w fun o => gp (gq (isB a true) (iaT P T.an n o w) w) w fun p => gp (gq (isB a true) (ldT P T.am p w) w) w fun q => gq (isB a true) (gr P F.dl [m, q] w) w fun r w => gp (gq (isB a true) (unT P .not r w) w) w fun s => gp (il a s bF w) w fun t => ia t (h [] w) (f [(gv b 0)] w)) fun v w => bK .sub T.c 130 (gv b 0) i1 w fun u w => g [u] w
def M.au.j15 [SD] (a : Value) (b c : List Value) (d : KL) : QQ := fun w K => je w fun w => w = w ∧ w = w ∧ w = w ∧ w = w ∧ w = w ∧ w = w ∧ gp (iaT P T.an a (gv b 0) w) w fun e => gp (ldT P T.am e w) w fun f => w = w ∧ w = w ∧ gp (iaT P T.an a (gv c 0) w) w fun g => gp (ldT P T.am g w) w fun h => gp (iaT P T.an a (gv c 0) w) w fun i => stT P T.am i f w fun _ w => gy (fun K' => K' (gv b 0) w) w (gv b 0) ∧ gy (fun K' => K' a w) w a ∧ gp (iaT P T.an a (gv b 0) w) w fun j => stT P T.am j h w fun _ w => bK .add T.c 149 (gv c 0) i1 w fun l w => bK .sub T.c 151 (gv b 0) i1 w fun m w => d [l, m] w
def M.au.j9 [SD] (d a : List Value) (c e : Value) (f g : KL) : QQ := fun w K => gt (fun h => jh [(gv d 1)] w fun i j w => M.au.j13 a j c e h i w K) fun b w => gt (fun l => bT .gtr T.c 132 133 (gv a 0) (gv b 0) w fun m w => ia m (f [(gv a 0), (gv b 0)] w) (l [] w)) fun n w => M.au.j15 c b a g w K
def M.au.j7 [SD] (a b : Value) (c : List Value) : QQ := fun w K => je w fun w => w = w ∧ w = w ∧ w = w ∧ w = w ∧ w = w ∧ w = w ∧ gp (iaT P T.an a b w) w fun d => gp (ldT P T.am d w) w fun e => w = w ∧ w = w ∧ gp (iaT P T.an a (gv c 1) w) w fun f => gp (ldT P T.am f w) w fun g => gp (iaT P T.an a (gv c 1) w) w fun h => stT P T.am h e w fun _ w => gy (fun K' => K' b w) w b ∧ gy (fun K' => K' a w) w a ∧ gp (iaT P T.an a b w) w fun i => stT P T.am i g w fun _ w => K (.tuple #[(gv c 1), bF]) w
def M.au.j6 [SD] (a : Value) (b c : List Value) (d : Value) : QQ := fun w K => je w fun w => w = w ∧ w = w ∧ w = w ∧ w = w ∧ w = w ∧ w = w ∧ gp (iaT P T.an a (gv b 0) w) w fun f => gp (ldT P T.am f w) w fun g => w = w ∧ w = w ∧ gp (iaT P T.an a (gv c 0) w) w fun h => gp (ldT P T.am h w) w fun i => gp (iaT P T.an a (gv c 0) w) w fun j => stT P T.am j g w fun _ w => gy (fun K' => K' (gv b 0) w) w (gv b 0) ∧ gy (fun K' => K' a w) w a ∧ gp (iaT P T.an a (gv b 0) w) w fun l => stT P T.am l i w fun _ w => bK .add T.c 95 (gv c 0) i1 w fun m w => bK .sub T.c 97 (gv b 0) i1 w fun n w => gt (fun o => jh [m, n] w fun p e w => gt (fun q => jh [(gv e 0)] w fun r s w => M.au.j10 s e a d q r w K) fun t w => M.au.j9 e t a d o p w K) fun u w => M.au.j7 a d u w K
def M.au.j3 [SD] (d b : List Value) (a c : Value) : QQ := fun w K => gt (fun e => bT .gtr T.c 63 64 (gv d 0) (gv b 0) w fun f w => ia f (je w fun w => w = w ∧ w = w ∧ w = w ∧ w = w ∧ w = w ∧ w = w ∧ gp (iaT P T.an a c w) w fun g => gp (ldT P T.am g w) w fun h => w = w ∧ w = w ∧ gp (iaT P T.an a (gv b 0) w) w fun i => gp (ldT P T.am i w) w fun j => gp (iaT P T.an a (gv b 0) w) w fun l => stT P T.am l h w fun _ w => gy (fun K' => K' c w) w c ∧ gy (fun K' => K' a w) w a ∧ gp (iaT P T.an a c w) w fun m => stT P T.am m j w fun _ w => K (.tuple #[(gv b 0), bY]) w) (e [i0, bF] w)) fun n w => M.au.j6 a b d c w K
def M.au [SD] (a b f c : Value) : QQ := fun w K => je w fun w => w = w ∧ w = w ∧ w = w ∧ w = w ∧ w = w ∧ w = w ∧ gp (iaT P T.an a c w) w fun g => gp (ldT P T.am g w) w fun h => w = w ∧ w = w ∧ gp (iaT P T.an a b w) w fun i => gp (ldT P T.am i w) w fun j => gp (iaT P T.an a b w) w fun l => stT P T.am l h w fun _ w => gy (fun K' => K' c w) w c ∧ gy (fun K' => K' a w) w a ∧ gp (iaT P T.an a c w) w fun m => stT P T.am m j w fun _ w => bK .add T.c 26 b i1 w fun n w => bK .sub T.c 28 f i1 w fun d w => gt (fun o => jh [n] w fun p q w => M.au.j1 q d a b o p w K) fun e w => gt (fun r => jh [d] w fun s t w => M.au.j4 e t a b r s w K) fun u w => M.au.j3 e u a b w K
def M.cx.j3 [SD] (b d : List Value) (c e : Value) (f g : KL) : QQ := fun w K => gt (fun h => je w fun w => w = w ∧ w = w ∧ gp (bT .leq T.c 29 30 (gv b 0) (gv d 1) w) w fun a => w = w ∧ gp (fun K' => gq (isB a true) (fun K' => K' c w) w K') w fun i => gp (fun K' => gq (isB a true) (fun K' => K' e w) w K') w fun j => gp (gq (isB a true) (iaT P T.an i j w) w) w fun l => gp (gq (isB a true) (ldT P T.am l w) w) w fun m => gp (fun K' => gq (isB a true) (fun K' => K' c w) w K') w fun n => gp (fun K' => gq (isB a true) (fun K' => K' (gv b 0) w) w K') w fun o => gp (gq (isB a true) (iaT P T.an n o w) w) w fun p => gp (gq (isB a true) (ldT P T.am p w) w) w fun q => gq (isB a true) (gr P F.dl [m, q] w) w fun r w => gp (gq (isB a true) (unT P .not r w) w) w fun s => gp (il a s bF w) w fun t => ia t (h [] w) (f [(gv b 0)] w)) fun v w => bK .add T.c 44 (gv b 0) i1 w fun u w => g [u] w
def M.cx.j6 [SD] (d b : List Value) (c e : Value) (f g : KL) : QQ := fun w K => gt (fun h => je w fun w => w = w ∧ w = w ∧ gp (bT .leq T.c 46 47 (gv d 0) (gv b 0) w) w fun a => w = w ∧ gp (fun K' => gq (isB a true) (fun K' => K' c w) w K') w fun i => gp (fun K' => gq (isB a true) (fun K' => K' e w) w K') w fun j => gp (gq (isB a true) (iaT P T.an i j w) w) w fun l => gp (gq (isB a true) (ldT P T.am l w) w) w fun m => gp (fun K' => gq (isB a true) (fun K' => K' c w) w K') w fun n => gp (fun K' => gq (isB a true) (fun K' => K' (gv b 0) w) w K') w fun o => gp (gq (isB a true) (iaT P T.an n o w) w) w fun p => gp (gq (isB a true) (ldT P T.am p w) w) w fun q => gq (isB a true) (gr P F.dl [m, q] w) w fun r w => gp (il a r bF w) w fun s => ia s (h [] w) (f [(gv b 0)] w)) fun u w => bK .sub T.c 60 (gv b 0) i1 w fun t w => g [t] w
def M.cx.j8 [SD] (a : Value) (b c : List Value) (d : KL) : QQ := fun w K => je w fun w => w = w ∧ w = w ∧ w = w ∧ w = w ∧ w = w ∧ w = w ∧ gp (iaT P T.an a (gv b 0) w) w fun e => gp (ldT P T.am e w) w fun f => w = w ∧ w = w ∧ gp (iaT P T.an a (gv c 0) w) w fun g => gp (ldT P T.am g w) w fun h => gp (iaT P T.an a (gv c 0) w) w fun i => stT P T.am i f w fun _ w => gy (fun K' => K' (gv b 0) w) w (gv b 0) ∧ gy (fun K' => K' a w) w a ∧ gp (iaT P T.an a (gv b 0) w) w fun j => stT P T.am j h w fun _ w => bK .add T.c 79 (gv c 0) i1 w fun l w => bK .sub T.c 81 (gv b 0) i1 w fun m w => d [l, m] w
def M.cx.j2 [SD] (d a : List Value) (c e : Value) (f g : KL) : QQ := fun w K => gt (fun h => jh [(gv d 1)] w fun i j w => M.cx.j6 a j c e h i w K) fun b w => gt (fun l => bT .gtr T.c 62 63 (gv a 0) (gv b 0) w fun m w => ia m (f [(gv a 0), (gv b 0)] w) (l [] w)) fun n w => M.cx.j8 c b a g w K
def M.cx [SD] (a b e c : Value) : QQ := fun w K => je w fun w => w = w ∧ w = w ∧ w = w ∧ w = w ∧ w = w ∧ w = w ∧ gp (iaT P T.an a c w) w fun f => gp (ldT P T.am f w) w fun g => w = w ∧ w = w ∧ gp (iaT P T.an a b w) w fun h => gp (ldT P T.am h w) w fun i => gp (iaT P T.an a b w) w fun j => stT P T.am j g w fun _ w => gy (fun K' => K' c w) w c ∧ gy (fun K' => K' a w) w a ∧ gp (iaT P T.an a c w) w fun l => stT P T.am l i w fun _ w => bK .add T.c 25 b i1 w fun m w => bK .sub T.c 27 e i1 w fun n w => gt (fun o => jh [m, n] w fun p d w => gt (fun q => jh [(gv d 0)] w fun r s w => M.cx.j3 s d a b q r w K) fun t w => M.cx.j2 d t a b o p w K) fun u w => K (gv u 0) w
def M.al.j5 [SD] (b : List Value) (d c : Value) (e f : KL) : QQ := fun w K => gt (fun g => je w fun w => w = w ∧ w = w ∧ gp (bT .lss T.c 17 18 (gv b 0) d w) w fun a => w = w ∧ gp (fun K' => gq (isB a true) (fun K' => K' c w) w K') w fun h => gp (fun K' => gq (isB a true) (fun K' => K' (gv b 0) w) w K') w fun i => gp (gq (isB a true) (iaT P T.an h i w) w) w fun j => gp (gq (isB a true) (ldT P T.am j w) w) w fun l => gp (fun K' => gq (isB a true) (fun K' => K' c w) w K') w fun m => gp (fun K' => gq (isB a true) (fun K' => K' (gv b 0) w) w K') w fun n => gp (gq (isB a true) (bK .sub T.c 26 n i1 w) w) w fun o => gp (gq (isB a true) (iaT P T.an m o w) w) w fun p => gp (gq (isB a true) (ldT P T.am p w) w) w fun q => gq (isB a true) (gr P F.dl [l, q] w) w fun r w => gp (gq (isB a true) (unT P .not r w) w) w fun s => gp (il a s bF w) w fun t => ia t (g [] w) (e [(gv b 0)] w)) fun v w => bK .add T.c 33 (gv b 0) i1 w fun u w => f [u] w
def M.al.j13 [SD] (a : List Value) (b : Value) (d : KL) : QQ := fun w K => je w fun w => w = w ∧ w = w ∧ w = w ∧ w = w ∧ gp (bK .sub T.c 82 (gv a 0) i1 w) w fun c => w = w ∧ w = w ∧ gp (bK .sub T.c 85 (gv a 0) i1 w) w fun e => gp (iaT P T.an b e w) w fun f => gp (ldT P T.am f w) w fun g => w = w ∧ w = w ∧ gp (iaT P T.an b (gv a 0) w) w fun h => gp (ldT P T.am h w) w fun i => gp (iaT P T.an b (gv a 0) w) w fun j => stT P T.am j g w fun _ w => gy (bK .sub T.c 82 (gv a 0) i1 w) w c ∧ gy (fun K' => K' (gv a 0) w) w (gv a 0) ∧ gy (fun K' => K' b w) w b ∧ gp (iaT P T.an b c w) w fun l => stT P T.am l i w fun _ w => d [] w
def M.al.j11 [SD] (b : Value) (a : List Value) (c d : KL) : QQ := fun w K => gt (fun e => gt (fun f => je w fun w => w = w ∧ w = w ∧ gp (iaT P T.an b (gv a 0) w) w fun g => gp (ldT P T.am g w) w fun h => w = w ∧ w = w ∧ gp (bK .sub T.c 73 (gv a 0) i1 w) w fun i => gp (iaT P T.an b i w) w fun j => gp (ldT P T.am j w) w fun l => gr P F.dl [h, l] w fun m w => gp (unT P .not m w) w fun n => ia n (c [(gv a 0)] w) (f [] w)) fun p w => M.al.j13 a b e w K) fun q w => bK .sub T.c 66 (gv a 0) i1 w fun o w => d [o] w
def M.al.j17 [SD] (a : List Value) (b : Value) (d : KL) : QQ := fun w K => je w fun w => w = w ∧ w = w ∧ w = w ∧ w = w ∧ gp (bK .sub T.c 120 (gv a 0) i1 w) w fun c => w = w ∧ w = w ∧ gp (bK .sub T.c 123 (gv a 0) i1 w) w fun e => gp (iaT P T.an b e w) w fun f => gp (ldT P T.am f w) w fun g => w = w ∧ w = w ∧ gp (iaT P T.an b (gv a 0) w) w fun h => gp (ldT P T.am h w) w fun i => gp (iaT P T.an b (gv a 0) w) w fun j => stT P T.am j g w fun _ w => gy (bK .sub T.c 120 (gv a 0) i1 w) w c ∧ gy (fun K' => K' (gv a 0) w) w (gv a 0) ∧ gy (fun K' => K' b w) w b ∧ gp (iaT P T.an b c w) w fun l => stT P T.am l i w fun _ w => d [] w
def M.al.j15 [SD] (b : Value) (a : List Value) (c : KL) (d e f : List Value) (g : KL) : QQ := fun w K => gt (fun h => gt (fun i => je w fun w => w = w ∧ w = w ∧ gp (iaT P T.an b (gv a 0) w) w fun j => gp (ldT P T.am j w) w fun l => w = w ∧ w = w ∧ gp (bK .sub T.c 111 (gv a 0) i1 w) w fun m => gp (iaT P T.an b m w) w fun n => gp (ldT P T.am n w) w fun o => gr P F.dl [l, o] w fun p w => gp (unT P .not p w) w fun q => ia q (c [(gv d 0), (gv e 0), (gv f 0), (gv a 0)] w) (i [] w)) fun s w => M.al.j17 a b h w K) fun t w => bK .add T.c 104 (gv a 0) i1 w fun r w => g [r] w
def M.al.j14 [SD] (a : List Value) (f : Value) (b : KL) (c d e : List Value) (g : Value) (h : KL) : QQ := fun w K => gt (fun i => bT .lss T.c 101 102 (gv a 0) f w fun j w => ia j (i [] w) (b [(gv c 0), (gv d 0), (gv e 0), (gv a 0)] w)) fun l w => M.al.j15 g a b c d e h w K
def M.al.j9 [SD] (b : Value) (a : List Value) (c : KL) (d e : List Value) (f : Value) (g : List Value) : QQ := fun w K => bT .sub T.c 95 96 b (gv a 0) w fun h w => bK .geq T.c 97 h i2 w fun i w => ia i (bK .add T.c 99 (gv a 0) i1 w fun j w => jh [j] w fun l m w => M.al.j14 m b c a d e f l w K) (c [(gv a 0), (gv d 0), (gv e 0), (gv g 3)] w)
def M.al.j8 [SD] (a : List Value) (b g : Value) (e : List Value) (h : Value) (i : KL) (j : List Value) : QQ := fun w K => je w fun w => w = w ∧ w = w ∧ w = w ∧ w = w ∧ gp (bK .sub T.c 45 (gv a 0) i1 w) w fun f => w = w ∧ w = w ∧ gp (bK .sub T.c 48 (gv a 0) i1 w) w fun l => gp (iaT P T.an b l w) w fun m => gp (ldT P T.am m w) w fun n => w = w ∧ w = w ∧ gp (iaT P T.an b (gv a 0) w) w fun o => gp (ldT P T.am o w) w fun p => gp (iaT P T.an b (gv a 0) w) w fun q => stT P T.am q n w fun _ w => gy (bK .sub T.c 45 (gv a 0) i1 w) w f ∧ gy (fun K' => K' (gv a 0) w) w (gv a 0) ∧ gy (fun K' => K' b w) w b ∧ gp (iaT P T.an b f w) w fun r => stT P T.am r p w fun _ w => gt (fun c => bT .sub T.c 58 59 (gv a 0) g w fun s w => bK .geq T.c 60 s i2 w fun t w => ia t (bK .sub T.c 62 (gv a 0) i1 w fun u w => jh [u] w fun v d w => gt (fun x => bK .geq T.c 64 (gv d 0) i1 w fun y w => ia y (x [] w) (c [(gv d 0)] w)) fun A w => M.al.j11 b d c v w K) (c [(gv e 2)] w)) fun z w => M.al.j9 h a i j z b e w K
def M.al.j7 [SD] (a b : Value) (c d : List Value) (e : Value) (f : List Value) (g : KL) : QQ := fun w K => gt (fun h => bT .sub T.c 38 39 a b w fun i w => bK .lss T.c 40 i (.int .i64 50) w fun j w => ia j (K bF w) (h [(gv c 0)] w)) fun l w => M.al.j8 d e b f a g l w K
def M.al.j2 [SD] (a : List Value) (c d f : Value) (g : KL) : QQ := fun w K => gt (fun h => gt (fun i => jh [(gv a 0)] w fun j l w => M.al.j5 l c d i j w K) fun e w => gt (fun m => bT .eql T.c 35 36 (gv e 0) c w fun n w => ia n (K bY w) (m [(gv a 1)] w)) fun o w => M.al.j7 c f o e d a h w K) fun b w => bK .add T.c 15 (gv a 4) i1 w fun p w => g [(gv b 0), (gv b 1), (gv b 2), (gv b 3), p] w
def M.al.j1 [SD] (a : List Value) (b : KL) (c d e : Value) (f : KL) : QQ := fun w K => gt (fun g => bK .lss T.c 13 (gv a 4) (.int .i64 5) w fun h w => ia h (g [] w) (b [(gv a 4), (gv a 0), (gv a 1), (gv a 2), (gv a 3)] w)) fun i w => M.al.j2 a c d e f w K
def M.al [SD] (b a c : Value) : QQ := fun w K => bK .add T.c 11 a i1 w fun d w => gt (fun e => jh [d, bF, undef, undef, i0] w fun f g w => M.al.j1 g e c b a f w K) fun h w => K bF w
def M.df.j3 [SD] (c : Value) (a : List Value) (b : Value) (d : List Value) (f : KL) : QQ := fun w K => je w fun w => w = w ∧ w = w ∧ w = w ∧ w = w ∧ w = w ∧ gp (bT .add T.c 50 51 c (gv a 0) w) w fun e => w = w ∧ w = w ∧ w = w ∧ gp (bT .add T.c 54 55 c (gv a 0) w) w fun g => gp (iaT P T.an b g w) w fun h => gp (ldT P T.am h w) w fun i => w = w ∧ w = w ∧ gp (iaT P T.an b (gv d 1) w) w fun j => gp (ldT P T.am j w) w fun l => gp (iaT P T.an b (gv d 1) w) w fun m => stT P T.am m i w fun _ w => gy (bT .add T.c 50 51 c (gv a 0) w) w e ∧ gy (fun K' => K' (gv a 0) w) w (gv a 0) ∧ gy (fun K' => K' c w) w c ∧ gy (fun K' => K' b w) w b ∧ gp (iaT P T.an b e w) w fun n => stT P T.am n l w fun _ w => f [(gv a 0)] w
def M.df.j1 [SD] (e f b g h : Value) (c : List Value) (i : KL) : QQ := fun w K => gt (fun j => gr P F.cn [e] w fun l w => bK .sub T.ba 37 f (.int .u64 1) w fun m w => ij P .and T.ba (.tmp 36) (.tmp 38) l m w fun n w => cvT P T.ba T.c n w fun a w => gt (fun d => bT .geq T.c 41 42 a b w fun o w => ia o (bT .sub T.c 44 45 a b w fun p w => d [p] w) (d [a] w)) fun q w => M.df.j3 g q h c j w K) fun r w => bK .add T.c 34 (gv c 1) i1 w fun s w => i [(gv r 0), s] w
def M.df.j0 [SD] (a b : Value) (c : List Value) (d e f : Value) (g : KL) : QQ := fun w K => gt (fun h => ij P .quo T.c (.tmp 28) (.const (.int .i64 4)) a (.int .i64 4) w fun i w => ij P .mul T.c (.tmp 29) (.const i2) i i2 w fun j w => bT .add T.c 27 30 b j w fun l w => bK .add T.c 31 l i1 w fun m w => bT .leq T.c 26 32 (gv c 1) m w fun n w => ia n (h [] w) (K (.tuple #[]) w)) fun o w => M.df.j1 d e a b f c g w K
def M.df [SD] (d b e : Value) : QQ := fun w K => bT .sub T.c 11 12 e b w fun a w => bK .geq T.c 14 a (.int .i64 8) w fun f w => ia f (cvT P T.c T.x a w fun g w => alT P T.x w fun c w => stT P T.x c g w fun _ w => gr P F.cm [a] w fun h w => ij P .quo T.c (.tmp 21) (.const (.int .i64 4)) a (.int .i64 4) w fun i w => ij P .mul T.c (.tmp 22) (.const i2) i i2 w fun j w => bT .add T.c 20 23 b j w fun l w => bK .sub T.c 24 l i1 w fun m w => jh [undef, m] w fun n o w => M.df.j0 a b o c h d n w K) (K (.tuple #[]) w)
def M.ew [SD] (c a b d : Value) : QQ := fun w K => gt (fun e => je w fun w => w = w ∧ w = w ∧ gp (iaT P T.an c b w) w fun f => gp (ldT P T.am f w) w fun g => w = w ∧ w = w ∧ gp (iaT P T.an c a w) w fun h => gp (ldT P T.am h w) w fun i => gr P F.dl [g, i] w fun j w => ia j (jd d w fun l w => ldT P T.c l w fun m w => bK .add T.c 21 m i1 w fun n w => jd d w fun o w => stT P T.c o n w fun _ w => K (.tuple #[b, a]) w) (e [i0, i0] w)) fun p w => K (.tuple #[a, b]) w
def M.ex [SD] (a f g h b : Value) : QQ := fun w K => gr P F.gc [a, f, g, b] w fun c w => exT P c 0 w fun i w => exT P c 1 w fun j w => gr P F.gc [a, j, h, b] w fun d w => exT P d 0 w fun l w => exT P d 1 w fun n w => gr P F.gc [a, i, l, b] w fun e w => exT P e 0 w fun o w => exT P e 1 w fun m w => K m w
def M.ec [SD] (b a c : Value) : QQ := fun w K => bK .sub T.c 8 a i1 w fun d w => bK .add T.c 11 a i1 w fun e w => gr P F.gd [b, d, a, e, c] w fun f w => K f w
def M.ed.j0 [SD] (c : Value) (a : List Value) : QQ := fun w K => ldT P T.c c w fun b w => bK .eql T.c 49 b i0 w fun d w => ia d (K (.tuple #[(gv a 1), i1]) w) (bK .eql T.c 49 b (.int .i64 12) w fun e w => ia e (K (.tuple #[(gv a 1), i2]) w) (K (.tuple #[(gv a 1), i0]) w))
def M.ed [SD] (d e l : Value) : QQ := fun w K => bT .sub T.c 13 14 l e w fun a w => alT P T.c w fun b w => ij P .quo T.c (.tmp 17) (.const (.int .i64 4)) a (.int .i64 4) w fun m w => ij P .mul T.c (.tmp 18) (.const i1) m i1 w fun n w => bT .add T.c 16 19 e n w fun f w => ij P .quo T.c (.tmp 22) (.const (.int .i64 4)) a (.int .i64 4) w fun o w => ij P .mul T.c (.tmp 23) (.const i2) o i2 w fun p w => bT .add T.c 21 24 e p w fun g w => ij P .quo T.c (.tmp 27) (.const (.int .i64 4)) a (.int .i64 4) w fun q w => ij P .mul T.c (.tmp 28) (.const (.int .i64 3)) q (.int .i64 3) w fun r w => bT .add T.c 26 29 e r w fun h w => gt (fun i => bK .geq T.c 31 a (.int .i64 8) w fun s w => ia s (gt (fun j => bK .geq T.c 33 a (.int .i64 50) w fun t w => ia t (gr P F.fy [d, f, b] w fun u w => gr P F.fy [d, g, b] w fun v w => gr P F.fy [d, h, b] w fun x w => j [u, v, x] w) (j [f, g, h] w)) fun c w => gr P F.gd [d, (gv c 0), (gv c 1), (gv c 2), b] w fun y w => i [(gv c 0), y, (gv c 2)] w) (i [f, g, h] w)) fun z w => M.ed.j0 b z w K
def M.ei.j1 [SD] (b : Value) (a : List Value) (c : KL) : QQ := fun w K => je w fun w => w = w ∧ w = w ∧ w = w ∧ w = w ∧ w = w ∧ w = w ∧ gp (iaT P T.an b (gv a 1) w) w fun d => gp (ldT P T.am d w) w fun e => w = w ∧ w = w ∧ gp (iaT P T.an b (gv a 0) w) w fun f => gp (ldT P T.am f w) w fun g => gp (iaT P T.an b (gv a 0) w) w fun h => stT P T.am h e w fun _ w => gy (fun K' => K' (gv a 1) w) w (gv a 1) ∧ gy (fun K' => K' b w) w b ∧ gp (iaT P T.an b (gv a 1) w) w fun i => stT P T.am i g w fun _ w => bK .add T.c 28 (gv a 0) i1 w fun j w => bK .sub T.c 30 (gv a 1) i1 w fun l w => c [j, l] w
def M.ei [SD] (b c d : Value) : QQ := fun w K => bK .sub T.c 9 d i1 w fun e w => jh [c, e] w fun f a w => gt (fun g => bT .lss T.c 11 12 (gv a 0) (gv a 1) w fun h w => ia h (g [] w) (K (.tuple #[]) w)) fun i w => M.ei.j1 b a f w K
def M.bj.j6 [SD] (j : Value) (b d c : List Value) (l : Value) (e : List Value) (m : KL) : QQ := fun w K => gr P F.gg [j, (gv b 1), (gv d 13), (gv c 0)] w fun n w => exT P n 0 w fun a w => exT P n 1 w fun f w => bT .sub T.c 103 104 a (gv b 1) w fun g w => bT .sub T.c 106 107 (gv d 13) a w fun h w => ij P .quo T.c (.tmp 109) (.const (.int .i64 8)) l (.int .i64 8) w fun i w => bT .lss T.c 111 112 g h w fun o w => ia o (bT .geq T.c 114 115 g i w fun p w => gr P F.ge [j, (gv b 1), a, (gv e 0)] w fun t w => bK .add T.c 122 a i1 w fun q w => m [l, (gv e 0), (gv c 0), (gv c 1), (gv b 0), q, a, f, f, g, h, i, p, (gv d 13)] w) (bT .geq T.c 124 125 h i w fun r w => bK .add T.c 128 a i1 w fun s w => gr P F.ge [j, s, (gv d 13), (gv e 0)] w fun u w => m [l, (gv e 0), (gv c 0), (gv c 1), (gv b 0), (gv b 1), a, f, f, g, h, i, r, a] w)
def M.bj.j5 [SD] (a : List Value) (d : Value) (c : List Value) (e : KL) (f : Value) (g : List Value) : QQ := fun w K => gt (fun i => je w fun w => w = w ∧ gp (bK .gtr T.c 73 (gv a 5) i0 w) w fun b => w = w ∧ gp (fun K' => gq (isB b true) (fun K' => K' d w) w K') w fun j => gp (fun K' => gq (isB b true) (fun K' => K' (gv a 5) w) w K') w fun l => gp (gq (isB b true) (bK .sub T.c 77 l i1 w) w) w fun m => gp (gq (isB b true) (iaT P T.an j m w) w) w fun n => gp (gq (isB b true) (ldT P T.am n w) w) w fun o => gp (fun K' => gq (isB b true) (fun K' => K' d w) w K') w fun p => gp (fun K' => gq (isB b true) (fun K' => K' (gv c 0) w) w K') w fun q => gp (gq (isB b true) (iaT P T.an p q w) w) w fun r => gp (gq (isB b true) (ldT P T.am r w) w) w fun s => gq (isB b true) (gr P F.dl [o, s] w) w fun t w => gp (gq (isB b true) (unT P .not t w) w) w fun u => gp (il b u bF w) w fun v => ia v (gr P F.gk [d, (gv a 5), (gv a 13), (gv c 0)] w fun h w => e [f, (gv g 0), (gv c 0), (gv c 1), h, h, (gv a 6), (gv a 7), (gv a 8), (gv a 9), (gv a 10), (gv a 11), (gv a 12), (gv a 13)] w) (i [(gv a 4), (gv a 5)] w)) fun x w => M.bj.j6 d x a c f g e w K
def M.bj.j4 [SD] (a c : List Value) (d : Value) (f : KL) (g : Value) (h : List Value) : QQ := fun w K => gt (fun e => gq (isB (gv a 12) true) (fun K' => K' (gv a 8) w) w fun i w => il (gv a 12) i bF w fun b w => gq (isB b true) (fun K' => K' (gv c 1) w) w fun j w => gq (isB b true) (ij P .eql T.bj (.tmp 66) (.const i1) j i1 w) w fun l w => il b l bF w fun m w => ia m (gr P F.gh [d, (gv a 5), (gv a 13)] w fun n w => ia n (K (.tuple #[]) w) (e [] w)) (e [] w)) fun o w => M.bj.j5 a d c f g h w K
def M.bj.j3 [SD] (b : Value) (a : List Value) (g : KL) (h : Value) (i : List Value) : QQ := fun w K => gr P F.gm [b, (gv a 5), (gv a 13)] w fun c w => exT P c 0 w fun d w => exT P c 1 w fun e w => gt (fun f => ij P .eql T.bj (.tmp 49) (.const i2) e i2 w fun j w => ia j (gr P F.gn [b, (gv a 5), (gv a 13)] w fun p w => bK .sub T.c 55 (gv a 13) i1 w fun l w => bT .sub T.c 57 58 d (gv a 5) w fun m w => bT .sub T.c 56 59 l m w fun n w => f [n, i1] w) (f [d, e] w)) fun o w => M.bj.j4 a o b g h i w K
def M.bj.j2 [SD] (a : List Value) (b : Value) (d : KL) (e : Value) : QQ := fun w K => gt (fun c => unT P .not (gv a 12) w fun f w => ia f (gr P F.gl [b, (gv a 5), (gv a 13)] w fun i w => bK .sub T.c 40 (gv a 1) i1 w fun g w => c [g] w) (c [(gv a 1)] w)) fun h w => M.bj.j3 b a d e h w K
def M.bj.j1 [SD] (a : List Value) (b : Value) (c : KL) (d : Value) : QQ := fun w K => gt (fun e => bK .eql T.c 28 (gv a 1) i0 w fun f w => ia f (gr P F.gf [b, (gv a 5), (gv a 13)] w fun g w => K (.tuple #[]) w) (e [] w)) fun h w => M.bj.j2 a b c d w K
def M.bj.j0 [SD] (a : List Value) (b : Value) (d : KL) : QQ := fun w K => bT .sub T.c 19 20 (gv a 13) (gv a 5) w fun c w => gt (fun e => bK .leq T.c 22 c (.int .i64 12) w fun f w => ia f (gr P F.gj [b, (gv a 5), (gv a 13)] w fun g w => K (.tuple #[]) w) (e [] w)) fun h w => M.bj.j1 a b d c w K
def M.bj [SD] (a b c d : Value) : QQ := fun w K => jh [undef, d, undef, undef, undef, b, undef, undef, bY, undef, undef, undef, bY, c] w fun e f w => M.bj.j0 f a e w K
def M.ee [SD] (a : Value) : QQ := fun w K => biT P .len #[T.an] T.c [false] [a] w fun b w => cvT P T.c T.ba b w fun c w => gr P F.en [c] w fun d w => gr P F.ge [a, i0, b, d] w fun e w => K (.tuple #[]) w
def M.eb.L : List Nat := [0, 1, 4]
def M.eb.pl : Nat → qg := fun id => ⟨.nil, [], false, []⟩
def M.ev.L : List Nat := [0, 2]
def M.ev.pl : Nat → qg := fun id => ⟨.nil, [], false, []⟩
def M.cw.L : List Nat := [0, 1, 2, 6, 7]
def M.cw.pl : Nat → qg := fun id => cond (Nat.beq id 4) ⟨(gS 0 13 (.eff 13 (.go 14 .nil) .ik)), [13], false, [0, 0, 3, 7, 15, 15, 63, 127, 15, 15, 527, 1807, 3855, 8191, 16383]⟩ (cond (Nat.beq id 6) ⟨(gS 0 15 (.eff 15 (.go 16 (.eff 17 .nil .ik)) .ik)), [15, 17], false, [0, 0, 0, 0, 8, 0, 0, 64, 224, 480, 0, 0, 3072, 7168, 16355, 32739, 65535, 131071]⟩ (⟨.nil, [], false, []⟩))
def M.cb.L : List Nat := [0, 1, 2, 3, 8, 9]
def M.cb.pl : Nat → qg := fun id => cond (Nat.beq id 3) ⟨(gS 0 18 (.eff 18 (.go 19 .nil) .ik)), [18], false, [0, 1, 0, 7, 15, 31, 31, 31, 223, 511, 1023, 31, 31, 31, 12319, 28703, 63519, 129055, 262143, 524287]⟩ (cond (Nat.beq id 5) ⟨(gS 0 12 (.eff 12 (.go 13 .nil) .ik)), [12], false, [0, 0, 0, 6, 15, 31, 0, 0, 0, 384, 960, 1984, 4095, 8191]⟩ (cond (Nat.beq id 6) ⟨(gS 0 21 (.eff 21 (.go 22 (.eff 23 .nil .ik)) .ik)), [21, 23], false, [0, 0, 0, 6, 0, 0, 0, 96, 0, 0, 0, 1536, 3840, 7936, 0, 0, 0, 98304, 245760, 507904, 1048335, 2096911, 4194303, 8388607]⟩ (⟨.nil, [], false, []⟩)))
def M.ct.L : List Nat := [0, 1, 2, 6, 7, 8, 9, 10]
def M.ct.pl : Nat → qg := fun id => cond (Nat.beq id 10) ⟨(gS 0 17 (.eff 17 (.go 18 (.eff 19 .nil .ik)) .ik)), [17, 19], false, [0, 0, 0, 0, 0, 24, 0, 0, 0, 384, 960, 1984, 0, 0, 12288, 28672, 65475, 131011, 262143, 524287]⟩ (⟨.nil, [], false, []⟩)
def M.au.L : List Nat := [0, 1, 2, 3, 8, 9, 10, 11]
def M.au.pl : Nat → qg := fun id => cond (Nat.beq id 1) ⟨(gS 0 13 (.eff 13 (.go 14 (.eff 15 .nil .ik)) .ik)), [13, 15], false, [0, 0, 0, 0, 0, 0, 48, 112, 0, 0, 768, 1792, 4083, 8179, 16383, 32767]⟩ (cond (Nat.beq id 3) ⟨(gS 0 12 (.eff 12 (.go 13 .nil) .ik)), [12], false, [0, 0, 3, 7, 15, 15, 63, 127, 15, 15, 783, 1807, 4095, 8191]⟩ (cond (Nat.beq id 5) ⟨(gS 0 12 (.eff 12 (.go 13 (.go 14 .nil)) .ik)), [12], false, [0, 0, 3, 7, 15, 15, 63, 127, 15, 15, 783, 1807, 4095, 8191, 16383]⟩ (cond (Nat.beq id 8) ⟨(gS 0 13 (.eff 13 (.go 14 (.eff 15 .nil .ik)) .ik)), [13, 15], false, [0, 0, 0, 0, 0, 0, 48, 112, 0, 0, 768, 1792, 4083, 8179, 16383, 32767]⟩ (cond (Nat.beq id 10) ⟨(gS 0 13 (.eff 13 (.go 14 (.eff 15 .nil .ik)) .ik)), [13, 15], false, [0, 0, 0, 0, 0, 0, 48, 112, 0, 0, 768, 1792, 4083, 8179, 16383, 32767]⟩ (cond (Nat.beq id 13) ⟨(gS 0 12 (.eff 12 (.go 13 .nil) .ik)), [12], false, [0, 0, 3, 7, 15, 15, 63, 127, 15, 15, 783, 1807, 4095, 8191]⟩ (cond (Nat.beq id 15) ⟨(gS 0 12 (.eff 12 (.go 13 (.go 14 .nil)) .ik)), [12], false, [0, 0, 3, 7, 15, 15, 63, 127, 15, 15, 783, 1807, 4095, 8191, 16383]⟩ (cond (Nat.beq id 18) ⟨(gS 0 13 (.eff 13 (.go 14 (.eff 15 .nil .ik)) .ik)), [13, 15], false, [0, 0, 0, 0, 0, 0, 48, 112, 0, 0, 768, 1792, 4083, 8179, 16383, 32767]⟩ (cond (Nat.beq id 21) ⟨(gS 0 13 (.eff 13 (.go 14 (.eff 15 .nil .ik)) .ik)), [13, 15], false, [0, 0, 0, 0, 0, 0, 48, 112, 0, 0, 768, 1792, 4083, 8179, 16383, 32767]⟩ (⟨.nil, [], false, []⟩)))))))))
def M.cx.L : List Nat := [0, 1, 2, 3, 8, 9, 10]
def M.cx.pl : Nat → qg := fun id => cond (Nat.beq id 1) ⟨(gS 0 13 (.eff 13 (.go 14 (.eff 15 .nil .ik)) .ik)), [13, 15], false, [0, 0, 0, 0, 0, 0, 48, 112, 0, 0, 768, 1792, 4083, 8179, 16383, 32767]⟩ (cond (Nat.beq id 3) ⟨(gS 0 12 (.eff 12 (.go 13 (.go 14 .nil)) .ik)), [12], false, [0, 0, 3, 7, 15, 15, 63, 127, 15, 15, 783, 1807, 4095, 8191, 16383]⟩ (cond (Nat.beq id 5) ⟨(gS 0 12 (.eff 12 (.go 13 .nil) .ik)), [12], false, [0, 0, 3, 7, 15, 15, 63, 127, 15, 15, 783, 1807, 4095, 8191]⟩ (cond (Nat.beq id 8) ⟨(gS 0 13 (.eff 13 (.go 14 (.eff 15 .nil .ik)) .ik)), [13, 15], false, [0, 0, 0, 0, 0, 0, 48, 112, 0, 0, 768, 1792, 4083, 8179, 16383, 32767]⟩ (⟨.nil, [], false, []⟩))))
def M.al.L : List Nat := [0, 1, 2, 6, 7, 8, 9, 10]
def M.al.pl : Nat → qg := fun id => cond (Nat.beq id 5) ⟨(gS 0 13 (.eff 13 (.go 14 (.go 15 .nil)) .ik)), [13], false, [0, 0, 3, 7, 15, 15, 63, 127, 15, 15, 527, 1807, 3855, 8191, 16383, 32767]⟩ (cond (Nat.beq id 11) ⟨(gS 0 15 (.eff 15 (.go 16 (.eff 17 .nil .ik)) .ik)), [15, 17], false, [0, 0, 0, 0, 8, 0, 0, 64, 224, 480, 0, 0, 3072, 7168, 16355, 32739, 65535, 131071]⟩ (cond (Nat.beq id 16) ⟨(gS 0 9 (.eff 9 (.go 10 .nil) .ik)), [9], false, [0, 0, 3, 7, 0, 0, 32, 112, 240, 511, 1023]⟩ (cond (Nat.beq id 17) ⟨(gS 0 15 (.eff 15 (.go 16 (.eff 17 .nil .ik)) .ik)), [15, 17], false, [0, 0, 0, 0, 8, 0, 0, 64, 224, 480, 0, 0, 3072, 7168, 16355, 32739, 65535, 131071]⟩ (cond (Nat.beq id 22) ⟨(gS 0 9 (.eff 9 (.go 10 .nil) .ik)), [9], false, [0, 0, 3, 7, 0, 0, 32, 112, 240, 511, 1023]⟩ (cond (Nat.beq id 23) ⟨(gS 0 15 (.eff 15 (.go 16 (.eff 17 .nil .ik)) .ik)), [15, 17], false, [0, 0, 0, 0, 8, 0, 0, 64, 224, 480, 0, 0, 3072, 7168, 16355, 32739, 65535, 131071]⟩ (⟨.nil, [], false, []⟩))))))
def M.df.L : List Nat := [0, 1, 2, 6, 8, 9, 10, 7]
def M.df.pl : Nat → qg := fun id => cond (Nat.beq id 10) ⟨(gS 0 17 (.eff 17 (.go 18 (.eff 19 .nil .ik)) .ik)), [17, 19], false, [0, 0, 0, 0, 0, 24, 0, 0, 0, 384, 960, 1984, 0, 0, 12288, 28672, 65475, 131011, 262143, 524287]⟩ (⟨.nil, [], false, []⟩)
def M.ew.L : List Nat := [0, 1, 2, 3, 8, 9]
def M.ew.pl : Nat → qg := fun id => cond (Nat.beq id 1) ⟨(gS 0 8 (.eff 8 .nil .ik)), [8], false, [0, 0, 3, 7, 0, 0, 48, 112, 255]⟩ (⟨.nil, [], false, []⟩)
def M.ex.L : List Nat := [0, 1, 2, 3, 4, 10]
def M.ex.pl : Nat → qg := fun id => ⟨.nil, [], false, []⟩
def M.ec.L : List Nat := [0, 1, 2, 6]
def M.ec.pl : Nat → qg := fun id => ⟨.nil, [], false, []⟩
def M.ed.L : List Nat := [0, 1, 2, 6, 7, 8, 10, 11, 12, 51, 54, 9]
def M.ed.pl : Nat → qg := fun id => ⟨.nil, [], false, []⟩
def M.ei.L : List Nat := [0, 1, 2, 6, 7]
def M.ei.pl : Nat → qg := fun id => cond (Nat.beq id 3) ⟨(gS 0 13 (.eff 13 (.go 14 (.eff 15 .nil .ik)) .ik)), [13, 15], false, [0, 0, 0, 0, 0, 0, 48, 112, 0, 0, 768, 1792, 4083, 8179, 16383, 32767]⟩ (⟨.nil, [], false, []⟩)
def M.bj.L : List Nat := [0, 1, 2, 3, 8, 9, 10, 11, 12, 13, 14, 15, 16, 17, 18]
def M.bj.pl : Nat → qg := fun id => cond (Nat.beq id 17) ⟨(gS 0 12 (.eff 12 (.go 13 (.go 14 .nil)) .ik)), [12], false, [0, 1, 3, 7, 7, 23, 63, 127, 7, 7, 775, 1799, 4095, 8191, 16383]⟩ (⟨.nil, [], false, []⟩)
def M.ee.L : List Nat := [0, 2]
def M.ee.pl : Nat → qg := fun id => ⟨.nil, [], false, []⟩
class SE extends SD where
 bft : oe P sl = true
 sz : szE P sl = 1
 ld : ∀ (b i : Nat) (w : World) (K : KV), ldT P el (.pointer (some ⟨b, i, none⟩)) w K = ld1 P b i w K
 st : ∀ (b i : Nat) (x : Int) (w : World) (K : KV), stT P el (.pointer (some ⟨b, i, none⟩)) (.int k x) w K = st1 P b i (.int k x) w K
 aru : C2 azh M.eb
 aux : fC azh
 ayt : C1 bfy M.ev
 azy : fC bfy
 azm : C3 bhh M.cw
 ayq : fC bhh
 asc : C4 bal M.cb
 auq : fC bal
 auz : C3 bba M.ct
 avu : fC bba
 art : C4 bax M.au
 ave : fC bax
 azk : C4 bgr M.cx
 azl : fC bgr
 aus : C3 azz M.al
 avb : fC azz
 bbe : C3 bhe M.df
 bat : fC bhe
 azx : C4 bii M.ew
 bam : fC bii
 azi : C5 bia M.ex
 bai : fC bia
 arp : C3 bbh M.ec
 arj : fC bbh
 ayo : C3 bfl M.ed
 ban : fC bfl
 bbn : C3 bfo M.ei
 bbg : fC bfo
 bao : C4 bfu M.bj
 ayv : fC bfu
 atk : C1 bap M.ee
 beo : fC bap
section
variable [SE]
@[simp] theorem SE.cad : oe P T.an = true := SE.bft
@[simp] theorem SE.sz' : szE P T.an = 1 := SE.sz
@[simp] theorem SE.ld' (b i : Nat) (w : World) (K : KV) : ldT P T.am (.pointer (some ⟨b, i, none⟩)) w K = ld1 P b i w K := SE.ld b i w K
@[simp] theorem SE.st' (b i : Nat) (x : Int) (w : World) (K : KV) : stT P T.am (.pointer (some ⟨b, i, none⟩)) (.int SD.k x) w K = st1 P b i (.int SD.k x) w K := SE.st b i x w K
theorem M.eb.calls : C2 F.dl M.eb := SE.aru
theorem M.eb.fcall : fC F.dl := SE.aux
theorem M.ev.calls : C1 F.gi M.ev := SE.ayt
theorem M.ev.fcall : fC F.gi := SE.azy
theorem M.cw.calls : C3 F.gj M.cw := SE.azm
theorem M.cw.fcall : fC F.gj := SE.ayq
theorem M.cb.calls : C4 F.gb M.cb := SE.asc
theorem M.cb.fcall : fC F.gb := SE.auq
theorem M.ct.calls : C3 F.gf M.ct := SE.auz
theorem M.ct.fcall : fC F.gf := SE.avu
theorem M.au.calls : C4 F.gg M.au := SE.art
theorem M.au.fcall : fC F.gg := SE.ave
theorem M.cx.calls : C4 F.gk M.cx := SE.azk
theorem M.cx.fcall : fC F.gk := SE.azl
theorem M.al.calls : C3 F.gh M.al := SE.aus
theorem M.al.fcall : fC F.gh := SE.avb
theorem M.df.calls : C3 F.gl M.df := SE.bbe
theorem M.df.fcall : fC F.gl := SE.bat
theorem M.ew.calls : C4 F.gc M.ew := SE.azx
theorem M.ew.fcall : fC F.gc := SE.bam
theorem M.ex.calls : C5 F.gd M.ex := SE.azi
theorem M.ex.fcall : fC F.gd := SE.bai
theorem M.ec.calls : C3 F.fy M.ec := SE.arp
theorem M.ec.fcall : fC F.fy := SE.arj
theorem M.ed.calls : C3 F.gm M.ed := SE.ayo
theorem M.ed.fcall : fC F.gm := SE.ban
theorem M.ei.calls : C3 F.gn M.ei := SE.bbn
theorem M.ei.fcall : fC F.gn := SE.bbg
theorem M.bj.calls : C4 F.ge M.bj := SE.bao
theorem M.bj.fcall : fC F.ge := SE.ayv
theorem M.ee.calls : C1 F.go M.ee := SE.atk
end
abbrev sdI : SD := ⟨.i64, T.c, T.ad, F.cj, F.cd, F.s, F.aj, F.ai, F.ad, F.q, F.f, F.t, F.ap, F.ao, F.r, F.y, F.v, F.ak, F.ab⟩
theorem M.eb.callsI : C2 F.cj (@M.eb sdI) := mk2 M.eb.L M.eb.pl FN.cj.at
theorem M.ev.callsI : C1 F.cd (@M.ev sdI) := mk1 M.ev.L M.ev.pl FN.cd.at
theorem M.cw.callsI : C3 F.s (@M.cw sdI) := mk3 M.cw.L M.cw.pl FN.s.at
theorem M.cb.callsI : C4 F.aj (@M.cb sdI) := mk4 M.cb.L M.cb.pl FN.aj.at
theorem M.ct.callsI : C3 F.ai (@M.ct sdI) := mk3 M.ct.L M.ct.pl FN.ai.at
theorem M.au.callsI : C4 F.ad (@M.au sdI) := mk4 M.au.L M.au.pl FN.ad.at
theorem M.cx.callsI : C4 F.q (@M.cx sdI) := mk4 M.cx.L M.cx.pl FN.q.at
theorem M.al.callsI : C3 F.f (@M.al sdI) := mk3 M.al.L M.al.pl FN.f.at
theorem M.df.callsI : C3 F.t (@M.df sdI) := mk3 M.df.L M.df.pl FN.t.at
theorem M.ew.callsI : C4 F.ap (@M.ew sdI) := mk4 M.ew.L M.ew.pl FN.ap.at
theorem M.ex.callsI : C5 F.ao (@M.ex sdI) := mk5 M.ex.L M.ex.pl FN.ao.at
theorem M.ec.callsI : C3 F.r (@M.ec sdI) := mk3 M.ec.L M.ec.pl FN.r.at
theorem M.ed.callsI : C3 F.y (@M.ed sdI) := mk3 M.ed.L M.ed.pl FN.y.at
theorem M.ei.callsI : C3 F.v (@M.ei sdI) := mk3 M.ei.L M.ei.pl FN.v.at
theorem M.bj.callsI : C4 F.ak (@M.bj sdI) := mk4 M.bj.L M.bj.pl FN.ak.at
theorem M.ee.callsI : C1 F.ab (@M.ee sdI) := mk1 M.ee.L M.ee.pl FN.ab.at
abbrev seI : SE where
 toSD := sdI
 bft := by kernel_rfl
 sz := by kernel_rfl
 ld := fun b i w K => kr
 st := fun b i x w K => kr
 aru := M.eb.callsI
 aux := fcN FN.cj.at
 ayt := M.ev.callsI
 azy := fcN FN.cd.at
 azm := M.cw.callsI
 ayq := fcN FN.s.at
 asc := M.cb.callsI
 auq := fcN FN.aj.at
 auz := M.ct.callsI
 avu := fcN FN.ai.at
 art := M.au.callsI
 ave := fcN FN.ad.at
 azk := M.cx.callsI
 azl := fcN FN.q.at
 aus := M.al.callsI
 avb := fcN FN.f.at
 bbe := M.df.callsI
 bat := fcN FN.t.at
 azx := M.ew.callsI
 bam := fcN FN.ap.at
 azi := M.ex.callsI
 bai := fcN FN.ao.at
 arp := M.ec.callsI
 arj := fcN FN.r.at
 ayo := M.ed.callsI
 ban := fcN FN.y.at
 bbn := M.ei.callsI
 bbg := fcN FN.v.at
 bao := M.bj.callsI
 ayv := fcN FN.ak.at
 atk := M.ee.callsI
 beo := fcN FN.ab.at
abbrev sdU : SD := ⟨.u64, T.g, T.h, F.bq, F.al, F.l, F.x, F.w, F.u, F.i, F.e, F.m, F.ae, F.ac, F.j, F.p, F.o, F.aa, F.d⟩
theorem M.eb.callsU : C2 F.bq (@M.eb sdU) := mk2 M.eb.L M.eb.pl FN.bq.at
theorem M.ev.callsU : C1 F.al (@M.ev sdU) := mk1 M.ev.L M.ev.pl FN.al.at
theorem M.cw.callsU : C3 F.l (@M.cw sdU) := mk3 M.cw.L M.cw.pl FN.l.at
theorem M.cb.callsU : C4 F.x (@M.cb sdU) := mk4 M.cb.L M.cb.pl FN.x.at
theorem M.ct.callsU : C3 F.w (@M.ct sdU) := mk3 M.ct.L M.ct.pl FN.w.at
theorem M.au.callsU : C4 F.u (@M.au sdU) := mk4 M.au.L M.au.pl FN.u.at
theorem M.cx.callsU : C4 F.i (@M.cx sdU) := mk4 M.cx.L M.cx.pl FN.i.at
theorem M.al.callsU : C3 F.e (@M.al sdU) := mk3 M.al.L M.al.pl FN.e.at
theorem M.df.callsU : C3 F.m (@M.df sdU) := mk3 M.df.L M.df.pl FN.m.at
theorem M.ew.callsU : C4 F.ae (@M.ew sdU) := mk4 M.ew.L M.ew.pl FN.ae.at
theorem M.ex.callsU : C5 F.ac (@M.ex sdU) := mk5 M.ex.L M.ex.pl FN.ac.at
theorem M.ec.callsU : C3 F.j (@M.ec sdU) := mk3 M.ec.L M.ec.pl FN.j.at
theorem M.ed.callsU : C3 F.p (@M.ed sdU) := mk3 M.ed.L M.ed.pl FN.p.at
theorem M.ei.callsU : C3 F.o (@M.ei sdU) := mk3 M.ei.L M.ei.pl FN.o.at
theorem M.bj.callsU : C4 F.aa (@M.bj sdU) := mk4 M.bj.L M.bj.pl FN.aa.at
theorem M.ee.callsU : C1 F.d (@M.ee sdU) := mk1 M.ee.L M.ee.pl FN.d.at
abbrev seU : SE where
 toSD := sdU
 bft := by kernel_rfl
 sz := by kernel_rfl
 ld := fun b i w K => kr
 st := fun b i x w K => kr
 aru := M.eb.callsU
 aux := fcN FN.bq.at
 ayt := M.ev.callsU
 azy := fcN FN.al.at
 azm := M.cw.callsU
 ayq := fcN FN.l.at
 asc := M.cb.callsU
 auq := fcN FN.x.at
 auz := M.ct.callsU
 avu := fcN FN.w.at
 art := M.au.callsU
 ave := fcN FN.u.at
 azk := M.cx.callsU
 azl := fcN FN.i.at
 aus := M.al.callsU
 avb := fcN FN.e.at
 bbe := M.df.callsU
 bat := fcN FN.m.at
 azx := M.ew.callsU
 bam := fcN FN.ae.at
 azi := M.ex.callsU
 bai := fcN FN.ac.at
 arp := M.ec.callsU
 arj := fcN FN.j.at
 ayo := M.ed.callsU
 ban := fcN FN.p.at
 bbn := M.ei.callsU
 bbg := fcN FN.o.at
 bao := M.bj.callsU
 ayv := fcN FN.aa.at
 atk := M.ee.callsU
 beo := fcN FN.d.at
end Go.Proofs.YtfnhoaemapheoaaGreat
set_option maxRecDepth 100000
namespace Go.Proofs.YtfnhoaemapheoaaGreat.SG
open Go.Eng Go.Sort
variable [SE]
def Rw (w : World) (g : Nat) (e : TypeId) (cap : Nat) (d : Array Int) : Prop := ∃ cur : Array Value, w.heap[g]? = some (.cells cur e (0, 0)) ∧ cur.size = cap ∧ d.size ≤ cap ∧ ∀ j, j < d.size → cur[j]? = some (.int SD.k d[j]!)
section
variable {w w' : World} {g cap : Nat} {e : TypeId} {d : Array Int} {S : Nat → Prop}
theorem Rw.at (h : Rw w g e cap d) {j : Nat} (hj : j < d.size) : ic w g j = some (.int SD.k d[j]!) := by
 obtain ⟨cur, h1, _, _, h4⟩ := h
 rw [ie h1]; exact h4 j hj
theorem Rw.frz (h : Rw w g e cap d) (j : Nat) : rn w g j = false := by
 obtain ⟨cur, h1, _⟩ := h
 exact pg h1 j
theorem Rw.lt (h : Rw w g e cap d) : g < w.heap.size := by
 obtain ⟨cur, h1, _⟩ := h
 exact qa h1
theorem Rw.heap (h : Rw w g e cap d) (he : w'.heap[g]? = w.heap[g]?) : Rw w' g e cap d := by
 obtain ⟨cur, h1, h2⟩ := h
 exact ⟨cur, he.trans h1, h2⟩
theorem Rw.fr (h : Rw w g e cap d) (hf : Fr S w w') (hn : ¬ S g) : Rw w' g e cap d := h.heap (hf.ke g h.lt hn)
omit [SE] in
theorem bnd (d : Array Int) {i : Nat} (hi : i < d.size) (x : Int) (j : Nat) : (d.setIfInBounds i x)[j]! = if i = j then x else d[j]! := by
 by_cases h : i = j
 ·subst h; simp [hi]
 ·simp [h, getElem!_def, Array.getElem?_setIfInBounds]
theorem Rw.set (h : Rw w g e cap d) {i : Nat} (hi : i < d.size) (x : Int) : Rw (w.setCell ⟨g, i, none⟩ (.int SD.k x)) g e cap (d.setIfInBounds i x) := by
 obtain ⟨cur, h1, h2, h3, h4⟩ := h
 refine ⟨cur.setIfInBounds i (.int SD.k x), nj h1, by simpa using h2, by simpa using h3, fun j hj => ?_⟩
 have hj' : j < d.size := by simpa using hj
 rw [bnd d hi, Array.getElem?_setIfInBounds]
 by_cases hij : i = j
 ·subst hij; simp [h2]; omega
 ·rw [if_neg hij, if_neg hij]; exact h4 j hj'
theorem Rw.swp (h : Rw w g e cap d) {i j : Nat} (hi : i < d.size) (hj : j < d.size) : Rw ((w.setCell ⟨g, i, none⟩ (.int SD.k d[j]!)).setCell ⟨g, j, none⟩ (.int SD.k d[i]!)) g e cap (Sort.swp d i j) := by
 have := (h.set hi d[j]!).set (i := j) (by simpa using hj) d[i]!
 exact this
theorem Rw.dr (h : Rw w g e cap d) (n : Nat) : Rw (Eng.dr w n) g e cap d := h.heap rfl
structure Rf (w w' : World) (g : Nat) (e : TypeId) (cap : Nat) (d : Array Int) : Prop where
 row : Rw w' g e cap d
 fr : Fr (fun b => b = g) w w'
theorem Rw.xi (h : Rw w g e cap d) : Rf w w g e cap d := ⟨h, Fr.refl _ _⟩
theorem Rf.dr (h : Rf w w' g e cap d) (n : Nat) : Rf w (Eng.dr w' n) g e cap d := ⟨h.row.dr n, h.fr.dr n⟩
theorem Rf.swp (h : Rf w w' g e cap d) {i j : Nat} (hi : i < d.size) (hj : j < d.size) : Rf w ((w'.setCell ⟨g, i, none⟩ (.int SD.k d[j]!)).setCell ⟨g, j, none⟩ (.int SD.k d[i]!)) g e cap (Sort.swp d i j) :=
 ⟨h.row.swp hi hj, (h.fr.setCell (.inl rfl) _ _).setCell (.inl rfl) _ _⟩
theorem Rf.trans {w'' : World} {d' : Array Int} (h : Rf w w' g e cap d) (h' : Rf w' w'' g e cap d') : Rf w w'' g e cap d' := ⟨h'.row, h.fr.trans h'.fr⟩
end
theorem sw {w : World} (x y : Int) {K : KV} (h : K (.bool (ltInt x y)) w) : gr P F.dl [.int SD.k x, .int SD.k y] w K := by
 have nan : ∀ (z : Int) {K : KV}, K (.bool false) w → gr P F.gi [.int SD.k z] w K := fun z K hK => by
  rw [M.ev.fcall]
  apply M.ev.calls
  unfold M.ev
  simp
  exact hK
 rw [M.eb.fcall]
 apply M.eb.calls
 unfold M.eb
 refine nan x ?_
 simp
 exact h
omit [SE] in
theorem boi {x : Nat} (h : x < 1000000) : IntKind.i64.wrap (x : Int) = x := ig
omit [SE] in
theorem rj {x : Nat} (h : x < 1000000) : IntKind.i64.wrap ((x : Int) + 1) = ((x + 1 : Nat) : Int) := by rw [ig]; rfl
omit [SE] in
theorem yv {x y : Nat} (h : y ≤ x) (hx : x < 1000000) : IntKind.i64.wrap ((x : Int) - y) = ((x - y : Nat) : Int) := by rw [ig]; omega
def InI (w : World) (g : Nat) (e : TypeId) (cap n a : Nat) (R : Array Int) : KL := fun x w1 => ∃ (j : Nat) (d : Array Int), x = [.int .i64 (j : Int)] ∧ Rf w w1 g e cap d ∧ d.size = n ∧ j < n ∧ insInner ltInt a j d = R
def InO (w : World) (g : Nat) (e : TypeId) (cap n a b : Nat) (R : Array Int) : KL := fun x w1 => ∃ (u : Value) (i : Nat) (d : Array Int), x = [u, .int .i64 (i : Int)] ∧ Rf w w1 g e cap d ∧ d.size = n ∧ insOuter ltInt a b i d = R
theorem ahi {w : World} {g cap n : Nat} {e : TypeId} {d : Array Int} (H : Rw w g e cap d) (hn : d.size = n) (h6 : n < 100000) {a b : Nat} (hb : b ≤ n) (ha : a ≤ n) {K : KV}
  (h : ∀ w', Rf w w' g e cap (insertionSort ltInt d a b) → K (.tuple #[]) w') : ku P F.gj [.slice (some ⟨g, 0, none⟩) n cap, .int .i64 a, .int .i64 b] w K := by
 apply M.cw.calls
 unfold M.cw
 simp only [kz, rj (show a < 1000000 by omega)]
 refine ⟨InO w g e cap n a b (insertionSort ltInt d a b), fun x _ => b - ms x 1, ⟨_, a + 1, d, rfl, H.xi, hn, rfl⟩, ?_⟩
 rintro x w1 ⟨u, i, d1, rfl, H1, hn1, hR⟩
 have g1 : ∀ u v : Value, gv [u, v] 1 = v := fun _ _ => rfl
 have g0 : ∀ u : Value, gv [u] 0 = u := fun _ => rfl
 unfold M.cw.j0
 simp only [ib, g1]
 unfold insOuter at hR
 by_cases hi : i < b
 ·simp [hi] at hR ⊢
  generalize hT : insInner ltInt a i d1 = T at *
  refine ⟨InI w g e cap n a T, fun x _ => ms x 0, ⟨i, d1, rfl, H1, hn1, by omega, hT⟩, ?_⟩
  rintro x w2 ⟨j, d2, rfl, H2, hn2, hj, hR2⟩
  have done : d2 = T → ∀ v w2, Rf w w2 g e cap d2 → InO w g e cap n a b (insertionSort ltInt d a b) [v, .int .i64 (IntKind.i64.wrap ((i : Int) + 1))] w2 ∧ b - ms [v, .int .i64 (IntKind.i64.wrap ((i : Int) + 1))] 1 < b - ms [u, .int .i64 (i : Int)] 1 := by
   intro hd v w2 H2
   rw [rj (by omega)]
   refine ⟨⟨v, i + 1, d2, rfl, H2, hn2, by rw [hd]; exact hR⟩, ?_⟩
   simp [ms, gv]; omega
  unfold M.cw.j3
  simp only [ib, g0]
  cases j with
  | zero =>
   simp [insInner] at hR2
   have := done hR2 (.int .i64 0) _ (H2.dr 1)
   have hz : ¬ (a : Int) < 0 := by omega
   simp [hz]
   simpa using this
  | succ j =>
   unfold insInner at hR2
   have hw := boi (show j < 1000000 by omega)
   by_cases hja : a < j + 1
   ·have hja' : (a : Int) < (j : Int) + 1 := by omega
    have c1 := H2.row.at (show j + 1 < d2.size by omega)
    have c0 := H2.row.at (show j < d2.size by omega)
    have hjn : (j : Int) < n := by omega
    have hjn' : (j : Int) + 1 < n := by omega
    have z1 : (0 : Int) ≤ (j : Int) + 1 := by omega
    simp [hja, hja', hw, c0, c1, hjn, hjn', z1] at hR2 ⊢
    refine sw _ _ ?_
    cases hl : ltInt d2[j + 1]! d2[j]! with
    | true =>
     simp [hl] at hR2 ⊢
     unfold M.cw.j4
     have f1 := H2.row.frz (j + 1)
     have f0 := H2.row.frz j
     simp [hw, c0, c1, hjn, hjn', z1, f0, f1, kh, kw]
     refine ⟨⟨j, _, rfl, ((H2.dr 1).dr 1).swp (by omega) (by omega), by rw [size_swp]; exact hn2, by omega, hR2⟩, ?_⟩
     simp [ms, gv]
    | false =>
     simp [hl] at hR2 ⊢
     have := done hR2 (.int .i64 ((j : Int) + 1)) _ (H2.dr 1)
     simpa using this
   ·have hja' : ¬ (a : Int) < (j : Int) + 1 := by omega
    simp [hja, hja'] at hR2 ⊢
    have := done hR2 (.int .i64 ((j : Int) + 1)) _ (H2.dr 1)
    simpa using this
 ·simp [hi] at hR ⊢
  subst hR
  exact h w1 H1
end Go.Proofs.YtfnhoaemapheoaaGreat.SG
set_option maxRecDepth 100000
namespace Go.Proofs.YtfnhoaemapheoaaGreat.SG
open Go.Eng Go.Sort
variable [SE]
omit [SE] in
theorem yr (hi first : Nat) : ∀ (n root : Nat) (d : Array Int), hi - root ≤ n → (siftDown ltInt hi first root d).size = d.size
 | 0, root, d, h => by
  unfold siftDown
  rw [dif_pos (by omega)]
 | n + 1, root, d, h => by
  unfold siftDown
  split
  ·rfl
  split
  ·split
   ·rfl
   split
   ·rw [yr hi first n _ _ (by omega), size_swp]
   ·rfl
  ·split
   ·rfl
   ·rw [yr hi first n _ _ (by omega), size_swp]
def SfI (w : World) (g : Nat) (e : TypeId) (cap n hi first : Nat) (R : Array Int) : KL := fun x w1 => ∃ (u : Value) (root : Nat) (d : Array Int), x = [u, .int .i64 (root : Int)] ∧ Rf w w1 g e cap d ∧ d.size = n ∧ root ≤ hi ∧ siftDown ltInt hi first root d = R
theorem ayh {w : World} {g cap n : Nat} {e : TypeId} {d : Array Int} (H : Rw w g e cap d) (hn : d.size = n) (h6 : n < 100000) {lo hi first : Nat} (hb : first + hi ≤ n) (hlo : lo ≤ hi) {K : KV}
  (h : ∀ w', Rf w w' g e cap (siftDown ltInt hi first lo d) → K (.tuple #[]) w') : ku P F.gb [.slice (some ⟨g, 0, none⟩) n cap, .int .i64 lo, .int .i64 hi, .int .i64 first] w K := by
 apply M.cb.calls
 unfold M.cb
 generalize hR0 : siftDown ltInt hi first lo d = R0 at *
 refine ⟨SfI w g e cap n hi first R0, fun x _ => hi - ms x 1, ⟨_, lo, d, rfl, H.xi, hn, hlo, hR0⟩, ?_⟩
 clear hR0
 rintro x w1 ⟨u, root, d1, rfl, H1, hn1, hro, hR⟩
 have g1 : ∀ u v : Value, gv [u, v] 1 = v := fun _ _ => rfl
 have g0 : ∀ u : Value, gv [u] 0 = u := fun _ => rfl
 have w2 : IntKind.i64.wrap (2 * (root : Int)) = ((2 * root : Nat) : Int) := by rw [ig]; omega
 have w3 : IntKind.i64.wrap (((2 * root : Nat) : Int) + 1) = ((2 * root + 1 : Nat) : Int) := rj (by omega)
 have w4 : IntKind.i64.wrap (((2 * root + 1 : Nat) : Int) + 1) = ((2 * root + 2 : Nat) : Int) := rj (by omega)
 unfold M.cb.j0
 simp only [ib, g1, vx, kz, sg, w2, w3]
 unfold siftDown at hR
 by_cases h0 : 2 * root + 1 ≥ hi
 ·have h0' : (hi : Int) ≤ ((2 * root + 1 : Nat) : Int) := by omega
  rw [dif_pos h0] at hR
  subst hR
  simp only [h0', decide_true, Eng.cond_true]
  exact h w1 H1
 rw [dif_neg h0] at hR
 have h0' : ¬ (hi : Int) ≤ ((2 * root + 1 : Nat) : Int) := by omega
 simp only [h0', decide_false, Eng.cond_false]
 unfold M.cb.j1
 have wf : ∀ k : Nat, k < hi → IntKind.i64.wrap ((first : Int) + (k : Int)) = ((first + k : Nat) : Int) := fun k hk => by rw [ig]; omega
 -- behind the choice of the child
 have tail : ∀ (c : Nat) (w2 : World), Rf w w2 g e cap d1 → c < hi → root < c → (if !ltInt d1[first + root]! d1[first + c]! then d1 else siftDown ltInt hi first c (Sort.swp d1 (first + root) (first + c))) = R0 →
   M.cb.j2 (.int .i64 first) [u, .int .i64 root] (.slice (some ⟨g, 0, none⟩) n cap) [.int .i64 c] (fun x' w' => SfI w g e cap n hi first R0 x' w' ∧ hi - ms x' 1 < hi - ms [u, .int .i64 (root : Int)] 1) w2 K := by
  intro c w2 H2 hc hrc hR
  unfold M.cb.j2
  have a1 := H2.row.at (show first + root < d1.size by omega)
  have a2 := H2.row.at (show first + c < d1.size by omega)
  have b1 : ((first + root : Nat) : Int) < n := by omega
  have b2 : ((first + c : Nat) : Int) < n := by omega
  have wr := wf root (by omega)
  have wc := wf c hc
  simp only [ib, qw, xp, g1, g0, kz, wr, wc, true_and, and_true]
  simp [b1, b2, a1, a2, -Int.natCast_add]
  refine sw _ _ ?_
  cases hl : ltInt d1[first + root]! d1[first + c]! with
  | false =>
   simp [hl] at hR ⊢
   subst hR
   exact h _ (H2.dr 1)
  | true =>
   simp [hl] at hR ⊢
   unfold M.cb.j3
   have f1 := H2.row.frz (first + root)
   have f2 := H2.row.frz (first + c)
   simp only [ib, qw, xp, adv, g1, g0, kz, wr, wc, true_and, and_true]
   simp [b1, b2, a1, a2, f1, f2, kh, kw, -Int.natCast_add]
   refine ⟨⟨_, c, _, rfl, ((H2.dr 1).dr 1).swp (by omega) (by omega), by rw [size_swp]; exact hn1, by omega, hR⟩, ?_⟩
   simp [ms, gv]; omega
 have v1 : IntKind.i64.wrap ((first : Int) + ((2 * root + 1 : Nat) : Int)) = ((first + (2 * root + 1) : Nat) : Int) := wf _ (by omega)
 simp only [ib, qw, xp, kz, lw, w4, true_and, and_true, aaw]
 by_cases h1 : 2 * root + 1 + 1 < hi
 ·have h1' : ((2 * root + 2 : Nat) : Int) < hi := by omega
  have v2 : IntKind.i64.wrap (((first + (2 * root + 1) : Nat) : Int) + 1) = ((first + (2 * root + 2) : Nat) : Int) := by rw [ig]; omega
  have a1 := H1.row.at (show first + (2 * root + 1) < d1.size by omega)
  have a2 := H1.row.at (show first + (2 * root + 2) < d1.size by omega)
  have b1 : ((first + (2 * root + 1) : Nat) : Int) < n := by omega
  have b2 : ((first + (2 * root + 2) : Nat) : Int) < n := by omega
  have e2 : first + (2 * root + 1) + 1 = first + (2 * root + 2) := by omega
  simp only [h1', decide_true, beq_self_eq_true, ach, kz, v1, v2]
  simp [b1, b2, a1, a2, -Int.natCast_add]
  refine sw _ _ ?_
  rw [e2] at hR
  cases hl : ltInt d1[first + (2 * root + 1)]! d1[first + (2 * root + 2)]! with
  | true =>
   simp only [h1, hl, decide_true, Bool.and_self, if_true] at hR
   have hx : 2 * root + 2 < hi := by omega
   simp only [hx, dif_pos] at hR
   simp [-Int.natCast_add]
   exact tail (2 * root + 2) _ (H1.dr 1) (by omega) (by omega) hR
  | false =>
   simp only [hl, Bool.and_false, Bool.false_eq_true, if_false] at hR
   simp [-Int.natCast_add]
   exact tail (2 * root + 1) _ (H1.dr 1) (by omega) (by omega) hR
 ·have h1' : ¬ ((2 * root + 2 : Nat) : Int) < hi := by omega
  simp only [h1, decide_false, Bool.false_and, Bool.false_eq_true, if_false] at hR
  simp only [h1', decide_false]
  simp [-Int.natCast_add]
  exact tail (2 * root + 1) _ (H1.dr 1) (by omega) (by omega) hR
def HbI (w : World) (g : Nat) (e : TypeId) (cap n hi first : Nat) (R : Array Int) : KL := fun x w1 => ∃ (k : Nat) (d : Array Int), x = [.int .i64 ((k : Int) - 1)] ∧ Rf w w1 g e cap d ∧ d.size = n ∧ k ≤ hi + 1 ∧ (k ≤ hi ∨ hi = 0) ∧ heapBuild ltInt hi first k d = R
def HpI (w : World) (g : Nat) (e : TypeId) (cap n hi first : Nat) (R : Array Int) : KL := fun x w1 => ∃ (k : Nat) (d : Array Int), x = [.int .i64 ((k : Int) - 1)] ∧ Rf w w1 g e cap d ∧ d.size = n ∧ k ≤ hi ∧ heapPop ltInt first k d = R
def mp (x : List Value) (i : Nat) : Nat := match gv x i with
 | .int _ k => (k + 1).toNat
 | _ => 0
theorem awr {w : World} {g cap n : Nat} {e : TypeId} {d : Array Int} (H : Rw w g e cap d) (hn : d.size = n) (h6 : n < 100000) {a b : Nat} (hb : b ≤ n) (hab : a < b) {K : KV}
  (h : ∀ w', Rf w w' g e cap (heapSort ltInt d a b) → K (.tuple #[]) w') : ku P F.gf [.slice (some ⟨g, 0, none⟩) n cap, .int .i64 a, .int .i64 b] w K := by
 apply M.ct.calls
 unfold M.ct
 have hw0 : IntKind.i64.wrap ((b : Int) - a) = ((b - a : Nat) : Int) := yv (by omega) (by omega)
 generalize hhi : b - a = hi at *
 have hw1 : IntKind.i64.wrap ((hi : Int) - 1) = ((hi - 1 : Nat) : Int) := by rw [ig]; omega
 have hw2 : IntKind.i64.wrap (((hi - 1 : Nat) : Int).tdiv 2) = (((hi - 1) / 2 : Nat) : Int) := by
  rw [Int.tdiv_eq_ediv_of_nonneg (by omega), ig]; omega
 have hw3 : (((hi - 1) / 2 : Nat) : Int) = (((hi - 1) / 2 + 1 : Nat) : Int) - 1 := by omega
 simp only [lz, hw0, ib, hw1, arc, hw2]
 have g0 : ∀ u : Value, gv [u] 0 = u := fun _ => rfl
 generalize hZ : heapBuild ltInt hi a ((hi - 1) / 2 + 1) d = Z
 refine ⟨HbI w g e cap n hi a Z, fun x _ => mp x 0, ⟨(hi - 1) / 2 + 1, d, by rw [hw3], H.xi, hn, by omega, by omega, hZ⟩, ?_⟩
 rintro x w1 ⟨k, d1, rfl, H1, hn1, hk, hk2, hR⟩
 unfold M.ct.j1
 simp only [ib, g0, sg]
 cases k with
 | succ k =>
  have hk0 : (0 : Int) ≤ ((k + 1 : Nat) : Int) - 1 := by omega
  have hk1 : ((k + 1 : Nat) : Int) - 1 = (k : Int) := by omega
  simp only [hk0, decide_true, Eng.cond_true, hk1]
  rw [M.cb.fcall]
  refine ayh H1.row hn1 h6 (by omega) (by omega) fun w2 H2 => ?_
  have hw4 : IntKind.i64.wrap ((k : Int) - 1) = (k : Int) - 1 := ig
  simp only [lz, hw4]
  refine ⟨⟨k, _, rfl, H1.trans H2, by rw [yr _ _ _ _ _ (Nat.le_refl _)]; exact hn1, by omega, by omega, hR⟩, ?_⟩
  simp [mp, gv]
 | zero =>
  have hk0 : ¬ (0 : Int) ≤ ((0 : Nat) : Int) - 1 := by omega
  simp only [hk0, decide_false, Eng.cond_false]
  unfold heapBuild at hR
  unfold M.ct.j0
  have hw5 : ((hi - 1 : Nat) : Int) = (hi : Int) - 1 := by omega
  simp only [lz, hw1, hw5]
  have hR2 : heapPop ltInt a hi d1 = heapSort ltInt d a b := by
   unfold heapSort
   rw [hhi, hZ, ← hR]
  refine ⟨HpI w g e cap n hi a (heapSort ltInt d a b), fun x _ => mp x 0, ⟨hi, d1, rfl, H1, hn1, Nat.le_refl _, hR2⟩, ?_⟩
  rintro x w2 ⟨k, d2, rfl, H2, hn2, hk, hR3⟩
  simp only [ib, g0, sg]
  cases k with
  | zero =>
   have hk0 : ¬ (0 : Int) ≤ ((0 : Nat) : Int) - 1 := by omega
   simp only [hk0, decide_false, Eng.cond_false]
   unfold heapPop at hR3
   subst hR3
   exact h w2 H2
  | succ k =>
   have hk0 : (0 : Int) ≤ ((k + 1 : Nat) : Int) - 1 := by omega
   have hk1 : ((k + 1 : Nat) : Int) - 1 = (k : Int) := by omega
   simp only [hk0, decide_true, Eng.cond_true, hk1]
   unfold heapPop at hR3
   unfold M.ct.j5
   have wr : IntKind.i64.wrap ((a : Int) + (k : Int)) = ((a + k : Nat) : Int) := by rw [ig]; omega
   have a1 := H2.row.at (show a < d2.size by omega)
   have a2 := H2.row.at (show a + k < d2.size by omega)
   have b1 : (a : Int) < n := by omega
   have b2 : ((a + k : Nat) : Int) < n := by omega
   have f1 := H2.row.frz a
   have f2 := H2.row.frz (a + k)
   have hw4 : IntKind.i64.wrap ((k : Int) - 1) = (k : Int) - 1 := ig
   simp only [ib, qw, xp, adv, g0, kz, lz, wr, hw4, true_and, and_true]
   simp [b1, b2, a1, a2, f1, f2, kh, kw, -Int.natCast_add]
   have H3 := (H2.dr 1).swp (i := a) (j := a + k) (by omega) (by omega)
   rw [M.cb.fcall]
   refine ayh (lo := 0) H3.row (by rw [size_swp]; exact hn2) h6 (by omega) (by omega) fun w4 H4 => ?_
   refine ⟨⟨k, _, rfl, H3.trans H4, by rw [yr _ _ _ _ _ (Nat.le_refl _), size_swp]; exact hn2, by omega, hR3⟩, ?_⟩
   simp [mp, gv]
end Go.Proofs.YtfnhoaemapheoaaGreat.SG
set_option maxRecDepth 100000
namespace Go.Proofs.YtfnhoaemapheoaaGreat.SG
open Go.Eng Go.Sort
variable [SE]
section
variable {w : World} {g cap n : Nat} {e : TypeId} {d : Array Int}
def UpI (w : World) (g : Nat) (e : TypeId) (cap : Nat) (d : Array Int) (p : Int → Bool) (j r : Nat) : KL := fun x w1 => ∃ i : Nat, x = [.int .i64 (i : Int)] ∧ Rf w w1 g e cap d ∧ i ≤ j + 2 ∧ scanUp p d j i = r
def DnI (w : World) (g : Nat) (e : TypeId) (cap : Nat) (d : Array Int) (p : Int → Bool) (i n r : Nat) : KL := fun x w1 => ∃ j : Nat, x = [.int .i64 (j : Int)] ∧ Rf w w1 g e cap d ∧ j < n ∧ scanDown p d i j = r
theorem ano {p : Int → Bool} {i j : Nat} (H : Rw w g e cap d) (hi : i ≤ j + 2) {K0 : KL} {body : KL → KL → KL}
  (hB : ∀ (k : Nat) w1 (Kn : KL), k ≤ j + 2 → Rf w w1 g e cap d → ((k ≤ j ∧ p d[k]! = true) → ∀ w2, Rf w w2 g e cap d → Kn [.int .i64 ((k + 1 : Nat) : Int)] w2) → (¬ (k ≤ j ∧ p d[k]! = true) → ∀ w2, Rf w w2 g e cap d → K0 [.int .i64 (k : Int)] w2) → body K0 Kn [.int .i64 (k : Int)] w1)
  (h : ∀ w', Rf w w' g e cap d → K0 [.int .i64 (scanUp p d j i : Nat)] w') : gt (fun K0 => jh [.int .i64 (i : Int)] w (body K0)) K0 := by
 rw [ib]
 generalize hr : scanUp p d j i = r at *
 refine ⟨UpI w g e cap d p j r, fun x _ => j + 2 - ms x 0, ⟨i, rfl, H.xi, hi, hr⟩, ?_⟩
 clear hr
 rintro x w1 ⟨k, rfl, H1, hk, hR⟩
 unfold scanUp at hR
 refine hB k w1 _ hk H1 (fun hc w2 H2 => ?_) fun hc w2 H2 => ?_
 ·rw [if_pos (by simpa using hc)] at hR
  refine ⟨⟨k + 1, rfl, H2, by omega, hR⟩, ?_⟩
  simp [ms, gv]; omega
 ·rw [if_neg (by simpa using hc)] at hR
  rw [← hR] at h
  exact h w2 H2
theorem air {p : Int → Bool} {i j : Nat} (H : Rw w g e cap d) (hj : j < n) (hi : 1 ≤ i) {K0 : KL} {body : KL → KL → KL}
  (hB : ∀ (k : Nat) w1 (Kn : KL), k < n → Rf w w1 g e cap d → ((i ≤ k ∧ p d[k]! = true) → ∀ w2, Rf w w2 g e cap d → Kn [.int .i64 ((k - 1 : Nat) : Int)] w2) → (¬ (i ≤ k ∧ p d[k]! = true) → ∀ w2, Rf w w2 g e cap d → K0 [.int .i64 (k : Int)] w2) → body K0 Kn [.int .i64 (k : Int)] w1)
  (h : ∀ w', Rf w w' g e cap d → K0 [.int .i64 (scanDown p d i j : Nat)] w') : gt (fun K0 => jh [.int .i64 (j : Int)] w (body K0)) K0 := by
 rw [ib]
 generalize hr : scanDown p d i j = r at *
 refine ⟨DnI w g e cap d p i n r, fun x _ => ms x 0, ⟨j, rfl, H.xi, hj, hr⟩, ?_⟩
 clear hr
 rintro x w1 ⟨k, rfl, H1, hk, hR⟩
 refine hB k w1 _ hk H1 (fun hc w2 H2 => ?_) fun hc w2 H2 => ?_
 ·cases k with
  | zero => omega
  | succ k =>
   unfold scanDown at hR
   rw [if_pos (by simpa using hc)] at hR
   refine ⟨⟨k, rfl, H2, by omega, hR⟩, ?_⟩
   simp [ms, gv]
 ·have : scanDown p d i k = k := by
   cases k with
   | zero => rfl
   | succ k => unfold scanDown; rw [if_neg (by simpa using hc)]
  rw [this] at hR
  rw [← hR] at h
  exact h w2 H2
omit [SE] in
theorem aij (p : Int → Bool) (d : Array Int) (j i : Nat) : scanUp p d j i ≤ max i (j + 1) := by
 by_cases h : i ≤ j + 1
 ·have := (scanUp_spec p d j _ i rfl).2.1 h
  omega
 ·unfold scanUp
  rw [if_neg (by simp; omega)]
  omega
omit [SE] in
theorem g0 (u : Value) : gv [u] 0 = u := rfl
omit [SE] in
theorem g20 (u v : Value) : gv [u, v] 0 = u := rfl
omit [SE] in
theorem g21 (u v : Value) : gv [u, v] 1 = v := rfl
theorem bll {w0 w1 : World} {a k j : Nat} {K0 Kn : KL} {K : KV} (H1 : Rf w0 w1 g e cap d) (hn : d.size = n) (h6 : n < 100000) (ha : a < n) (hj : j < n) (hk : k ≤ j + 2)
  (k1 : (k ≤ j ∧ ltInt d[k]! d[a]! = true) → ∀ w2, Rf w0 w2 g e cap d → Kn [.int .i64 ((k + 1 : Nat) : Int)] w2) (k2 : ¬ (k ≤ j ∧ ltInt d[k]! d[a]! = true) → ∀ w2, Rf w0 w2 g e cap d → K0 [.int .i64 (k : Int)] w2) :
  M.au.j1 [.int .i64 (k : Int)] (.int .i64 (j : Int)) (.slice (some ⟨g, 0, none⟩) n cap) (.int .i64 (a : Int)) K0 Kn w1 K := by
 unfold M.au.j1
 by_cases hkj : k ≤ j
 ·have a1 := H1.row.at (show k < d.size by omega)
  have a2 := H1.row.at (show a < d.size by omega)
  have b1 : (k : Int) < n := by omega
  have b2 : (a : Int) < n := by omega
  have b3 : (k : Int) ≤ j := by omega
  simp [g0, g21, b1, b2, b3, a1, a2]
  refine sw _ _ ?_
  cases hl : ltInt d[k]! d[a]! with
  | true =>
   simp [rj (show k < 1000000 by omega)]
   have := k1 ⟨hkj, hl⟩ _ (H1.dr 1)
   simpa using this
  | false =>
   simp [rj (show k < 1000000 by omega)]
   have := k2 (fun h => by simp [hl] at h) _ (H1.dr 1)
   simpa using this
 ·have b3 : ¬ (k : Int) ≤ j := by omega
  simp [g0, g21, b3]
  have := k2 (fun h => hkj h.1) _ (H1.dr 1)
  simpa using this
theorem bkt {w0 w1 : World} {a k i : Nat} {K0 Kn : KL} {K : KV} (H1 : Rf w0 w1 g e cap d) (hn : d.size = n) (h6 : n < 100000) (hai : a < n ∧ 1 ≤ i) (hk : k < n)
  (k1 : (i ≤ k ∧ (!ltInt d[k]! d[a]!) = true) → ∀ w2, Rf w0 w2 g e cap d → Kn [.int .i64 ((k - 1 : Nat) : Int)] w2) (k2 : ¬ (i ≤ k ∧ (!ltInt d[k]! d[a]!) = true) → ∀ w2, Rf w0 w2 g e cap d → K0 [.int .i64 (k : Int)] w2) :
  M.au.j4 [.int .i64 (i : Int)] [.int .i64 (k : Int)] (.slice (some ⟨g, 0, none⟩) n cap) (.int .i64 (a : Int)) K0 Kn w1 K := by
 unfold M.au.j4
 by_cases hik : i ≤ k
 ·have a1 := H1.row.at (show k < d.size by omega)
  have a2 := H1.row.at (show a < d.size by omega)
  have b1 : (k : Int) < n := by omega
  have b2 : (a : Int) < n := by omega
  have b3 : (i : Int) ≤ k := by omega
  have hw : IntKind.i64.wrap ((k : Int) - 1) = ((k - 1 : Nat) : Int) := by rw [ig]; omega
  simp [g0, b1, b2, b3, a1, a2]
  refine sw _ _ ?_
  cases hl : ltInt d[k]! d[a]! with
  | true =>
   simp [hw]
   have := k2 (fun h => by simp [hl] at h) _ (H1.dr 1)
   simpa using this
  | false =>
   simp [hw]
   have := k1 ⟨hik, by simp [hl]⟩ _ (H1.dr 1)
   simpa using this
 ·have b3 : ¬ (i : Int) ≤ k := by omega
  simp [g0, b3]
  have := k2 (fun h => hik h.1) _ (H1.dr 1)
  simpa using this
theorem bhj {w0 w1 : World} {vi : Value} {a k j : Nat} {K0 Kn : KL} {K : KV} (H1 : Rf w0 w1 g e cap d) (hn : d.size = n) (h6 : n < 100000) (ha : a < n) (hj : j < n) (hk : k ≤ j + 2)
  (k1 : (k ≤ j ∧ ltInt d[k]! d[a]! = true) → ∀ w2, Rf w0 w2 g e cap d → Kn [.int .i64 ((k + 1 : Nat) : Int)] w2) (k2 : ¬ (k ≤ j ∧ ltInt d[k]! d[a]! = true) → ∀ w2, Rf w0 w2 g e cap d → K0 [.int .i64 (k : Int)] w2) :
  M.au.j10 [.int .i64 (k : Int)] [vi, .int .i64 (j : Int)] (.slice (some ⟨g, 0, none⟩) n cap) (.int .i64 (a : Int)) K0 Kn w1 K := by
 unfold M.au.j10
 by_cases hkj : k ≤ j
 ·have a1 := H1.row.at (show k < d.size by omega)
  have a2 := H1.row.at (show a < d.size by omega)
  have b1 : (k : Int) < n := by omega
  have b2 : (a : Int) < n := by omega
  have b3 : (k : Int) ≤ j := by omega
  simp [g0, g21, b1, b2, b3, a1, a2]
  refine sw _ _ ?_
  cases hl : ltInt d[k]! d[a]! with
  | true =>
   simp [rj (show k < 1000000 by omega)]
   have := k1 ⟨hkj, hl⟩ _ (H1.dr 1)
   simpa using this
  | false =>
   simp [rj (show k < 1000000 by omega)]
   have := k2 (fun h => by simp [hl] at h) _ (H1.dr 1)
   simpa using this
 ·have b3 : ¬ (k : Int) ≤ j := by omega
  simp [g0, g21, b3]
  have := k2 (fun h => hkj h.1) _ (H1.dr 1)
  simpa using this
theorem bgm {w0 w1 : World} {a k i : Nat} {K0 Kn : KL} {K : KV} (H1 : Rf w0 w1 g e cap d) (hn : d.size = n) (h6 : n < 100000) (hai : a < n ∧ 1 ≤ i) (hk : k < n)
  (k1 : (i ≤ k ∧ (!ltInt d[k]! d[a]!) = true) → ∀ w2, Rf w0 w2 g e cap d → Kn [.int .i64 ((k - 1 : Nat) : Int)] w2) (k2 : ¬ (i ≤ k ∧ (!ltInt d[k]! d[a]!) = true) → ∀ w2, Rf w0 w2 g e cap d → K0 [.int .i64 (k : Int)] w2) :
  M.au.j13 [.int .i64 (i : Int)] [.int .i64 (k : Int)] (.slice (some ⟨g, 0, none⟩) n cap) (.int .i64 (a : Int)) K0 Kn w1 K := by
 unfold M.au.j13
 by_cases hik : i ≤ k
 ·have a1 := H1.row.at (show k < d.size by omega)
  have a2 := H1.row.at (show a < d.size by omega)
  have b1 : (k : Int) < n := by omega
  have b2 : (a : Int) < n := by omega
  have b3 : (i : Int) ≤ k := by omega
  have hw : IntKind.i64.wrap ((k : Int) - 1) = ((k - 1 : Nat) : Int) := by rw [ig]; omega
  simp [g0, b1, b2, b3, a1, a2]
  refine sw _ _ ?_
  cases hl : ltInt d[k]! d[a]! with
  | true =>
   simp [hw]
   have := k2 (fun h => by simp [hl] at h) _ (H1.dr 1)
   simpa using this
  | false =>
   simp [hw]
   have := k1 ⟨hik, by simp [hl]⟩ _ (H1.dr 1)
   simpa using this
 ·have b3 : ¬ (i : Int) ≤ k := by omega
  simp [g0, b3]
  have := k2 (fun h => hik h.1) _ (H1.dr 1)
  simpa using this
theorem bla {w0 w1 : World} {vi : Value} {a k j : Nat} {K0 Kn : KL} {K : KV} (H1 : Rf w0 w1 g e cap d) (hn : d.size = n) (h6 : n < 100000) (ha : a < n) (hj : j < n) (hk : k ≤ j + 2)
  (k1 : (k ≤ j ∧ (!ltInt d[a]! d[k]!) = true) → ∀ w2, Rf w0 w2 g e cap d → Kn [.int .i64 ((k + 1 : Nat) : Int)] w2) (k2 : ¬ (k ≤ j ∧ (!ltInt d[a]! d[k]!) = true) → ∀ w2, Rf w0 w2 g e cap d → K0 [.int .i64 (k : Int)] w2) :
  M.cx.j3 [.int .i64 (k : Int)] [vi, .int .i64 (j : Int)] (.slice (some ⟨g, 0, none⟩) n cap) (.int .i64 (a : Int)) K0 Kn w1 K := by
 unfold M.cx.j3
 by_cases hkj : k ≤ j
 ·have a1 := H1.row.at (show k < d.size by omega)
  have a2 := H1.row.at (show a < d.size by omega)
  have b1 : (k : Int) < n := by omega
  have b2 : (a : Int) < n := by omega
  have b3 : (k : Int) ≤ j := by omega
  simp [g0, g21, b1, b2, b3, a1, a2]
  refine sw _ _ ?_
  cases hl : ltInt d[a]! d[k]! with
  | true =>
   simp [rj (show k < 1000000 by omega)]
   have := k2 (fun h => by simp [hl] at h) _ (H1.dr 1)
   simpa using this
  | false =>
   simp [rj (show k < 1000000 by omega)]
   have := k1 ⟨hkj, by simp [hl]⟩ _ (H1.dr 1)
   simpa using this
 ·have b3 : ¬ (k : Int) ≤ j := by omega
  simp [g0, g21, b3]
  have := k2 (fun h => hkj h.1) _ (H1.dr 1)
  simpa using this
theorem bkh {w0 w1 : World} {a k i : Nat} {K0 Kn : KL} {K : KV} (H1 : Rf w0 w1 g e cap d) (hn : d.size = n) (h6 : n < 100000) (hai : a < n ∧ 1 ≤ i) (hk : k < n)
  (k1 : (i ≤ k ∧ ltInt d[a]! d[k]! = true) → ∀ w2, Rf w0 w2 g e cap d → Kn [.int .i64 ((k - 1 : Nat) : Int)] w2) (k2 : ¬ (i ≤ k ∧ ltInt d[a]! d[k]! = true) → ∀ w2, Rf w0 w2 g e cap d → K0 [.int .i64 (k : Int)] w2) :
  M.cx.j6 [.int .i64 (i : Int)] [.int .i64 (k : Int)] (.slice (some ⟨g, 0, none⟩) n cap) (.int .i64 (a : Int)) K0 Kn w1 K := by
 unfold M.cx.j6
 by_cases hik : i ≤ k
 ·have a1 := H1.row.at (show k < d.size by omega)
  have a2 := H1.row.at (show a < d.size by omega)
  have b1 : (k : Int) < n := by omega
  have b2 : (a : Int) < n := by omega
  have b3 : (i : Int) ≤ k := by omega
  have hw : IntKind.i64.wrap ((k : Int) - 1) = ((k - 1 : Nat) : Int) := by rw [ig]; omega
  simp [g0, b1, b2, b3, a1, a2]
  refine sw _ _ ?_
  cases hl : ltInt d[a]! d[k]! with
  | true =>
   simp [hw]
   have := k1 ⟨hik, hl⟩ _ (H1.dr 1)
   simpa using this
  | false =>
   simp [hw]
   have := k2 (fun h => by simp [hl] at h) _ (H1.dr 1)
   simpa using this
 ·have b3 : ¬ (i : Int) ≤ k := by omega
  simp [g0, b3]
  have := k2 (fun h => hik h.1) _ (H1.dr 1)
  simpa using this
end
def PlI (w : World) (g : Nat) (e : TypeId) (cap n a b : Nat) (R : Nat × Array Int) : KL := fun x w1 => ∃ (i j : Nat) (d : Array Int), x = [.int .i64 (i : Int), .int .i64 (j : Int)] ∧ Rf w w1 g e cap d ∧ d.size = n ∧ a < i ∧ i ≤ j + 2 ∧ j < b ∧ partLoop ltInt a i j d = R
theorem avs {w : World} {g cap n : Nat} {e : TypeId} {d : Array Int} (H : Rw w g e cap d) (hn : d.size = n) (h6 : n < 100000) {a b pv : Nat} (hb : b ≤ n) (ha : a ≤ pv) (hp : pv < b) {K : KV}
  (h : ∀ w', Rf w w' g e cap (partition ltInt d a b pv).2.2 → K (.tuple #[.int .i64 ((partition ltInt d a b pv).1 : Nat), .bool (partition ltInt d a b pv).2.1]) w') :
  ku P F.gg [.slice (some ⟨g, 0, none⟩) n cap, .int .i64 a, .int .i64 b, .int .i64 pv] w K := by
 apply M.au.calls
 unfold M.au
 have a1 := H.at (show a < d.size by omega)
 have a2 := H.at (show pv < d.size by omega)
 have b1 : (a : Int) < n := by omega
 have b2 : (pv : Int) < n := by omega
 have f1 := H.frz a
 have f2 := H.frz pv
 have hw1 : IntKind.i64.wrap ((a : Int) + 1) = ((a + 1 : Nat) : Int) := rj (by omega)
 have hw2 : IntKind.i64.wrap ((b : Int) - 1) = ((b - 1 : Nat) : Int) := by rw [ig]; omega
 simp [b1, b2, a1, a2, f1, f2, kh, kw, hw1, hw2, -Int.natCast_add, -ib]
 have H1 := (H.xi.dr 1).swp (i := a) (j := pv) (by omega) (by omega)
 generalize ((dr w 1).setCell ⟨g, a, none⟩ (.int SD.k d[pv]!)).setCell ⟨g, pv, none⟩ (.int SD.k d[a]!) = w1 at *
 clear a1 a2 f1 f2
 unfold partition at h
 have hn1 : (Sort.swp d a pv).size = n := by rw [size_swp]; exact hn
 generalize Sort.swp d a pv = d1 at *
 try simp only at h
 refine ano (p := fun x => ltInt x d1[a]!) (i := a + 1) (j := b - 1) H1.row (by omega) (fun k w2 Kn hk H2 k1 k2 => by refine bll H2 hn1 h6 (by omega) (by omega) hk ?_ ?_ <;> first | exact k1 | exact k2) fun w2 H2 => ?_
 have hge := scanUp_ge (fun x => ltInt x d1[a]!) d1 (b - 1) (a + 1)
 have hle := aij (fun x => ltInt x d1[a]!) d1 (b - 1) (a + 1)
 generalize scanUp (fun x => ltInt x d1[a]!) d1 (b - 1) (a + 1) = i at *
 refine air (n := n) (p := fun x => !ltInt x d1[a]!) H2.row (by omega) (i := i) (j := b - 1) (by omega) (fun k w3 Kn hk H3 k1 k2 => by refine bkt H3 hn1 h6 (by omega) hk ?_ ?_ <;> first | exact k1 | exact k2) fun w3 H3 => ?_
 have hdl := scanDown_le (fun x => !ltInt x d1[a]!) d1 i (b - 1)
 generalize scanDown (fun x => !ltInt x d1[a]!) d1 i (b - 1) = j at *
 have H3' := H1.trans (H2.trans H3)
 unfold M.au.j3
 have c1 := H3.row.at (show a < d1.size by omega)
 have c2 := H3.row.at (show j < d1.size by omega)
 have e1 : (j : Int) < n := by omega
 have f1 := H3.row.frz a
 have f2 := H3.row.frz j
 simp only [ib, g0]
 by_cases hij : i > j
 ·have hij' : (j : Int) < i := by omega
  rw [if_pos hij] at h
  simp [hij', b1, e1, c1, c2, f1, f2, kh, kw, -Int.natCast_add]
  exact h _ ((H3'.dr 1).swp (by omega) (by omega))
 ·have hij' : ¬ (j : Int) < i := by omega
  rw [if_neg hij] at h
  simp only [si, hij', decide_false, Eng.cond_false]
  unfold M.au.j6
  have c3 := H3.row.at (show i < d1.size by omega)
  have e2 : (i : Int) < n := by omega
  have f3 := H3.row.frz i
  have hw3 : IntKind.i64.wrap ((i : Int) + 1) = ((i + 1 : Nat) : Int) := rj (by omega)
  have hw4 : IntKind.i64.wrap ((j : Int) - 1) = ((j - 1 : Nat) : Int) := by rw [ig]; omega
  simp [g0, e1, e2, c2, c3, f2, f3, kh, kw, hw3, hw4, -Int.natCast_add, -ib]
  rw [ib]
  have H4 := (H3'.dr 1).swp (i := i) (j := j) (by omega) (by omega)
  generalize ((dr w3 1).setCell ⟨g, i, none⟩ (.int SD.k d1[j]!)).setCell ⟨g, j, none⟩ (.int SD.k d1[i]!) = w4 at *
  have hn2 : (Sort.swp d1 i j).size = n := by rw [size_swp]; exact hn1
  generalize Sort.swp d1 i j = d2 at *
  generalize hr : partLoop ltInt a (i + 1) (j - 1) d2 = r at *
  refine ⟨PlI w g e cap n a b r, fun x _ => ms x 1 + 2 - ms x 0, ⟨i + 1, j - 1, d2, rfl, H4, hn2, by omega, by omega, by omega, hr⟩, ?_⟩
  rintro x w5 ⟨i5, j5, d5, rfl, H5, hn5, ha5, hij5, hj5, hR⟩
  rw [partLoop_eq] at hR
  refine ano (p := fun x => ltInt x d5[a]!) (i := i5) (j := j5) H5.row hij5 (fun k w6 Kn hk H6 k1 k2 => by refine bhj H6 hn5 h6 (by omega) (by omega) hk ?_ ?_ <;> first | exact k1 | exact k2) fun w6 H6 => ?_
  have hge := scanUp_ge (fun x => ltInt x d5[a]!) d5 j5 i5
  have hle := aij (fun x => ltInt x d5[a]!) d5 j5 i5
  generalize scanUp (fun x => ltInt x d5[a]!) d5 j5 i5 = i6 at *
  unfold M.au.j9
  simp only [g21]
  refine air (n := n) (p := fun x => !ltInt x d5[a]!) H6.row (by omega) (i := i6) (j := j5) (by omega) (fun k w7 Kn hk H7 k1 k2 => by refine bgm H7 hn5 h6 (by omega) hk ?_ ?_ <;> first | exact k1 | exact k2) fun w7 H7 => ?_
  have hdl := scanDown_le (fun x => !ltInt x d5[a]!) d5 i6 j5
  generalize scanDown (fun x => !ltInt x d5[a]!) d5 i6 j5 = j6 at *
  have H7' := H5.trans (H6.trans H7)
  try simp only at hR
  simp only [g0, ib]
  by_cases hgt : i6 > j6
  ·have hgt' : (j6 : Int) < i6 := by omega
   rw [if_pos hgt] at hR
   simp only [si, hgt', decide_true, Eng.cond_true]
   unfold M.au.j7
   have c1 := H7.row.at (show a < d5.size by omega)
   have c2 := H7.row.at (show j6 < d5.size by omega)
   have e1 : (j6 : Int) < n := by omega
   have f1 := H7.row.frz a
   have f2 := H7.row.frz j6
   simp [g21, b1, e1, c1, c2, f1, f2, kh, kw, -Int.natCast_add]
   subst hR
   exact h _ ((H7'.dr 1).swp (by omega) (by omega))
  ·have hgt' : ¬ (j6 : Int) < i6 := by omega
   rw [if_neg hgt] at hR
   simp only [si, hgt', decide_false, Eng.cond_false]
   unfold M.au.j15
   have c1 := H7.row.at (show i6 < d5.size by omega)
   have c2 := H7.row.at (show j6 < d5.size by omega)
   have e1 : (j6 : Int) < n := by omega
   have e2 : (i6 : Int) < n := by omega
   have f1 := H7.row.frz i6
   have f2 := H7.row.frz j6
   have hw3 : IntKind.i64.wrap ((i6 : Int) + 1) = ((i6 + 1 : Nat) : Int) := rj (by omega)
   have hw4 : IntKind.i64.wrap ((j6 : Int) - 1) = ((j6 - 1 : Nat) : Int) := by rw [ig]; omega
   simp [g0, e1, e2, c1, c2, f1, f2, kh, kw, hw3, hw4, -Int.natCast_add]
   refine ⟨⟨i6 + 1, j6 - 1, _, rfl, (H7'.dr 1).swp (by omega) (by omega), by rw [size_swp]; exact hn5, by omega, by omega, by omega, hR⟩, ?_⟩
   simp [ms, gv]; omega
def PeI (w : World) (g : Nat) (e : TypeId) (cap n a b : Nat) (R : Nat × Array Int) : KL := fun x w1 => ∃ (i j : Nat) (d : Array Int), x = [.int .i64 (i : Int), .int .i64 (j : Int)] ∧ Rf w w1 g e cap d ∧ d.size = n ∧ a < i ∧ i ≤ j + 2 ∧ j < b ∧ partEqLoop ltInt a i j d = R
theorem ajy {w : World} {g cap n : Nat} {e : TypeId} {d : Array Int} (H : Rw w g e cap d) (hn : d.size = n) (h6 : n < 100000) {a b pv : Nat} (hb : b ≤ n) (ha : a ≤ pv) (hp : pv < b) {K : KV}
  (h : ∀ w', Rf w w' g e cap (partitionEqual ltInt d a b pv).2 → K (.int .i64 ((partitionEqual ltInt d a b pv).1 : Nat)) w') :
  ku P F.gk [.slice (some ⟨g, 0, none⟩) n cap, .int .i64 a, .int .i64 b, .int .i64 pv] w K := by
 apply M.cx.calls
 unfold M.cx
 have a1 := H.at (show a < d.size by omega)
 have a2 := H.at (show pv < d.size by omega)
 have b1 : (a : Int) < n := by omega
 have b2 : (pv : Int) < n := by omega
 have f1 := H.frz a
 have f2 := H.frz pv
 have hw1 : IntKind.i64.wrap ((a : Int) + 1) = ((a + 1 : Nat) : Int) := rj (by omega)
 have hw2 : IntKind.i64.wrap ((b : Int) - 1) = ((b - 1 : Nat) : Int) := by rw [ig]; omega
 simp [b1, b2, a1, a2, f1, f2, kh, kw, hw1, hw2, -Int.natCast_add, -ib]
 have H1 := (H.xi.dr 1).swp (i := a) (j := pv) (by omega) (by omega)
 generalize ((dr w 1).setCell ⟨g, a, none⟩ (.int SD.k d[pv]!)).setCell ⟨g, pv, none⟩ (.int SD.k d[a]!) = w1 at *
 clear a1 a2 f1 f2
 unfold partitionEqual at h
 have hn1 : (Sort.swp d a pv).size = n := by rw [size_swp]; exact hn
 generalize Sort.swp d a pv = d1 at *
 generalize hr : partEqLoop ltInt a (a + 1) (b - 1) d1 = r at *
 rw [ib]
 refine ⟨PeI w g e cap n a b r, fun x _ => ms x 1 + 2 - ms x 0, ⟨a + 1, b - 1, d1, rfl, H1, hn1, by omega, by omega, by omega, hr⟩, ?_⟩
 rintro x w5 ⟨i5, j5, d5, rfl, H5, hn5, ha5, hij5, hj5, hR⟩
 rw [partEqLoop_eq] at hR
 simp only [g20]
 refine ano (p := fun x => !ltInt d5[a]! x) (i := i5) (j := j5) H5.row hij5 (fun k w6 Kn hk H6 k1 k2 => by refine bla H6 hn5 h6 (by omega) (by omega) hk ?_ ?_ <;> first | exact k1 | exact k2) fun w6 H6 => ?_
 have hge := scanUp_ge (fun x => !ltInt d5[a]! x) d5 j5 i5
 have hle := aij (fun x => !ltInt d5[a]! x) d5 j5 i5
 generalize scanUp (fun x => !ltInt d5[a]! x) d5 j5 i5 = i6 at *
 unfold M.cx.j2
 simp only [g21]
 refine air (n := n) (p := fun x => ltInt d5[a]! x) H6.row (by omega) (i := i6) (j := j5) (by omega) (fun k w7 Kn hk H7 k1 k2 => by refine bkh H7 hn5 h6 (by omega) hk ?_ ?_ <;> first | exact k1 | exact k2) fun w7 H7 => ?_
 have hdl := scanDown_le (fun x => ltInt d5[a]! x) d5 i6 j5
 generalize scanDown (fun x => ltInt d5[a]! x) d5 i6 j5 = j6 at *
 have H7' := H5.trans (H6.trans H7)
 try simp only at hR
 simp only [g0, ib]
 by_cases hgt : i6 > j6
 ·have hgt' : (j6 : Int) < i6 := by omega
  rw [if_pos hgt] at hR
  simp only [si, hgt', decide_true, Eng.cond_true, g20]
  subst hR
  exact h _ H7'
 ·have hgt' : ¬ (j6 : Int) < i6 := by omega
  rw [if_neg hgt] at hR
  simp only [si, hgt', decide_false, Eng.cond_false]
  unfold M.cx.j8
  have c1 := H7.row.at (show i6 < d5.size by omega)
  have c2 := H7.row.at (show j6 < d5.size by omega)
  have e1 : (j6 : Int) < n := by omega
  have e2 : (i6 : Int) < n := by omega
  have f1 := H7.row.frz i6
  have f2 := H7.row.frz j6
  have hw3 : IntKind.i64.wrap ((i6 : Int) + 1) = ((i6 + 1 : Nat) : Int) := rj (by omega)
  have hw4 : IntKind.i64.wrap ((j6 : Int) - 1) = ((j6 - 1 : Nat) : Int) := by rw [ig]; omega
  simp [g0, e1, e2, c1, c2, f1, f2, kh, kw, hw3, hw4, -Int.natCast_add]
  refine ⟨⟨i6 + 1, j6 - 1, _, rfl, (H7'.dr 1).swp (by omega) (by omega), by rw [size_swp]; exact hn5, by omega, by omega, by omega, hR⟩, ?_⟩
  simp [ms, gv]; omega
end Go.Proofs.YtfnhoaemapheoaaGreat.SG
