/-
  Names of spans: which are right. No condition.
-/
import Derived.Test.YtfnhoaemapheoaaGreatM
import Derived.Test.YtfnhoaemapheoaaGreatFacts
import Derived.Test.YtfnhoaemapheoaaGreatZEngSl
import Derived.Test.YtfnhoaemapheoaaGreatRows
import Derived.Laws.StructEq
import Derived.Test.YtfnhoaemapheoaaGreatZMs0
import Derived.Sort.AssemblyPlain
set_option maxRecDepth 100000
namespace Go.Proofs.YtfnhoaemapheoaaGreat
open Go.Eng
@[simp] theorem amw : aaq P T.ae = true := kr
@[simp] theorem bmn (ty : TypeId) (cs : List Bool) (s : ByteArray) (w : World) (K : KV) : biT P .len #[T.ae] ty cs [.string s] w K = K (.int .i64 s.size) w := awk amw cs s w K
theorem arv (s : ByteArray) : s.toList.isEmpty = decide (s.size = 0) := by
 have h : s.size = s.data.toList.length := Array.length_toList.symm
 rw [ByteArray.toList_eq, h]
 cases s.data.toList <;> simp
def wv (s p : ByteArray) : Bool := decide (p.size ≤ s.size) && ((s.extract 0 p.size).toList == p.toList)
theorem asd {w : World} (s p : ByteArray) {K : KV} (h : K (.bool (wv s p)) w) : kg P F.ds [.string s, .string p] w K := by
 apply M.dd.calls
 unfold M.dd
 rw [M.bg.fcall]
 apply M.bg.calls
 unfold M.bg
 unfold wv at h
 by_cases hl : p.size ≤ s.size
 ·have hl' : (p.size : Int) ≤ s.size := by omega
  have hsl : ∀ K, slT P T.ae (.string s) none (some (.int .i64 (p.size : Int))) none w K = K (.string (s.extract 0 p.size)) w := fun K => aux amw (.inl ⟨rfl, rfl⟩) (.inr ⟨_, rfl⟩) (Nat.zero_le _) hl w K
  simp [hl, hsl, afk] at h ⊢
  exact h
 ·have hl' : ¬ (p.size : Int) ≤ s.size := by omega
  simp [hl] at h ⊢
  exact h
def xm : ByteArray := ⟨#[239, 191, 189]⟩
def aca (s : ByteArray) (i : Nat) : Bool := decide ((Utf8.decode s i).1 < 32) || ((decide (127 ≤ (Utf8.decode s i).1) && decide ((Utf8.decode s i).1 ≤ 159)) || (decide ((Utf8.decode s i).1 = 65533) && !wv (s.extract i s.size) xm))
def ue (s : ByteArray) (i : Nat) : Bool :=
 if h : i < s.size then !aca s i && ue s (i + (Utf8.decode s i).2) else true
termination_by s.size - i
decreasing_by have := aif s i; omega
def pr (s : ByteArray) : Int := if s.size = 0 ∨ 32 < s.size then 5 else if ue s 0 = true then 0 else 5
def azm (w : World) (s : ByteArray) : KL := fun x w1 => ∃ (pos : Nat), w1.heap[w.heap.size]? = some (.stringIter s pos) ∧ Fz w w1 ∧ ue s pos = ue s 0
def aij (s : ByteArray) (it : Nat) (w : World) : Nat := match w.heap[it]? with
 | some (.stringIter _ pos) => s.size - pos
 | _ => 0
theorem axi {w : World} (s : ByteArray) {K : KV} (h : ∀ w', Fz w w' → K (.int .i64 (pr s)) w') : kg P F.ez [.string s] w K := by
 apply M.bw.calls
 unfold M.bw
 simp only [gp]
 have hemp : s.toList.isEmpty = decide (s.size = 0) := arv s
 unfold pr at h
 by_cases h0 : s.size = 0
 ·simp [afk, hemp, h0] at h ⊢
  exact h w (Fr.refl _ _)
 ·by_cases h1 : 32 < s.size
  ·have h1' : (32 : Int) < s.size := by omega
   simp [afk, hemp, h0, h1, h1'] at h ⊢
   exact h w (Fr.refl _ _)
  ·have h1' : ¬ (32 : Int) < s.size := by omega
   simp [afk, hemp, h0, h1, h1'] at h ⊢
   unfold M.bw.j0
   simp only [gp]
   rw [bms (we amw)]
   refine ⟨azm w s, fun _ w1 => aij s w.heap.size w1, ⟨0, by rw [iq, if_pos rfl], (Fr.refl _ w).alloc _, rfl⟩, ?_⟩
   rintro x w1 ⟨pos, hit, hf, hp⟩
   refine blq hit _ (fun he => ?_) fun hlt w2 hit2 hf2 => ?_
   ·have hr : ue s 0 = true := by rw [← hp]; unfold ue; rw [dif_neg he]
    have e0 : ∀ w K, exT P (.tuple #[.bool false]) 0 w K = K (.bool false) w := fun _ _ => rfl
    simp [e0]
    have := h w1 hf
    simpa [hr] using this
   ·simp
    unfold M.bw.j3
    simp
    have hr : ue s pos = (!aca s pos && ue s (pos + (Utf8.decode s pos).2)) := by
     conv => lhs; unfold ue
     rw [dif_pos hlt]
    have F2 : Fz w w2 := hf.mu hf2 fun g hg h' => by omega
    have hbad : aca s pos = true → K (.int .i64 5) w2 := fun hb => by
     rw [hb, hp] at hr
     have := h w2 F2
     simpa [hr] using this
    have hgood : aca s pos = false → ∀ xs, azm w s xs w2 ∧ aij s w.heap.size w2 < aij s w.heap.size w1 := fun hb xs => by
     rw [hb, hp] at hr
     refine ⟨⟨_, hit2, F2, by rw [hr]; rfl⟩, ?_⟩
     have := aif s pos
     simp only [aij, hit, hit2]; omega
    unfold aca at hbad hgood
    generalize hc : (Utf8.decode s pos).1 = c at *
    clear hc
    have hsl : ∀ K, slT P T.ae (.string s) (some (.int .i64 (pos : Int))) none none w2 K = K (.string (s.extract pos s.size)) w2 := fun K => aux amw (.inr ⟨_, rfl⟩) (.inl ⟨rfl, rfl⟩) (by omega) (Nat.le_refl _) w2 K
    have j4 : ∀ (b : Bool) (t14 : Value), b = (decide (c < 32) || (decide (127 ≤ c) && decide (c ≤ 159))) → M.bw.j4 [.bool b] (.int .i32 c) (.string s) (.int .i64 pos) (fun x' w' => azm w s x' w' ∧ aij s w.heap.size w' < aij s w.heap.size w1) t14 x w2 K := by
     intro b t14 hb
     unfold M.bw.j4
     cases b with
     | true => simp at hb ⊢; exact hbad (by simp; omega)
     | false =>
      by_cases he : c = 65533
      ·have he' : (c : Int) = 65533 := by omega
       simp [he', hsl]
       rw [M.dd.fcall]
       refine asd _ _ ?_
       have hx : wv (s.extract pos s.size) ⟨#[239, 191, 189]⟩ = wv (s.extract pos s.size) xm := rfl
       rw [hx]
       cases hq : wv (s.extract pos s.size) xm with
       | true => simp; exact hgood (by simp [he, hq]) _
       | false => simp; exact hbad (by simp [he, hq])
      ·have he' : ¬ (c : Int) = 65533 := by omega
       simp [he']
       refine hgood ?_ _
       have : (decide (c < 32) || (decide (127 ≤ c) && decide (c ≤ 159))) = false := hb.symm
       simp [he] at this ⊢
       exact this
    by_cases h32 : c < 32
    ·have h32' : (c : Int) < 32 := by omega
     simp [h32']
     exact j4 true _ (by simp [h32])
    ·have h32' : ¬ (c : Int) < 32 := by omega
     by_cases h127 : 127 ≤ c
     ·have h127' : (127 : Int) ≤ c := by omega
      by_cases h159 : c ≤ 159
      ·have h159' : (c : Int) ≤ 159 := by omega
       simp [h32', h127', h159']
       exact j4 true _ (by simp [h32, h127, h159])
      ·have h159' : ¬ (c : Int) ≤ 159 := by omega
       simp [h32', h127', h159']
       exact j4 false _ (by simp [h32, h127, h159])
     ·have h127' : ¬ (127 : Int) ≤ c := by omega
      simp [h32', h127']
      exact j4 false _ (by simp [h32, h127])
set_option maxRecDepth 100000
structure Spn where
 iw : Int
 id : Int
 px : Int
 jp : Int
 len : Int
 kc : ByteArray
 name : ByteArray
 tw : Bool
def ir (s : Spn) : List Value := [.int .u64 s.iw, .int .u64 s.id, .int .u64 s.px, .int .u64 s.jp, .int .u64 s.len, .string s.kc, .string s.name, .bool s.tw]
def km (s : Spn) : Value := .agg #[.int .u64 s.iw, .int .u64 s.id, .int .u64 s.px, .int .u64 s.jp, .int .u64 s.len, .string s.kc, .string s.name, .bool s.tw]
theorem mj (s : Spn) : (ir s).length = 8 := rfl
theorem oh (s : Spn) : ∀ u ∈ ir s, kh u = true := fun u hu => by
 simp only [ir, List.mem_cons, List.not_mem_nil, or_false] at hu
 rcases hu with rfl | rfl | rfl | rfl | rfl | rfl | rfl | rfl <;> rfl
@[simp] theorem bvp (t1 t2 ty : TypeId) (cs : List Bool) (k : IntKind) (x y : Int) (w : World) (K : KV) : biT P .max #[t1, t2] ty cs [.int k x, .int k y] w K = K (.int k (max x y)) w := by
 have : (if x < y then y else x) = max x y := by split <;> omega
 simp [biT, mf, builtin, Builtin.max_, Builtin.max2, Sem.run_bind, Result.andThen, Sem.run_pure, this]
def yu (k : Int) : List Value := [.int .i64 k]
def orK (l : List Int) : Int := (l.find? fun k => !decide (k = 0)).getD 0
def OrI (w : World) (l : List Int) : KL := fun x w1 => ∃ (a b : Value) (i : Nat), x = [a, b, .int .i64 (i : Nat)] ∧ w1 = w ∧ i ≤ l.length ∧ ∀ (j : Nat) k, l[j]? = some k → j < i → k = 0
theorem bni {w : World} {v : Value} {l : List Int} (hs : Sl w 1 yu v l) (hlen : l.length ≤ 1000) {K : KV} (h : K (.int .i64 (orK l)) w) : kg P F.el [v] w K := by
 apply M.ci.calls
 unfold M.ci
 simp only [gp]
 rw [hs.iy (by simp)]
 refine ⟨OrI w l, fun x _ => l.length - ms x 2, ⟨_, _, 0, rfl, rfl, Nat.zero_le _, fun j k _ h => by omega⟩, ?_⟩
 rintro x w1 ⟨a, b, i, rfl, rfl, hi, hz⟩
 have gv2 : gv [a, b, .int .i64 (i : Int)] 2 = .int .i64 (i : Int) := rfl
 simp only [gv2]
 by_cases hil : i < l.length
 ·obtain ⟨bb, o, cap, rfl, hb, _, hr⟩ := hs.at hil
  have e0 := hr 0 _ rfl
  simp only [Nat.mul_one, Nat.add_zero] at e0
  have hw : IntKind.i64.wrap ((i : Int) + 1) = ((i + 1 : Nat) : Int) := by rw [ia]; rfl
  simp [hil]
  unfold M.ci.j2
  simp only [gp, gv2]
  by_cases hk : l[i] = 0
  ·simp [hil, e0, hk, hw]
   refine ⟨⟨_, _, i + 1, rfl, rfl, by omega, fun j k hj hlt => ?_⟩, by simp [ms, gv]; omega⟩
   by_cases hji : j = i
   ·subst hji
    rw [List.getElem?_eq_getElem hil] at hj
    cases hj; exact hk
   ·exact hz j k hj (by omega)
  ·simp [hil, e0, hk]
   have : orK l = l[i] := by
    unfold orK
    have : l.find? (fun k => !decide (k = 0)) = some l[i] := by
     rw [List.find?_eq_some_iff_getElem]
     refine ⟨by simpa using hk, i, hil, rfl, fun j hj => ?_⟩
     have := hz j _ (List.getElem?_eq_getElem (by omega)) hj
     simp [this]
    rw [this]; rfl
   rw [this] at h; exact h
 ·simp [hil]
  have : orK l = 0 := by
   unfold orK
   have : l.find? (fun k => !decide (k = 0)) = none := by
    rw [List.find?_eq_none]
    intro k hk
    obtain ⟨j, hj, rfl⟩ := List.mem_iff_getElem.1 hk
    have := hz j _ (List.getElem?_eq_getElem hj) (by omega)
    simp [this]
   rw [this]; rfl
  rw [this] at h; exact h
def ll (s : Spn) : Int := if s.iw = 0 ∨ s.id = 0 ∨ 1099511627776 < max s.jp s.len then 1 else orK [pr s.kc, pr s.name]
theorem ajr {w : World} (s : Spn) {K : KV} (h : ∀ w', Fz w w' → K (.int .i64 (ll s)) w') : kg P F.er [km s] w K := by
 apply M.cx.calls
 unfold M.cx km
 simp only [gp, xj, bcs]
 generalize hwa : w.alloc (.cells #[.int .u64 s.iw, .int .u64 s.id, .int .u64 s.px, .int .u64 s.jp, .int .u64 s.len, .string s.kc, .string s.name, .bool s.tw] T.e) = wa
 have hb : wa.heap[w.heap.size]? = some (.cells #[.int .u64 s.iw, .int .u64 s.id, .int .u64 s.px, .int .u64 s.jp, .int .u64 s.len, .string s.kc, .string s.name, .bool s.tw] T.e (0, 0)) := by rw [← hwa, iq, if_pos rfl]
 have hf : Fz w wa := by rw [← hwa]; exact (Fr.refl _ w).alloc _
 have c0 := gt hb 0
 have c1 := gt hb 1
 have c3 := gt hb 3
 have c4 := gt hb 4
 have c5 := gt hb 5
 have c6 := gt hb 6
 simp at c0 c1 c3 c4 c5 c6
 unfold ll at h
 by_cases h0 : s.iw = 0
 ·simp [c0, h0] at h ⊢
  exact h wa hf
 ·by_cases h1 : s.id = 0
  ·simp [c0, c1, h0, h1] at h ⊢
   exact h wa hf
  ·by_cases h2 : 1099511627776 < max s.jp s.len
   ·simp [c0, c1, c3, c4, h0, h1, h2] at h ⊢
    exact h wa hf
   ·simp [c0, c1, c3, c4, h0, h1, h2] at h ⊢
    unfold M.cx.j0
    simp [c5, c6]
    rw [M.bw.fcall]
    refine axi _ fun w2 f2 => ?_
    have f2' : Fz wa w2 := ⟨f2.size, f2.jy, f2.tape, f2.os, f2.output⟩
    have d6 : gr w2 w.heap.size 6 = some (.string s.name) := by rw [wd (f2'.jy _ (ph hb) fun h => h)]; exact c6
    simp [d6]
    rw [M.bw.fcall]
    refine axi _ fun w3 f3 => ?_
    simp
    rw [M.ci.fcall]
    have hsl : Sl (w3.alloc (.cells #[.int .i64 (pr s.kc), .int .i64 (pr s.name)] T.w)) 1 yu (.slice (some ⟨w3.heap.size, 0, none⟩) 2 2) [pr s.kc, pr s.name] := by
     refine ⟨_, 2, rfl, Nat.le_refl _, by decide, fun i x hi => ⟨_, 0, rfl, by simp, fun j u hu => ?_⟩⟩
     rw [akv rfl]
     match i with
     | 0 => simp at hi; subst hi; match j with
      | 0 => simpa [yu] using hu
      | j + 1 => simp [yu] at hu
     | 1 => simp at hi; subst hi; match j with
      | 0 => simpa [yu] using hu
      | j + 1 => simp [yu] at hu
     | i + 2 => simp at hi
    exact bni hsl (by simp) (h _ (((hf.trans f2').trans f3).alloc _))
theorem bim {t : TypeId} (h : adv P t = false) {xs : Array Value} {i : Nat} {v : Value} (hv : xs[i]? = some v) (w : World) : (part t xs i).run P w = .ok v w := by
 unfold part
 rw [Sem.run_bind, bec h]
 simp [Result.andThen, hv, Sem.run_pure]
theorem eqF {d : Nat} {xs ys : Array Value} {f : Field} {fs : List Field} {w : World} {u v : Value} {b c : Bool} (hn : f.name ≠ "_") (h : adv P f.type = false) (hx : xs[f.offset]? = some u) (hy : ys[f.offset]? = some v) (he : (Op.equalIn d f.type u v).run P w = .ok b w) (hr : (Op.eqFields d xs ys fs).run P w = .ok c w) : (Op.eqFields d xs ys (f :: fs)).run P w = .ok (b && c) w := by
 simp only [Op.eqFields]
 rw [if_pos hn]
 simp only [Sem.run_bind, bim h hx, bim h hy, he, Result.andThen]
 cases b
 ·rfl
 ·simpa using hr
def rj (m : Mem) : Value := .agg #[.int .u64 m.id, .int .u64 m.inc, .int .i64 m.st]
abbrev SlM (w : World) (v : Value) (l : List Mem) : Prop := Sl w 3 acq v l
theorem ldM {w : World} {b i : Nat} {m : Mem} (h : ∀ k v, (acq m)[k]? = some v → gr w b (i + k) = some v) (K : KV) : ldN P 3 b i w K = K (rj m) w := qy (acq m) 3 rfl h K
def sx : Int → List Mem → Bool
 | _, [] => true
 | lr, m :: l => decide (lr < m.id) && sx m.id l
def RsI (W : World) (l : List Mem) : KL := fun x w1 => ∃ (u0 u1 : Value) (lr : Int) (i : Nat), x = [u0, u1, .int .u64 lr, .int .i64 (i : Nat)] ∧ i ≤ l.length ∧ sx 0 l = sx lr (l.drop i) ∧ Fz W w1
theorem bcd {w : World} (m : Mem) {K : KV} (h : ∀ w', Fz w w' → K (.int .u64 m.id) w') : nf P (.func (.func F.dg) #[] #[]) [rj m] w K := by
 rw [M.dn.rcall]
 apply M.dn.calls
 unfold M.dn rj
 simp
 have c0 : gr (w.alloc (.cells #[.int .u64 m.id, .int .u64 m.inc, .int .i64 m.st] T.q)) w.heap.size 0 = some (.int .u64 m.id) := by rw [gt (by rw [iq, if_pos rfl])]; rfl
 simp [c0]
 exact h _ ((Fr.refl _ w).alloc _)
theorem bkk {w : World} {v : Value} {l : List Mem} (hs : SlM w v l) (hlen : l.length ≤ 1000000) {K : KV} (h : ∀ w', Fz w w' → K (.bool (sx 0 l && (decide (0 < l.length) && decide (l.length ≤ 16)))) w') :
  gi P F.cf [v, .int .i64 16, .func (.func F.dg) #[] #[]] w K := by
 rw [M.ae.fcall]
 apply M.ae.calls
 unfold M.ae
 simp only [gp]
 rw [hs.iy (by kernel_rfl)]
 refine ⟨RsI w l, fun x _ => l.length - ms x 3, ⟨_, _, 0, 0, rfl, Nat.zero_le _, rfl, Fr.refl _ _⟩, ?_⟩
 rintro x w1 ⟨u0, u1, lr, i, rfl, hi, hr, f1⟩
 have q2 : gv [u0, u1, .int .u64 lr, .int .i64 (i : Nat)] 2 = .int .u64 lr := rfl
 have q3 : gv [u0, u1, .int .u64 lr, .int .i64 (i : Nat)] 3 = .int .i64 (i : Nat) := rfl
 have hs1 := hs.fr f1 fun _ _ _ h => h
 simp only [q3]
 by_cases hil : i < l.length
 ·have hil' : (i : Int) < l.length := by omega
  simp [hil']
  unfold M.ae.j2
  obtain ⟨b, o, cap, hv, hb, _, hc⟩ := hs1.at hil
  have hld : ∀ K, ldN P 3 b (o + i * 3) w1 K = K (rj l[i]) w1 := fun K => ldM hc K
  have hwi : IntKind.i64.wrap ((i : Int) + 1) = ((i + 1 : Nat) : Int) := by rw [ia]; rfl
  have hdrop : l.drop i = l[i] :: l.drop (i + 1) := List.drop_eq_getElem_cons hil
  rw [hdrop] at hr
  generalize l[i] = m at *
  subst hv
  simp [q2, q3, hil, hld]
  have e1 : rj m = .agg #[.int .u64 m.id, .int .u64 m.inc, .int .i64 m.st] := rfl
  rw [e1]
  simp
  have hba : (w1.alloc (.cells #[.int .u64 0, .int .u64 0, .int .i64 0] T.q)).heap[w1.heap.size]? = some (.cells #[.int .u64 0, .int .u64 0, .int .i64 0] T.q (0, 0)) := by rw [iq, if_pos rfl]
  refine ke (vs := [.int .u64 m.id, .int .u64 m.inc, .int .i64 m.st]) hba rfl (by simp) fun w2 b2 f2 => ?_
  have f2' : Fz w1 w2 := ((Fr.refl _ w1).alloc _).mu f2 fun y hy he => by subst he; omega
  have hld2 : ∀ {w'}, Fz w2 w' → ∀ K, ldN P 3 w1.heap.size 0 w' K = K (rj m) w' := fun f K => by
   have b3 := f.heap b2 fun h => h
   exact ldM (m := m) (i := 0) (fun k v hk => by rw [gt b3, Nat.zero_add, List.getElem?_toArray]; exact hk) K
  rw [hld2 (Fr.refl _ _)]
  refine bcd m fun w3 f3 => ?_
  simp
  by_cases hle : m.id ≤ lr
  ·have hlt : ¬ lr < m.id := by omega
   simp [hle]
   have hf : sx 0 l = false := by rw [hr]; unfold sx; simp [hlt]
   rw [hf] at h
   exact h w3 ((f1.trans f2').trans f3)
  ·have hlt : lr < m.id := by omega
   simp [hle]
   rw [hld2 f3]
   refine bcd m fun w4 f4 => ?_
   simp [hwi]
   refine ⟨⟨_, _, m.id, i + 1, rfl, by omega, ?_, ((f1.trans f2').trans f3).trans f4⟩, by simp [ms, gv]; omega⟩
   rw [hr]
   show (decide (lr < m.id) && sx m.id (l.drop (i + 1))) = _
   simp [hlt]
 ·have hil' : ¬ (i : Int) < l.length := by omega
  have hr1 : sx 0 l = true := by rw [hr, List.drop_of_length_le (by omega)]; rfl
  simp [hil']
  unfold M.ae.j0
  rw [hs1.iy (by kernel_rfl)]
  rw [hr1] at h
  by_cases h0 : 0 < l.length
  ·have h0' : (0 : Int) < l.length := by omega
   have hx : decide ((l.length : Int) ≤ 16) = decide (l.length ≤ 16) := by
    by_cases h16 : l.length ≤ 16
    ·rw [decide_eq_true h16, decide_eq_true (by omega)]
    ·rw [decide_eq_false h16, decide_eq_false (by omega)]
   simp [h0]
   rw [hs1.iy (by kernel_rfl)]
   simp
   rw [hx]
   have := h w1 f1
   simpa [h0] using this
  ·simp [h0]
   have := h w1 f1
   simpa [h0] using this
def boh (W : World) (p : Mem → Bool) (l : List Mem) : KL := fun x w1 => ∃ (u0 u1 : Value) (i : Nat), x = [u0, u1, .int .i64 (i : Nat)] ∧ i ≤ l.length ∧ (∀ j (h : j < l.length), j < i → p l[j] = false) ∧ Fz W w1
theorem bgv {w : World} {v fv : Value} {l : List Mem} {p : Mem → Bool} (hs : SlM w v l) (hlen : l.length ≤ 1000000) (hp : ∀ m w1, Fz w w1 → ∀ {K : KV}, (∀ w', Fz w1 w' → K (.bool (p m)) w') → nf P fv [rj m] w1 K) {K : KV}
  (h1 : ∀ w' i (hi : i < l.length), p l[i] = true → (∀ j (h : j < l.length), j < i → p l[j] = false) → Fz w w' → K (.int .i64 (i : Nat)) w')
  (h0 : ∀ w', (∀ m ∈ l, p m = false) → Fz w w' → K (.int .i64 (-1)) w') : gi P F.ay [v, fv] w K := by
 rw [M.q.fcall]
 apply M.q.calls
 unfold M.q
 simp only [gp]
 rw [hs.iy (by kernel_rfl)]
 refine ⟨boh w p l, fun x _ => l.length - ms x 2, ⟨_, _, 0, rfl, Nat.zero_le _, fun _ _ h => by omega, Fr.refl _ _⟩, ?_⟩
 rintro x w1 ⟨u0, u1, i, rfl, hi, hz, f1⟩
 have q2 : gv [u0, u1, .int .i64 (i : Nat)] 2 = .int .i64 (i : Nat) := rfl
 have hs1 := hs.fr f1 fun _ _ _ h => h
 simp only [q2]
 by_cases hil : i < l.length
 ·have hil' : (i : Int) < l.length := by omega
  simp [hil']
  unfold M.q.j2
  obtain ⟨b, o, cap, hv, hb, _, hc⟩ := hs1.at hil
  have hld : ∀ K, ldN P 3 b (o + i * 3) w1 K = K (rj l[i]) w1 := fun K => ldM hc K
  have hwi : IntKind.i64.wrap ((i : Int) + 1) = ((i + 1 : Nat) : Int) := by rw [ia]; rfl
  subst hv
  simp [q2, hil, hld]
  refine hp l[i] w1 f1 fun w2 f2 => ?_
  cases hpi : p l[i] with
  | true => simp; exact h1 w2 i hil hpi hz (f1.trans f2)
  | false =>
   simp [hwi]
   refine ⟨⟨_, _, i + 1, rfl, by omega, fun j hj hji => ?_, f1.trans f2⟩, by simp [ms, gv]; omega⟩
   by_cases hje : j = i
   ·subst hje; exact hpi
   ·exact hz j hj (by omega)
 ·have hil' : ¬ (i : Int) < l.length := by omega
  simp [hil']
  refine h0 w1 (fun m hm => ?_) f1
  obtain ⟨j, hj, rfl⟩ := List.getElem_of_mem hm
  exact hz j hj (by omega)
def qn (m : Mem) : Bool := decide (m.inc = 0) || (decide (m.st < 0) || decide (2 < m.st))
theorem bkn {w : World} (m : Mem) {K : KV} (h : ∀ w', Fz w w' → K (.bool (qn m)) w') : nf P (.func (.func F.df) #[] #[]) [rj m] w K := by
 rw [M.dm.rcall]
 apply M.dm.calls
 unfold M.dm rj
 simp
 have hb : (w.alloc (.cells #[.int .u64 m.id, .int .u64 m.inc, .int .i64 m.st] T.q)).heap[w.heap.size]? = some (.cells #[.int .u64 m.id, .int .u64 m.inc, .int .i64 m.st] T.q (0, 0)) := by rw [iq, if_pos rfl]
 have c1 : gr (w.alloc (.cells #[.int .u64 m.id, .int .u64 m.inc, .int .i64 m.st] T.q)) w.heap.size 1 = some (.int .u64 m.inc) := by rw [gt hb]; rfl
 have c2 : gr (w.alloc (.cells #[.int .u64 m.id, .int .u64 m.inc, .int .i64 m.st] T.q)) w.heap.size 2 = some (.int .i64 m.st) := by rw [gt hb]; rfl
 have fin := h _ ((Fr.refl _ w).alloc (.cells #[.int .u64 m.id, .int .u64 m.inc, .int .i64 m.st] T.q))
 unfold qn at fin
 generalize w.alloc (.cells #[.int .u64 m.id, .int .u64 m.inc, .int .i64 m.st] T.q) = w1 at *
 by_cases h1 : m.inc = 0
 ·simp [c1, c2, h1] at fin ⊢; exact fin
 by_cases h2 : m.st < 0
 ·simp [c1, c2, h1, h2] at fin ⊢; exact fin
 simp [c1, c2, h1, h2] at fin ⊢; exact fin
theorem aub {w : World} {v : Value} {l : List Mem} (hs : SlM w v l) (hlen : l.length ≤ 1000000) {K : KV} (h : ∀ w', Fz w w' → K (.bool (l.any qn)) w') : gi P F.av [v, .func (.func F.df) #[] #[]] w K := by
 rw [M.ah.fcall]
 apply M.ah.calls
 unfold M.ah
 refine bgv (p := qn) hs hlen (fun m w1 _ _ hK => bkn m hK) (fun w' i hi hpi _ f => ?_) fun w' hn f => ?_
 ·have : l.any qn = true := List.any_eq_true.2 ⟨l[i], List.getElem_mem hi, hpi⟩
  rw [this] at h
  have h0 : (0 : Int) ≤ (i : Nat) := by omega
  simp [h0]
  exact h w' f
 ·have : l.any qn = false := by
   rw [List.any_eq_false]
   intro m hm; rw [hn m hm]; simp
  rw [this] at h
  simp
  exact h w' f
theorem aon {w : World} {v : Value} {l : List Mem} (hs : SlM w v l) (hlen : l.length ≤ 1000000) {K : KV} (h : ∀ w' v', SlM w' v' l → (∀ x, v'.ownBlock = some x → w.heap.size ≤ x) → Fz w w' → K v' w') : gi P F.aw [v] w K := by
 rw [M.ax.fcall]
 apply M.ax.calls
 unfold M.ax
 simp only [gp]
 have hs' := hs
 obtain ⟨a, cap, rfl, _⟩ := hs'
 cases a with
 | none =>
  simp
  have hz : l = [] := by
   obtain ⟨a', cap', hv, _, _, h3⟩ := hs
   cases l with
   | nil => rfl
   | cons x l =>
    obtain ⟨b, o, ha, _⟩ := h3 0 x rfl
    injection hv with h1 _ _
    rw [← h1] at ha; cases ha
  subst hz
  exact h w _ Sl.nil (fun x hx => by simp [Value.ownBlock] at hx) (Fr.refl _ _)
 | some a =>
  simp
  have f0 : Fz w (w.alloc (.cells #[] T.q)) := (Fr.refl _ w).alloc _
  refine ww et.j aul bic (base := w.heap.size) (Ow.empty (by rw [iq, if_pos rfl]) (Nat.le_refl _)) (hs.fr f0 fun _ _ _ h => h) (by simp; omega) (by decide) (by simp) _ fun v3 w3 o3 f3 g3 => ?_
  rw [List.nil_append] at o3
  exact h w3 v3 (o3.sl aul) (fun x hx => (o3.lt hx).1) (f0.mu f3 fun b hb hv => by simp [Value.ownBlock] at hv; omega)
theorem bdd (x y : Mem) (w : World) : (Op.equalIn 10000 T.q (rj x) (rj y)).run P w = .ok (x.id == y.id && (x.inc == y.inc && (x.st == y.st))) w := by
 have hS : P.underlying T.q = some (.struct (P.fieldsOf T.q)) := by kernel_rfl
 have hp : P.stoodInHeld T.q = false := by kernel_rfl
 unfold rj
 rw [show (10000 : Nat) = 9999 + 1 from rfl, run_equalIn_agg w 9999 T.q _ _ hS hp]
 simp only [Program.fieldsOf, show P.underlying T.q = _ from Tryz.underlying139]
 have u22 : P.underlying T.g = some (.int .u64) := by kernel_rfl
 have u3 : P.underlying T.b = some (.int .i64) := by kernel_rfl
 have a22 : adv P T.g = false := by kernel_rfl
 have a3 : adv P T.b = false := by kernel_rfl
 refine eqF (by decide) a22 rfl rfl (run_equalIn_int w 9998 T.g _ _ _ _ u22) ?_
 refine eqF (by decide) a22 rfl rfl (run_equalIn_int w 9998 T.g _ _ _ _ u22) ?_
 have := eqF (fs := []) (d := 9999) (xs := #[.int .u64 x.id, .int .u64 x.inc, .int .i64 x.st]) (ys := #[.int .u64 y.id, .int .u64 y.inc, .int .i64 y.st]) (f := { name := "State", type := T.b, offset := 2, embedded := false, tag := "", pkgPath := "", byteOffset := 16 }) (w := w) (c := true) (by decide) a3 rfl rfl (run_equalIn_int w 9998 T.b _ _ _ _ u3) rfl
 simpa using this
theorem bns (x y : Mem) : (x.id == y.id && (x.inc == y.inc && (x.st == y.st))) = decide (x = y) := by
 obtain ⟨a, b, c⟩ := x
 obtain ⟨a', b', c'⟩ := y
 simp only [Mem.mk.injEq]
 by_cases h1 : a = a' <;> by_cases h2 : b = b' <;> by_cases h3 : c = c' <;> simp [h1, h2, h3]
theorem bdn (rx ry : Operand) (x y : Mem) (w : World) (K : KV) : ib P .neq T.q rx ry (rj x) (rj y) w K = K (.bool !(decide (x = y))) w := by
 have hm : P.eqGuardType P.depth T.q = false := by kernel_rfl
 have hg := run_eqGuard_agg (P := P) w .neq T.q rx ry #[.int .u64 x.id, .int .u64 x.inc, .int .i64 x.st] #[.int .u64 y.id, .int .u64 y.inc, .int .i64 y.st] hm
 have he := bdd x y w
 rw [bns] at he
 unfold ib jn
 unfold rj at he ⊢
 rw [Sem.run_bind, hg]
 simp only [Result.andThen]
 rw [run_neq_struct, he]
 rfl
def EmI (W : World) (l1 l2 : List Mem) : KL := fun x w1 => ∃ (u0 u1 : Value) (i : Nat), x = [u0, u1, .int .i64 (i : Nat)] ∧ i ≤ l1.length ∧ (∀ j, j < i → l1[j]? = l2[j]?) ∧ Fz W w1
theorem bcw {w : World} {v1 v2 : Value} {l1 l2 : List Mem} (s1 : SlM w v1 l1) (s2 : SlM w v2 l2) (hlen : l1.length ≤ 1000000) {K : KV} (h : ∀ w', Fz w w' → K (.bool (decide (l1 = l2))) w') : gi P F.be [v1, v2] w K := by
 rw [M.h.fcall]
 apply M.h.calls
 unfold M.h
 simp only [gp]
 rw [s1.iy (by kernel_rfl), s2.iy (by kernel_rfl)]
 by_cases hne : l1.length = l2.length
 ·simp [hne]
  unfold M.h.j0
  simp only [gp]
  rw [s1.iy (by kernel_rfl)]
  refine ⟨EmI w l1 l2, fun x _ => l1.length - ms x 2, ⟨_, _, 0, rfl, Nat.zero_le _, fun _ h => by omega, Fr.refl _ _⟩, ?_⟩
  rintro x w1 ⟨u0, u1, i, rfl, hi, hz, f1⟩
  have q2 : gv [u0, u1, .int .i64 (i : Nat)] 2 = .int .i64 (i : Nat) := rfl
  have t1 := s1.fr f1 fun _ _ _ h => h
  have t2 := s2.fr f1 fun _ _ _ h => h
  simp only [q2]
  by_cases hil : i < l1.length
  ·have hil' : (i : Int) < l1.length := by omega
   have hil2 : i < l2.length := by omega
   simp [hil']
   unfold M.h.j3
   obtain ⟨b1, o1, cap1, hv1, _, _, e1⟩ := (s1.fr (f1.dr 1) fun _ _ _ h => h).at hil
   obtain ⟨b2, o2, cap2, hv2, _, _, e2⟩ := (s2.fr (f1.dr 1) fun _ _ _ h => h).at hil2
   have hld1 : ∀ K, ldN P 3 b1 (o1 + i * 3) (Eng.dr w1 1) K = K (rj l1[i]) (Eng.dr w1 1) := fun K => ldM e1 K
   have hld2 : ∀ K, ldN P 3 b2 (o2 + i * 3) (Eng.dr w1 1) K = K (rj l2[i]) (Eng.dr w1 1) := fun K => ldM e2 K
   have hwi : IntKind.i64.wrap ((i : Int) + 1) = ((i + 1 : Nat) : Int) := by rw [ia]; rfl
   subst hv1 hv2
   simp [q2, hil, hil2, hld1, hld2, bdn]
   by_cases heq : l1[i] = l2[i]
   ·simp [heq, hwi]
    refine ⟨⟨_, _, i + 1, rfl, by omega, fun j hj => ?_, f1.dr 1⟩, by simp [ms, gv]; omega⟩
    by_cases hji : j = i
    ·subst hji
     rw [List.getElem?_eq_getElem hil, List.getElem?_eq_getElem hil2, heq]
    ·exact hz j (by omega)
   ·simp [heq]
    have hf : decide (l1 = l2) = false := decide_eq_false fun h => heq (by subst h; rfl)
    rw [hf] at h
    exact h _ (f1.dr 1)
  ·have hil' : ¬ (i : Int) < l1.length := by omega
   simp [hil']
   have hf : decide (l1 = l2) = true := decide_eq_true (List.ext_getElem? fun j => by
    by_cases hj : j < i
    ·exact hz j hj
    ·rw [List.getElem?_eq_none (by omega), List.getElem?_eq_none (by omega)])
   rw [hf] at h
   exact h _ f1
 ·have hf : decide (l1 = l2) = false := decide_eq_false fun h => hne (by rw [h])
  rw [hf] at h
  have hne' : ¬ (l1.length : Int) = l2.length := by omega
  simp [hne']
  exact h w (Fr.refl _ _)
theorem asm (v : Value) (w : World) (K : KV) : taT P (.iface T.t v) T.ap T.r true w K = K (.tuple #[.agg #[.int .u64 0, .bool false, .slice none 0 0], .bool false]) w := kr
theorem ail (b : Nat) (w : World) (K : KV) : pw P T.a (.pointer (some ⟨b, 0, none⟩)) w K = ldN P 11 b 0 w K := kr
def agf (v : Value) : List Value := [.int .i64 3, .int .u64 0, .int .u64 0, .int .u64 0, .int .u64 0, .int .u64 0, .int .i64 0, .bool false, .slice none 0 0, v, .slice none 0 0]
theorem biw {w : World} {b : Nat} {v : Value} {f : Nat × Nat} (h : w.heap[b]? = some (.cells (agf v).toArray T.a f)) (K : KV) : ldN P 11 b 0 w K = K (.agg (agf v).toArray) w :=
 qy (agf v) 11 rfl (fun k u hk => by rw [gt h, Nat.zero_add, List.getElem?_toArray]; exact hk) K
def zg (l : List Mem) : Bool := (sx 0 l && (decide (0 < l.length) && decide (l.length ≤ 16))) && !(l.any qn)
theorem bdw {w : World} {v : Value} {l : List Mem} (hs : SlM w v l) (hlen : l.length ≤ 1000000) {K : KV} (h : ∀ w', Fz w w' → K (.bool (zg l)) w') : gi P F.bh [.iface T.t (.agg #[v])] w K := by
 rw [M.r.fcall]
 apply M.r.calls
 unfold M.r
 simp
 have hba : (w.alloc (.cells #[.int .u64 0, .int .u64 0] T.c)).heap[w.heap.size]? = some (.cells #[.int .u64 0, .int .u64 0] T.c (0, 0)) := by rw [iq, if_pos rfl]
 refine ke (vs := [.int .u64 0, .int .u64 0]) hba rfl (by simp) fun w2 b2 f2 => ?_
 have f2' : Fz w w2 := ((Fr.refl _ w).alloc _).mu f2 fun y hy he => by subst he; omega
 have hs2 := hs.fr f2' fun _ _ _ h => h
 rw [asm]
 obtain ⟨a, c, hv, _⟩ := id hs2
 have hcell : ∀ {w'}, Fz w2 w' → SlM w' v l := fun f => hs2.fr f fun _ _ _ h => h
 rw [hv]
 simp
 have hbm : (w2.alloc (.cells #[.slice none 0 0] T.t)).heap[w2.heap.size]? = some (.cells #[.slice none 0 0] T.t (0, 0)) := by rw [iq, if_pos rfl]
 refine ke (vs := [.slice a l.length c]) hbm rfl (by simp) fun w3 b3 f3 => ?_
 have f3' : Fz w2 w3 := ((Fr.refl _ w2).alloc _).mu f3 fun y hy he => by subst he; omega
 have c0 : gr w3 w2.heap.size 0 = some (.slice a l.length c) := by rw [gt b3]; rfl
 simp [c0]
 rw [← hv]
 refine bkk (hcell f3') hlen fun w4 f4 => ?_
 have c4 : gr w4 w2.heap.size 0 = some (.slice a l.length c) := by rw [gt (f4.heap b3 fun h => h)]; rfl
 unfold zg at h
 generalize (sx 0 l && (decide (0 < l.length) && decide (l.length ≤ 16))) = r at *
 cases r with
 | false =>
  simp
  exact h w4 ((f2'.trans f3').trans f4)
 | true =>
  simp [c4]
  rw [← hv]
  refine aub (hcell (f3'.trans f4)) hlen fun w5 f5 => ?_
  simp
  exact h w5 (((f2'.trans f3').trans f4).trans f5)
theorem ayf {w : World} {v : Value} {l : List Mem} (hs : SlM w v l) (hlen : l.length ≤ 1000000) {K : KV} (h : ∀ w' v', SlM w' v' l → Fz w w' → K (.agg (agf v').toArray) w') : gi P F.ax [.iface T.t (.agg #[v])] w K := by
 rw [M.n.fcall]
 apply M.n.calls
 unfold M.n
 simp
 rw [asm]
 generalize hw1 : w.alloc (.cells #[.int .i64 0, .int .u64 0, .int .u64 0, .int .u64 0, .int .u64 0, .int .u64 0, .int .i64 0, .bool false, .slice none 0 0, .slice none 0 0, .slice none 0 0] T.a) = w1
 have hb1 : w1.heap[w.heap.size]? = some (.cells #[.int .i64 0, .int .u64 0, .int .u64 0, .int .u64 0, .int .u64 0, .int .u64 0, .int .i64 0, .bool false, .slice none 0 0, .slice none 0 0, .slice none 0 0] T.a (0, 0)) := by rw [← hw1, iq, if_pos rfl]
 have f1 : Fz w w1 := by rw [← hw1]; exact (Fr.refl _ w).alloc _
 have hs1 := hs.fr f1 fun _ _ _ h => h
 obtain ⟨a, c, hv, _⟩ := id hs1
 have hcell : ∀ {w'}, Fz w1 w' → SlM w' v l := fun f => hs1.fr f fun _ _ _ h => h
 rw [hv]
 simp
 have hbm : (w1.alloc (.cells #[.slice none 0 0] T.t)).heap[w1.heap.size]? = some (.cells #[.slice none 0 0] T.t (0, 0)) := by rw [iq, if_pos rfl]
 refine ke (vs := [.slice a l.length c]) hbm rfl (by simp) fun w3 b3 f3 => ?_
 have f3' : Fz w1 w3 := ((Fr.refl _ w1).alloc _).mu f3 fun y hy he => by subst he; omega
 have c0 : gr w3 w1.heap.size 0 = some (.slice a l.length c) := by rw [gt b3]; rfl
 simp [c0]
 rw [← hv]
 refine aon (hcell f3') hlen fun w4 v4 s4 n4 f4 => ?_
 obtain ⟨a4, c4, hv4, _⟩ := id s4
 have hb4 := (f3'.trans f4).heap hb1 fun h => h
 rw [hv4]
 simp
 refine ke (vs := agf (.slice a4 l.length c4)) hb4 rfl (by simp [agf]) fun w5 b5 f5 => ?_
 rw [biw b5]
 have e : Value.agg (agf (.slice a4 l.length c4)).toArray = .agg #[.int .i64 3, .int .u64 0, .int .u64 0, .int .u64 0, .int .u64 0, .int .u64 0, .int .i64 0, .bool false, .slice none 0 0, .slice a4 l.length c4, .slice none 0 0] := rfl
 rw [e]
 simp
 refine ke (vs := agf (.slice a4 l.length c4)) b5 rfl (by simp [agf]) fun w6 b6 f6 => ?_
 rw [ail, biw b6]
 simp
 have hlt1 : w.heap.size < w1.heap.size := (Array.getElem?_eq_some_iff.1 hb1).1
 have hs31 := f3'.size
 have hnn : ∀ b, (Value.slice a4 l.length c4).ownBlock = some b → b ≠ w.heap.size := fun b hb => by
  have := n4 b (by rw [hv4]; exact hb)
  omega
 rw [hv4] at s4
 have s6 : SlM w6 (.slice a4 l.length c4) l := (s4.fr f5 fun b hb _ => hnn b hb).fr f6 fun b hb _ => hnn b hb
 have f46 : Fz w w6 := (((f1.trans f3').trans f4).mu f5 fun y hy he => by subst he; omega).mu f6 fun y hy he => by subst he; omega
 exact h w6 _ s6 f46
end Go.Proofs.YtfnhoaemapheoaaGreat
namespace Go.Eng
end Go.Eng
set_option maxRecDepth 100000
namespace Go.Proofs.YtfnhoaemapheoaaGreat
open Go.Eng
set_option maxRecDepth 100000
end Go.Proofs.YtfnhoaemapheoaaGreat
namespace Go.Eng
end Go.Eng
set_option maxRecDepth 100000
namespace Go.Proofs.YtfnhoaemapheoaaGreat
open Go.Eng
set_option maxRecDepth 100000
abbrev SlS (w : World) (v : Value) (l : List Spn) : Prop := Sl w 8 ir v l
def asx (w : World) (b : Nat) (s : Spn) : Prop := w.heap[b]? = some (.cells #[.int .u64 s.iw, .int .u64 s.id, .int .u64 s.px, .int .u64 s.jp, .int .u64 s.len, .string s.kc, .string s.name, .bool s.tw] T.e (0, 0))
theorem bko (s : Spn) (w : World) (K : KV) : my P T.e (km s) w K = K (.pointer (some ⟨w.heap.size, 0, none⟩)) (w.alloc (.cells #[.int .u64 s.iw, .int .u64 s.id, .int .u64 s.px, .int .u64 s.jp, .int .u64 s.len, .string s.kc, .string s.name, .bool s.tw] T.e)) := by
 rw [xj]; rfl
theorem bfg (w : World) (s : Spn) : asx (w.alloc (.cells #[.int .u64 s.iw, .int .u64 s.id, .int .u64 s.px, .int .u64 s.jp, .int .u64 s.len, .string s.kc, .string s.name, .bool s.tw] T.e)) w.heap.size s := by
 unfold asx; rw [iq, if_pos rfl]
theorem xn {w : World} {b : Nat} {s : Spn} (h : asx w b s) : ∀ k v, (ir s)[k]? = some v → gr w b k = some v := fun k v hk => by
 rw [gt h]
 have : (#[.int .u64 s.iw, .int .u64 s.id, .int .u64 s.px, .int .u64 s.jp, .int .u64 s.len, .string s.kc, .string s.name, .bool s.tw] : Array Value) = (ir s).toArray := rfl
 rw [this]; simpa using hk
theorem ldS {w : World} {b i : Nat} {s : Spn} (h : ∀ k v, (ir s)[k]? = some v → gr w b (i + k) = some v) (K : KV) : ldN P 8 b i w K = K (km s) w := qy (ir s) 8 rfl h K
theorem aco {w : World} {v : Value} {l : List Spn} (hs : SlS w v l) (hlen : l.length ≤ 1000000) {K : KV} (h : ∀ w' v', SlS w' v' l → (∀ x, v'.ownBlock = some x → w.heap.size ≤ x ∧ x < w'.heap.size) → Fz w w' → K v' w') : kg P F.h [v] w K := by
 apply M.j.calls
 unfold M.j
 simp only [gp]
 have hs' := hs
 obtain ⟨a, cap, rfl, _⟩ := hs'
 cases a with
 | none =>
  simp
  have hz : l = [] := by
   obtain ⟨a', cap', hv, _, _, h3⟩ := hs
   cases l with
   | nil => rfl
   | cons x l =>
    obtain ⟨b, o, ha, _⟩ := h3 0 x rfl
    injection hv with h1 _ _
    rw [← h1] at ha; cases ha
  subst hz
  exact h w _ Sl.nil (fun x hx => by simp [Value.ownBlock] at hx) (Fr.refl _ _)
 | some a =>
  simp
  have f0 : Fz w (w.alloc (.cells #[] T.e)) := (Fr.refl _ w).alloc _
  refine ww et.d mj oh (base := w.heap.size) (Ow.empty (by rw [iq, if_pos rfl]) (Nat.le_refl _)) (hs.fr f0 fun _ _ _ h => h) (by simp; omega) (by decide) (by simp) _ fun v3 w3 o3 f3 g3 => ?_
  rw [List.nil_append] at o3
  exact h w3 v3 (o3.sl mj) (fun x hx => o3.lt hx) (f0.mu f3 fun b hb hv => by simp [Value.ownBlock] at hv; omega)
def oe (k : Int) : List Value := [.int .u64 k]
theorem vq (p : Int) : (oe p).length = 1 := rfl
theorem ath (p : Int) : ∀ u ∈ oe p, kh u = true := fun u hu => by
 simp only [oe, List.mem_cons, List.not_mem_nil, or_false] at hu
 subst hu; rfl
abbrev SlU (w : World) (v : Value) (l : List Int) : Prop := Sl w 1 oe v l
abbrev OwU (w : World) (base : Nat) (v : Value) (l : List Int) : Prop := Ow w base T.g 1 oe v l
theorem aev {w : World} {v : Value} {l : List Int} (h : SlU w v l) {i : Nat} (hi : i < l.length) : ∃ b o cap, v = .slice (some ⟨b, o, none⟩) l.length cap ∧ b < w.heap.size ∧ gr w b (o + i) = some (.int .u64 l[i]) := by
 obtain ⟨b, o, cap, hv, hb, _, hr⟩ := h.at hi
 have := hr 0 _ rfl
 simp only [Nat.mul_one, Nat.add_zero] at this
 exact ⟨b, o, cap, hv, hb, this⟩
def uu (x y : Spn) : Bool := x.iw == y.iw && (x.id == y.id && (x.px == y.px && (x.jp == y.jp && (x.len == y.len && (x.kc.toList == y.kc.toList && (x.name.toList == y.name.toList && (x.tw == y.tw)))))))
theorem ami (x : Spn) : uu x x = true := by simp [uu]
theorem baj (x y : Spn) (w : World) : (Op.equalIn 10000 T.e (km x) (km y)).run P w = .ok (uu x y) w := by
 have hS : P.underlying T.e = some (.struct (P.fieldsOf T.e)) := by kernel_rfl
 have hp : P.stoodInHeld T.e = false := by kernel_rfl
 unfold km
 rw [show (10000 : Nat) = 9999 + 1 from rfl, run_equalIn_agg w 9999 T.e _ _ hS hp]
 have u22 : P.underlying 35 = some (.int .u64) := Tryz.underlying35
 have u9 : P.underlying 9 = some .string := Tryz.underlying9
 have u4 : P.underlying 4 = some .bool := Tryz.underlying4
 simp only [Program.fieldsOf, show P.underlying T.e = _ from Tryz.underlying85]
 have a22 : adv P 35 = false := by kernel_rfl
 have a9 : adv P 9 = false := by kernel_rfl
 have a4 : adv P 4 = false := by kernel_rfl
 unfold uu
 refine eqF (by decide) a22 rfl rfl (run_equalIn_int w 9998 35 _ _ _ _ u22) ?_
 refine eqF (by decide) a22 rfl rfl (run_equalIn_int w 9998 35 _ _ _ _ u22) ?_
 refine eqF (by decide) a22 rfl rfl (run_equalIn_int w 9998 35 _ _ _ _ u22) ?_
 refine eqF (by decide) a22 rfl rfl (run_equalIn_int w 9998 35 _ _ _ _ u22) ?_
 refine eqF (by decide) a22 rfl rfl (run_equalIn_int w 9998 35 _ _ _ _ u22) ?_
 refine eqF (by decide) a9 rfl rfl (run_equalIn_string w 9998 9 _ _ u9) ?_
 refine eqF (by decide) a9 rfl rfl (run_equalIn_string w 9998 9 _ _ u9) ?_
 have := eqF (fs := []) (d := 9999) (xs := #[.int .u64 x.iw, .int .u64 x.id, .int .u64 x.px, .int .u64 x.jp, .int .u64 x.len, .string x.kc, .string x.name, .bool x.tw]) (ys := #[.int .u64 y.iw, .int .u64 y.id, .int .u64 y.px, .int .u64 y.jp, .int .u64 y.len, .string y.kc, .string y.name, .bool y.tw]) (f := { name := "Fail", type := 4, offset := 7, embedded := false, tag := "", pkgPath := "", byteOffset := 72 }) (w := w) (c := true) (by decide) a4 rfl rfl (run_equalIn_bool' w 9998 4 _ _ u4) rfl
 simpa using this
theorem abz (rx ry : Operand) (x y : Spn) (w : World) (K : KV) : ib P .neq T.e rx ry (km x) (km y) w K = K (.bool !(uu x y)) w := by
 have hm : P.eqGuardType P.depth T.e = false := by kernel_rfl
 have hg := run_eqGuard_agg (P := P) w .neq T.e rx ry #[.int .u64 x.iw, .int .u64 x.id, .int .u64 x.px, .int .u64 x.jp, .int .u64 x.len, .string x.kc, .string x.name, .bool x.tw] #[.int .u64 y.iw, .int .u64 y.id, .int .u64 y.px, .int .u64 y.jp, .int .u64 y.len, .string y.kc, .string y.name, .bool y.tw] hm
 have he := baj x y w
 unfold ib jn
 unfold km at he ⊢
 rw [Sem.run_bind, hg]
 simp only [Result.andThen]
 rw [run_neq_struct, he]
 rfl
def bcg (w : World) (l1 l2 : List Spn) : KL := fun x w1 => ∃ (a : Value) (i : Nat), x = [a, .int .i64 (i : Nat)] ∧ i ≤ l1.length ∧ (∀ j (h1 : j < l1.length) (h2 : j < l2.length), j < i → uu l1[j] l2[j] = true) ∧ Fz w w1
def bnx (l1 l2 : List Spn) : Prop := l1.length = l2.length ∧ ∀ j (h1 : j < l1.length) (h2 : j < l2.length), uu l1[j] l2[j] = true
theorem bij {w : World} {v1 v2 : Value} {l1 l2 : List Spn} (h1 : SlS w v1 l1) (h2 : SlS w v2 l2) (hn : l1.length < 1000000) (hs : bnx l1 l2) {K : KV}
  (h : ∀ w', Fz w w' → K (.bool true) w') : kg P F.bp [v1, v2] w K := by
 obtain ⟨hne, hall⟩ := hs
 apply M.l.calls
 unfold M.l
 simp only [gp]
 rw [h1.iy (by simp), h2.iy (by simp)]
 simp [hne]
 unfold M.l.j0
 simp only [gp]
 refine ⟨bcg w l1 l2, fun x _ => l1.length - ms x 1, ⟨_, 0, rfl, Nat.zero_le _, fun j _ _ h => by omega, Fr.refl _ _⟩, ?_⟩
 rintro x w1 ⟨a, i, rfl, hin, hpre, hf1⟩
 have g1 : gv [a, .int .i64 (i : Int)] 1 = .int .i64 (i : Int) := rfl
 simp only [g1]
 have hr1 : SlS w1 v1 l1 := h1.fr hf1 fun _ _ _ h => h
 have hr2 : SlS w1 v2 l2 := h2.fr hf1 fun _ _ _ h => h
 rw [hr1.iy (by simp)]
 by_cases hlt : i < l1.length
 ·have hlt2 : i < l2.length := by omega
  obtain ⟨b1, o1, c1, rfl, _, _, k1⟩ := hr1.at hlt
  obtain ⟨b2, o2, c2, rfl, _, _, k2⟩ := hr2.at hlt2
  have hw : IntKind.i64.wrap ((i : Int) + 1) = ((i + 1 : Nat) : Int) := by rw [ia]; rfl
  have d1 : ∀ K, ldN P 8 b1 (o1 + i * 8) (dr w1 1) K = K (km l1[i]) (dr w1 1) := fun K => ldS (w := dr w1 1) k1 K
  have d2 : ∀ K, ldN P 8 b2 (o2 + i * 8) (dr w1 1) K = K (km l2[i]) (dr w1 1) := fun K => ldS (w := dr w1 1) k2 K
  simp [hlt]
  unfold M.l.j3
  simp only [gp, g1]
  simp [hlt, hlt2, d1, d2, abz, hall i hlt hlt2, hw]
  refine ⟨⟨_, i + 1, rfl, by omega, fun j a1 a2 _ => hall j a1 a2, hf1.dr 1⟩, by simp [ms, gv]; omega⟩
 ·simp [hlt]
  exact h _ hf1
end Go.Proofs.YtfnhoaemapheoaaGreat
set_option maxRecDepth 100000
namespace Go.Proofs.YtfnhoaemapheoaaGreat.CB
open Go.Eng
theorem amq {w : World} {n : Nat} (hn : n ≤ 1000000000) {K : KV} (h : ∀ w' v, Ow w' w.heap.size T.am 1 aga v [] → Fz w w' → K v w') :
  kg P F.ck [.slice none 0 0, .int .i64 n] w K := by
 apply M.bf.calls
 unfold M.bf
 have hneg : ¬ (n : Int) < 0 := by omega
 simp [hneg]
 unfold M.bf.j0
 have hsl : nk P T.f = true := by kernel_rfl
 have w0 : IntKind.i64.wrap 0 = 0 := by decide
 have wn : IntKind.i64.wrap (n : Int) = n := ia
 rw [gp, alr hsl, xy hsl]
 simp only [lk, rk]
 have e1 : IntKind.i64.wrap ((n : Int) - IntKind.i64.wrap (((0 : Nat) : Int) - ((0 : Nat) : Int))) = n := by
  rw [show ((0 : Nat) : Int) - ((0 : Nat) : Int) = 0 from by omega, w0, Int.sub_zero, wn]
 rw [e1]
 by_cases h0 : 0 < n
 ·have h0' : (0 : Int) < n := by omega
  simp only [h0', decide_true, Eng.cond_true]
  rw [alr hsl, zt (i := 0) (j := 0) hsl (.inl ⟨rfl, rfl⟩) (.inr ⟨.i64, rfl⟩) (Nat.le_refl _) (Nat.le_refl _)]
  refine bca (enc := aga) et.f (kn := .i64) (by kernel_rfl) h0 hn (by decide) _ fun w' cap hc o f => ?_
  rw [xy hsl, zt (i := 0) (j := 0) hsl (.inl ⟨rfl, rfl⟩) (.inr ⟨.i64, rfl⟩) (Nat.le_refl _) (Nat.zero_le _)]
  rw [if_neg (by omega)]
  have := h w' _ o f
  simpa [Addr.add, gv] using this
 ·have h0' : ¬ (0 : Int) < n := by omega
  simp only [h0', decide_false, Eng.cond_false]
  exact h w _ Ow.none (Fr.refl _ _)
abbrev Sls (w : World) (v : Value) (l : List Int) : Prop := Sl w 1 aga v l
abbrev Ows (w : World) (base : Nat) (v : Value) (l : List Int) : Prop := Ow w base T.am 1 aga v l
def tot (L : List (Value × List Int)) : Nat := (L.map fun p => p.2.length).sum
theorem ada {L : List (Value × List Int)} {i : Nat} (hi : i < L.length) : tot (L.take (i + 1)) = tot (L.take i) + L[i].2.length := by
 unfold tot
 rw [List.take_succ_eq_append_getElem hi, List.map_append, List.sum_append]; simp
theorem agy {L : List (Value × List Int)} (i : Nat) : tot (L.take i) ≤ tot L := by
 unfold tot
 conv => rhs; rw [← List.take_append_drop i L, List.map_append, List.sum_append]
 omega
theorem ajw (L : List (Value × List Int)) : (L.flatMap (·.2)).length = tot L := by
 unfold tot
 induction L with
 | nil => rfl
 | cons p L ih => simp [ih]
def CaI (w : World) (L : List (Value × List Int)) : KL := fun x w1 => ∃ (u : Value) (i : Nat), x = [u, .int .i64 (tot (L.take i) : Nat), .int .i64 (i : Nat)] ∧ w1 = w ∧ i ≤ L.length
def CbI (w : World) (L : List (Value × List Int)) : KL := fun x w1 => ∃ (u v : Value) (i : Nat), x = [u, v, .int .i64 (i : Nat)] ∧ i ≤ L.length ∧ Fz w w1 ∧ Ows w1 w.heap.size v ((L.take i).flatMap (·.2))
theorem aaz {w : World} {b cap : Nat} {L : List (Value × List Int)} {e : TypeId} (hb : w.heap[b]? = some (.cells (L.map (·.1)).toArray e (0, 0))) (hs : ∀ p ∈ L, Sls w p.1 p.2) (ht : tot L ≤ 100000000) (hL : L.length ≤ 1000) {K : KV}
  (h : ∀ w' v, Ows w' w.heap.size v (L.flatMap (·.2)) → Fz w w' → K v w') : kg P F.ar [.slice (some ⟨b, 0, none⟩) L.length cap] w K := by
 apply M.k.calls
 unfold M.k
 have hss : nk P T.l = true := by kernel_rfl
 have hsl : nk P T.f = true := by kernel_rfl
 have q0 : ∀ a b c : Value, gv [a, b, c] 0 = a := fun _ _ _ => rfl
 have q1 : ∀ a b c : Value, gv [a, b, c] 1 = b := fun _ _ _ => rfl
 have q2 : ∀ a b c : Value, gv [a, b, c] 2 = c := fun _ _ _ => rfl
 have q4 : ∀ a b c d e : Value, gv [a, b, c, d, e] 4 = e := fun _ _ _ _ _ => rfl
 have cell : ∀ (w' : World), Fz w w' → ∀ (i : Nat) (hi : i < L.length), gr w' b i = some L[i].1 := fun w' f i hi => by
  rw [gt (f.heap hb fun h => h)]
  simp [hi]
 rw [gp, xy hss]
 refine ⟨CaI w L, fun x _ => L.length - ms x 2, ⟨_, 0, rfl, rfl, Nat.zero_le _⟩, ?_⟩
 rintro x w1 ⟨u, i, rfl, rfl, hi⟩
 simp only [q0, q1, q2, lh, gp]
 by_cases hil : i < L.length
 ·have hil' : (i : Int) < L.length := by omega
  simp only [hil', decide_true, Eng.cond_true]
  unfold M.k.j2
  have hwi : IntKind.i64.wrap ((i : Int) + 1) = ((i + 1 : Nat) : Int) := by rw [ia]; rfl
  have c0 := cell w1 (Fr.refl _ _) i hil
  have hsi := hs L[i] (List.getElem_mem hil)
  obtain ⟨a', cap', hv', _⟩ := hsi
  have htt := ada hil
  have hle := agy (L := L) (i + 1)
  have hwt : IntKind.i64.wrap ((tot (L.take i) : Int) + (L[i].2.length : Int)) = ((tot (L.take (i + 1)) : Nat) : Int) := by rw [ia]; omega
  have hng : ¬ ((tot (L.take (i + 1)) : Nat) : Int) < 0 := by omega
  simp only [q0, q1, q2, gp]
  simp [hil, c0, hv', hwt, hwi, -Int.natCast_add]
  refine ⟨⟨_, i + 1, rfl, rfl, by omega⟩, ?_⟩
  simp [ms, gv]; omega
 ·have hie : i = L.length := by omega
  have hil' : ¬ (i : Int) < L.length := by omega
  simp only [hil', decide_false, Eng.cond_false]
  have htk : L.take i = L := List.take_of_length_le (by omega)
  rw [htk]
  unfold M.k.j0
  simp only [q4]
  rw [M.bf.fcall]
  refine amq (by omega) fun w2 v2 o2 f2 => ?_
  rw [gp, xy hss]
  refine ⟨CbI w1 L, fun x _ => L.length - ms x 2, ⟨_, v2, 0, rfl, Nat.zero_le _, f2, o2⟩, ?_⟩
  rintro x w3 ⟨u', v, j, rfl, hj, f3, o3⟩
  simp only [q0, q1, q2, lh, gp]
  by_cases hjl : j < L.length
  ·have hjl' : (j : Int) < L.length := by omega
   simp only [hjl', decide_true, Eng.cond_true]
   unfold M.k.j6
   have hwj : IntKind.i64.wrap ((j : Int) + 1) = ((j + 1 : Nat) : Int) := by rw [ia]; rfl
   have c0 := cell w3 f3 j hjl
   have hsj := (hs L[j] (List.getElem_mem hjl)).fr f3 fun _ _ _ h => h
   have hl1 : ((L.take j).flatMap (·.2)).length = tot (L.take j) := ajw _
   have htt := ada hjl
   have hle := agy (L := L) (j + 1)
   simp only [q0, q1, q2, gp]
   simp [hjl, c0, -List.length_flatMap]
   have hge := f3.size
   refine ww et.f jr xd o3 hsj (by rw [hl1]; omega) (by decide) hge _ fun v' w4 o4 f4 g4 => ?_
   simp only [hwj]
   refine ⟨⟨_, v', j + 1, rfl, by omega, f3.mu f4 fun x hx he => by have := (o3.lt he).1; omega, ?_⟩, ?_⟩
   ·rw [List.take_succ_eq_append_getElem hjl, List.flatMap_append]
    simpa using o4
   ·simp [ms, gv]; omega
  ·have hjl' : ¬ (j : Int) < L.length := by omega
   simp only [hjl', decide_false, Eng.cond_false, q4]
   have htj : L.take j = L := List.take_of_length_le (by omega)
   rw [htj] at o3
   exact h w3 v o3 f3
end Go.Proofs.YtfnhoaemapheoaaGreat.CB
set_option maxRecDepth 100000
namespace Go.Proofs.YtfnhoaemapheoaaGreat
open Go.Eng
class SD where
 k : IntKind
 el : TypeId
 sl : TypeId
 bag : FuncId
 bie : FuncId
 bez : FuncId
 ayx : FuncId
 aza : FuncId
 ayn : FuncId
 bgl : FuncId
 bao : FuncId
 bfw : FuncId
 bhk : FuncId
 bhn : FuncId
 baf : FuncId
 bgt : FuncId
 bfv : FuncId
 bey : FuncId
 ayd : FuncId
abbrev T.ak [SD] : TypeId := SD.el
abbrev T.al [SD] : TypeId := SD.sl
abbrev F.di [SD] : FuncId := SD.bag
abbrev F.fy [SD] : FuncId := SD.bie
abbrev F.fz [SD] : FuncId := SD.bez
abbrev F.fr [SD] : FuncId := SD.ayx
abbrev F.fv [SD] : FuncId := SD.aza
abbrev F.fw [SD] : FuncId := SD.ayn
abbrev F.ga [SD] : FuncId := SD.bgl
abbrev F.fx [SD] : FuncId := SD.bao
abbrev F.gb [SD] : FuncId := SD.bfw
abbrev F.fs [SD] : FuncId := SD.bhk
abbrev F.ft [SD] : FuncId := SD.bhn
abbrev F.fo [SD] : FuncId := SD.baf
abbrev F.gc [SD] : FuncId := SD.bgt
abbrev F.gd [SD] : FuncId := SD.bfv
abbrev F.fu [SD] : FuncId := SD.bey
abbrev F.ge [SD] : FuncId := SD.ayd
def M.ds [SD] (c d : Value) : QQ := fun w K => gi P F.fy [c] w fun a w => gh (isB a true) (fun K' => K' d w) w fun e w => gh (isB a true) (gi P F.fy [e] w) w fun f w => gh (isB a true) (unT P .not f w) w fun g w => ic a g bF w fun b w => gh (isB b false) (fun K' => K' c w) w fun h w => gh (isB b false) (fun K' => K' d w) w fun i w => gh (isB b false) (ib P .lss T.ak (.tmp 13) (.tmp 14) h i w) w fun j w => ic b bY j w fun l w => K l w
def M.ek [SD] (a : Value) : QQ := fun w K => ib P .neq T.ak (.tmp 3) (.tmp 4) a a w fun b w => K b w
def M.cp.j4 [SD] (a : List Value) (b : Value) (d : KL) : QQ := fun w K => gj (fun e => jc w fun w => w = w ∧ w = w ∧ w = w ∧ w = w ∧ gg (bK .sub T.b 36 (gv a 0) i1 w) w fun c => w = w ∧ w = w ∧ gg (bK .sub T.b 39 (gv a 0) i1 w) w fun f => gg (iaT P T.al b f w) w fun g => gg (ldT P T.ak g w) w fun h => w = w ∧ w = w ∧ gg (iaT P T.al b (gv a 0) w) w fun i => gg (ldT P T.ak i w) w fun j => gg (iaT P T.al b (gv a 0) w) w fun l => stT P T.ak l h w fun _ w => gq (bK .sub T.b 36 (gv a 0) i1 w) w c ∧ gq (fun K' => K' (gv a 0) w) w (gv a 0) ∧ gq (fun K' => K' b w) w b ∧ gg (iaT P T.al b c w) w fun m => stT P T.ak m j w fun _ w => e [] w) fun o w => bK .sub T.b 31 (gv a 0) i1 w fun n w => d [n] w
def M.cp.j3 [SD] (b : List Value) (d c : Value) (e f : KL) : QQ := fun w K => gj (fun g => jc w fun w => w = w ∧ w = w ∧ gg (bT .gtr T.b 16 17 (gv b 0) d w) w fun a => w = w ∧ gg (fun K' => gh (isB a true) (fun K' => K' c w) w K') w fun h => gg (fun K' => gh (isB a true) (fun K' => K' (gv b 0) w) w K') w fun i => gg (gh (isB a true) (iaT P T.al h i w) w) w fun j => gg (gh (isB a true) (ldT P T.ak j w) w) w fun l => gg (fun K' => gh (isB a true) (fun K' => K' c w) w K') w fun m => gg (fun K' => gh (isB a true) (fun K' => K' (gv b 0) w) w K') w fun n => gg (gh (isB a true) (bK .sub T.b 25 n i1 w) w) w fun o => gg (gh (isB a true) (iaT P T.al m o w) w) w fun p => gg (gh (isB a true) (ldT P T.ak p w) w) w fun q => gh (isB a true) (gi P F.di [l, q] w) w fun r w => gg (ic a r bF w) w fun s => gk s (g [] w) (e [(gv b 0)] w)) fun t w => M.cp.j4 b c f w K
def M.cp.j0 [SD] (a : List Value) (b c d : Value) (e : KL) : QQ := fun w K => gj (fun f => bT .lss T.b 10 11 (gv a 1) b w fun g w => gk g (f [] w) (K (.tuple #[]) w)) fun n w => gj (fun h => jd [(gv a 1)] w fun i j w => M.cp.j3 j c d h i w K) fun l w => bK .add T.b 13 (gv a 1) i1 w fun m w => e [(gv l 0), m] w
def M.cp [SD] (b a c : Value) : QQ := fun w K => bK .add T.b 8 a i1 w fun d w => jd [undef, d] w fun e f w => M.cp.j0 f c a b e w K
def M.bu.j3 [SD] (a : Value) (d b : List Value) (c : Value) (f : KL) : QQ := fun w K => jc w fun w => w = w ∧ w = w ∧ w = w ∧ gg (bT .add T.b 54 55 a (gv d 1) w) w fun g => w = w ∧ w = w ∧ w = w ∧ gg (bT .add T.b 58 59 a (gv b 0) w) w fun e => w = w ∧ w = w ∧ w = w ∧ gg (bT .add T.b 62 63 a (gv b 0) w) w fun h => gg (iaT P T.al c h w) w fun i => gg (ldT P T.ak i w) w fun j => w = w ∧ w = w ∧ w = w ∧ gg (bT .add T.b 68 69 a (gv d 1) w) w fun l => gg (iaT P T.al c l w) w fun m => gg (ldT P T.ak m w) w fun n => gg (iaT P T.al c g w) w fun o => stT P T.ak o j w fun _ w => gq (bT .add T.b 58 59 a (gv b 0) w) w e ∧ gq (fun K' => K' (gv b 0) w) w (gv b 0) ∧ gq (fun K' => K' a w) w a ∧ gq (fun K' => K' c w) w c ∧ gg (iaT P T.al c e w) w fun p => stT P T.ak p n w fun _ w => f [(gv b 0), (gv b 0)] w
def M.bu.j2 [SD] (a : Value) (c : List Value) (b : Value) (d : List Value) (e : KL) : QQ := fun w K => gj (fun f => jc w fun w => w = w ∧ w = w ∧ w = w ∧ gg (bT .add T.b 40 41 a (gv c 1) w) w fun g => gg (iaT P T.al b g w) w fun h => gg (ldT P T.ak h w) w fun i => w = w ∧ w = w ∧ w = w ∧ gg (bT .add T.b 46 47 a (gv d 0) w) w fun j => gg (iaT P T.al b j w) w fun l => gg (ldT P T.ak l w) w fun m => gi P F.di [i, m] w fun n w => gg (unT P .not n w) w fun o => gk o (K (.tuple #[]) w) (f [] w)) fun p w => M.bu.j3 a c d b e w K
def M.bu.j1 [SD] (b f c d : Value) (g : List Value) (h : KL) : QQ := fun w K => gj (fun e => jc w fun w => w = w ∧ gg (bK .add T.b 17 b i1 w) w fun i => w = w ∧ gg (bT .lss T.b 18 19 i f w) w fun a => w = w ∧ gg (fun K' => gh (isB a true) (fun K' => K' c w) w K') w fun j => gg (fun K' => gh (isB a true) (fun K' => K' d w) w K') w fun l => gg (fun K' => gh (isB a true) (fun K' => K' b w) w K') w fun m => gg (gh (isB a true) (bT .add T.b 23 24 l m w) w) w fun n => gg (gh (isB a true) (iaT P T.al j n w) w) w fun o => gg (gh (isB a true) (ldT P T.ak o w) w) w fun p => gg (fun K' => gh (isB a true) (fun K' => K' c w) w K') w fun q => gg (fun K' => gh (isB a true) (fun K' => K' d w) w K') w fun r => gg (fun K' => gh (isB a true) (fun K' => K' b w) w K') w fun s => gg (gh (isB a true) (bT .add T.b 29 30 r s w) w) w fun t => gg (gh (isB a true) (bK .add T.b 31 t i1 w) w) w fun u => gg (gh (isB a true) (iaT P T.al q u w) w) w fun v => gg (gh (isB a true) (ldT P T.ak v w) w) w fun x => gh (isB a true) (gi P F.di [p, x] w) w fun y w => gg (ic a y bF w) w fun z => gk z (bK .add T.b 37 b i1 w fun A w => e [A] w) (e [b] w)) fun B w => M.bu.j2 d g c B h w K
def M.bu.j0 [SD] (a : List Value) (b d e : Value) (f : KL) : QQ := fun w K => ib P .mul T.b (.const i2) (.tmp 11) i2 (gv a 1) w fun g w => bK .add T.b 12 g i1 w fun c w => gj (fun h => bT .geq T.b 14 15 c b w fun i w => gk i (K (.tuple #[]) w) (h [] w)) fun j w => M.bu.j1 c b d e a f w K
def M.bu [SD] (a b c d : Value) : QQ := fun w K => jd [undef, b] w fun e f w => M.bu.j0 f c a d e w K
def M.cm.j1 [SD] (a : List Value) (b : KL) (c d e : Value) (f : KL) : QQ := fun w K => gj (fun g => bK .geq T.b 18 (gv a 0) i0 w fun h w => gk h (g [] w) (b [(gv a 0)] w)) fun l w => gj (fun i => gi P F.fr [c, (gv a 0), d, e] w fun m w => i [] w) fun n w => bK .sub T.b 20 (gv a 0) i1 w fun j w => f [j] w
def M.cm.j5 [SD] (a : Value) (b : List Value) (c : Value) (e : KL) : QQ := fun w K => gj (fun f => jc w fun w => w = w ∧ w = w ∧ w = w ∧ w = w ∧ w = w ∧ gg (bT .add T.b 36 37 a (gv b 0) w) w fun d => w = w ∧ w = w ∧ w = w ∧ gg (bT .add T.b 40 41 a (gv b 0) w) w fun g => gg (iaT P T.al c g w) w fun h => gg (ldT P T.ak h w) w fun i => w = w ∧ w = w ∧ gg (iaT P T.al c a w) w fun j => gg (ldT P T.ak j w) w fun l => gg (iaT P T.al c a w) w fun m => stT P T.ak m i w fun _ w => gq (bT .add T.b 36 37 a (gv b 0) w) w d ∧ gq (fun K' => K' (gv b 0) w) w (gv b 0) ∧ gq (fun K' => K' a w) w a ∧ gq (fun K' => K' c w) w c ∧ gg (iaT P T.al c d w) w fun n => stT P T.ak n l w fun _ w => gi P F.fr [c, i0, (gv b 0), a] w fun p w => f [] w) fun q w => bK .sub T.b 31 (gv b 0) i1 w fun o w => e [o] w
def M.cm.j0 [SD] (b c d : Value) : QQ := fun w K => bK .sub T.b 27 b i1 w fun e w => jd [e] w fun f a w => gj (fun g => bK .geq T.b 29 (gv a 0) i0 w fun h w => gk h (g [] w) (K (.tuple #[]) w)) fun i w => M.cm.j5 c a d f w K
def M.cm [SD] (c a d : Value) : QQ := fun w K => bT .sub T.b 12 13 d a w fun b w => gj (fun e => bK .sub T.b 15 b i1 w fun f w => ib P .quo T.b (.tmp 16) (.const i2) f i2 w fun g w => jd [g] w fun h i w => M.cm.j1 i e c b a h w K) fun j w => M.cm.j0 b a c w K
def M.aq.j1 [SD] (b : List Value) (d c e : Value) (f g : KL) : QQ := fun w K => gj (fun h => jc w fun w => w = w ∧ w = w ∧ gg (bT .leq T.b 30 31 (gv b 0) d w) w fun a => w = w ∧ gg (fun K' => gh (isB a true) (fun K' => K' c w) w K') w fun i => gg (fun K' => gh (isB a true) (fun K' => K' (gv b 0) w) w K') w fun j => gg (gh (isB a true) (iaT P T.al i j w) w) w fun l => gg (gh (isB a true) (ldT P T.ak l w) w) w fun m => gg (fun K' => gh (isB a true) (fun K' => K' c w) w K') w fun n => gg (fun K' => gh (isB a true) (fun K' => K' e w) w K') w fun o => gg (gh (isB a true) (iaT P T.al n o w) w) w fun p => gg (gh (isB a true) (ldT P T.ak p w) w) w fun q => gh (isB a true) (gi P F.di [m, q] w) w fun r w => gg (ic a r bF w) w fun s => gk s (h [] w) (f [(gv b 0)] w)) fun u w => bK .add T.b 44 (gv b 0) i1 w fun t w => g [t] w
def M.aq.j4 [SD] (d b : List Value) (c e : Value) (f g : KL) : QQ := fun w K => gj (fun h => jc w fun w => w = w ∧ w = w ∧ gg (bT .leq T.b 46 47 (gv d 0) (gv b 0) w) w fun a => w = w ∧ gg (fun K' => gh (isB a true) (fun K' => K' c w) w K') w fun i => gg (fun K' => gh (isB a true) (fun K' => K' (gv b 0) w) w K') w fun j => gg (gh (isB a true) (iaT P T.al i j w) w) w fun l => gg (gh (isB a true) (ldT P T.ak l w) w) w fun m => gg (fun K' => gh (isB a true) (fun K' => K' c w) w K') w fun n => gg (fun K' => gh (isB a true) (fun K' => K' e w) w K') w fun o => gg (gh (isB a true) (iaT P T.al n o w) w) w fun p => gg (gh (isB a true) (ldT P T.ak p w) w) w fun q => gh (isB a true) (gi P F.di [m, q] w) w fun r w => gg (gh (isB a true) (unT P .not r w) w) w fun s => gg (ic a s bF w) w fun t => gk t (h [] w) (f [(gv b 0)] w)) fun v w => bK .sub T.b 61 (gv b 0) i1 w fun u w => g [u] w
def M.aq.j10 [SD] (b d : List Value) (c e : Value) (f g : KL) : QQ := fun w K => gj (fun h => jc w fun w => w = w ∧ w = w ∧ gg (bT .leq T.b 99 100 (gv b 0) (gv d 1) w) w fun a => w = w ∧ gg (fun K' => gh (isB a true) (fun K' => K' c w) w K') w fun i => gg (fun K' => gh (isB a true) (fun K' => K' (gv b 0) w) w K') w fun j => gg (gh (isB a true) (iaT P T.al i j w) w) w fun l => gg (gh (isB a true) (ldT P T.ak l w) w) w fun m => gg (fun K' => gh (isB a true) (fun K' => K' c w) w K') w fun n => gg (fun K' => gh (isB a true) (fun K' => K' e w) w K') w fun o => gg (gh (isB a true) (iaT P T.al n o w) w) w fun p => gg (gh (isB a true) (ldT P T.ak p w) w) w fun q => gh (isB a true) (gi P F.di [m, q] w) w fun r w => gg (ic a r bF w) w fun s => gk s (h [] w) (f [(gv b 0)] w)) fun u w => bK .add T.b 113 (gv b 0) i1 w fun t w => g [t] w
def M.aq.j13 [SD] (d b : List Value) (c e : Value) (f g : KL) : QQ := fun w K => gj (fun h => jc w fun w => w = w ∧ w = w ∧ gg (bT .leq T.b 115 116 (gv d 0) (gv b 0) w) w fun a => w = w ∧ gg (fun K' => gh (isB a true) (fun K' => K' c w) w K') w fun i => gg (fun K' => gh (isB a true) (fun K' => K' (gv b 0) w) w K') w fun j => gg (gh (isB a true) (iaT P T.al i j w) w) w fun l => gg (gh (isB a true) (ldT P T.ak l w) w) w fun m => gg (fun K' => gh (isB a true) (fun K' => K' c w) w K') w fun n => gg (fun K' => gh (isB a true) (fun K' => K' e w) w K') w fun o => gg (gh (isB a true) (iaT P T.al n o w) w) w fun p => gg (gh (isB a true) (ldT P T.ak p w) w) w fun q => gh (isB a true) (gi P F.di [m, q] w) w fun r w => gg (gh (isB a true) (unT P .not r w) w) w fun s => gg (ic a s bF w) w fun t => gk t (h [] w) (f [(gv b 0)] w)) fun v w => bK .sub T.b 130 (gv b 0) i1 w fun u w => g [u] w
def M.aq.j15 [SD] (a : Value) (b c : List Value) (d : KL) : QQ := fun w K => jc w fun w => w = w ∧ w = w ∧ w = w ∧ w = w ∧ w = w ∧ w = w ∧ gg (iaT P T.al a (gv b 0) w) w fun e => gg (ldT P T.ak e w) w fun f => w = w ∧ w = w ∧ gg (iaT P T.al a (gv c 0) w) w fun g => gg (ldT P T.ak g w) w fun h => gg (iaT P T.al a (gv c 0) w) w fun i => stT P T.ak i f w fun _ w => gq (fun K' => K' (gv b 0) w) w (gv b 0) ∧ gq (fun K' => K' a w) w a ∧ gg (iaT P T.al a (gv b 0) w) w fun j => stT P T.ak j h w fun _ w => bK .add T.b 149 (gv c 0) i1 w fun l w => bK .sub T.b 151 (gv b 0) i1 w fun m w => d [l, m] w
def M.aq.j9 [SD] (d a : List Value) (c e : Value) (f g : KL) : QQ := fun w K => gj (fun h => jd [(gv d 1)] w fun i j w => M.aq.j13 a j c e h i w K) fun b w => gj (fun l => bT .gtr T.b 132 133 (gv a 0) (gv b 0) w fun m w => gk m (f [(gv a 0), (gv b 0)] w) (l [] w)) fun n w => M.aq.j15 c b a g w K
def M.aq.j7 [SD] (a b : Value) (c : List Value) : QQ := fun w K => jc w fun w => w = w ∧ w = w ∧ w = w ∧ w = w ∧ w = w ∧ w = w ∧ gg (iaT P T.al a b w) w fun d => gg (ldT P T.ak d w) w fun e => w = w ∧ w = w ∧ gg (iaT P T.al a (gv c 1) w) w fun f => gg (ldT P T.ak f w) w fun g => gg (iaT P T.al a (gv c 1) w) w fun h => stT P T.ak h e w fun _ w => gq (fun K' => K' b w) w b ∧ gq (fun K' => K' a w) w a ∧ gg (iaT P T.al a b w) w fun i => stT P T.ak i g w fun _ w => K (.tuple #[(gv c 1), bF]) w
def M.aq.j6 [SD] (a : Value) (b c : List Value) (d : Value) : QQ := fun w K => jc w fun w => w = w ∧ w = w ∧ w = w ∧ w = w ∧ w = w ∧ w = w ∧ gg (iaT P T.al a (gv b 0) w) w fun f => gg (ldT P T.ak f w) w fun g => w = w ∧ w = w ∧ gg (iaT P T.al a (gv c 0) w) w fun h => gg (ldT P T.ak h w) w fun i => gg (iaT P T.al a (gv c 0) w) w fun j => stT P T.ak j g w fun _ w => gq (fun K' => K' (gv b 0) w) w (gv b 0) ∧ gq (fun K' => K' a w) w a ∧ gg (iaT P T.al a (gv b 0) w) w fun l => stT P T.ak l i w fun _ w => bK .add T.b 95 (gv c 0) i1 w fun m w => bK .sub T.b 97 (gv b 0) i1 w fun n w => gj (fun o => jd [m, n] w fun p e w => gj (fun q => jd [(gv e 0)] w fun r s w => M.aq.j10 s e a d q r w K) fun t w => M.aq.j9 e t a d o p w K) fun u w => M.aq.j7 a d u w K
def M.aq.j3 [SD] (d b : List Value) (a c : Value) : QQ := fun w K => gj (fun e => bT .gtr T.b 63 64 (gv d 0) (gv b 0) w fun f w => gk f (jc w fun w => w = w ∧ w = w ∧ w = w ∧ w = w ∧ w = w ∧ w = w ∧ gg (iaT P T.al a c w) w fun g => gg (ldT P T.ak g w) w fun h => w = w ∧ w = w ∧ gg (iaT P T.al a (gv b 0) w) w fun i => gg (ldT P T.ak i w) w fun j => gg (iaT P T.al a (gv b 0) w) w fun l => stT P T.ak l h w fun _ w => gq (fun K' => K' c w) w c ∧ gq (fun K' => K' a w) w a ∧ gg (iaT P T.al a c w) w fun m => stT P T.ak m j w fun _ w => K (.tuple #[(gv b 0), bY]) w) (e [i0, bF] w)) fun n w => M.aq.j6 a b d c w K
def M.aq [SD] (a b f c : Value) : QQ := fun w K => jc w fun w => w = w ∧ w = w ∧ w = w ∧ w = w ∧ w = w ∧ w = w ∧ gg (iaT P T.al a c w) w fun g => gg (ldT P T.ak g w) w fun h => w = w ∧ w = w ∧ gg (iaT P T.al a b w) w fun i => gg (ldT P T.ak i w) w fun j => gg (iaT P T.al a b w) w fun l => stT P T.ak l h w fun _ w => gq (fun K' => K' c w) w c ∧ gq (fun K' => K' a w) w a ∧ gg (iaT P T.al a c w) w fun m => stT P T.ak m j w fun _ w => bK .add T.b 26 b i1 w fun n w => bK .sub T.b 28 f i1 w fun d w => gj (fun o => jd [n] w fun p q w => M.aq.j1 q d a b o p w K) fun e w => gj (fun r => jd [d] w fun s t w => M.aq.j4 e t a b r s w K) fun u w => M.aq.j3 e u a b w K
def M.cq.j3 [SD] (b d : List Value) (c e : Value) (f g : KL) : QQ := fun w K => gj (fun h => jc w fun w => w = w ∧ w = w ∧ gg (bT .leq T.b 29 30 (gv b 0) (gv d 1) w) w fun a => w = w ∧ gg (fun K' => gh (isB a true) (fun K' => K' c w) w K') w fun i => gg (fun K' => gh (isB a true) (fun K' => K' e w) w K') w fun j => gg (gh (isB a true) (iaT P T.al i j w) w) w fun l => gg (gh (isB a true) (ldT P T.ak l w) w) w fun m => gg (fun K' => gh (isB a true) (fun K' => K' c w) w K') w fun n => gg (fun K' => gh (isB a true) (fun K' => K' (gv b 0) w) w K') w fun o => gg (gh (isB a true) (iaT P T.al n o w) w) w fun p => gg (gh (isB a true) (ldT P T.ak p w) w) w fun q => gh (isB a true) (gi P F.di [m, q] w) w fun r w => gg (gh (isB a true) (unT P .not r w) w) w fun s => gg (ic a s bF w) w fun t => gk t (h [] w) (f [(gv b 0)] w)) fun v w => bK .add T.b 44 (gv b 0) i1 w fun u w => g [u] w
def M.cq.j6 [SD] (d b : List Value) (c e : Value) (f g : KL) : QQ := fun w K => gj (fun h => jc w fun w => w = w ∧ w = w ∧ gg (bT .leq T.b 46 47 (gv d 0) (gv b 0) w) w fun a => w = w ∧ gg (fun K' => gh (isB a true) (fun K' => K' c w) w K') w fun i => gg (fun K' => gh (isB a true) (fun K' => K' e w) w K') w fun j => gg (gh (isB a true) (iaT P T.al i j w) w) w fun l => gg (gh (isB a true) (ldT P T.ak l w) w) w fun m => gg (fun K' => gh (isB a true) (fun K' => K' c w) w K') w fun n => gg (fun K' => gh (isB a true) (fun K' => K' (gv b 0) w) w K') w fun o => gg (gh (isB a true) (iaT P T.al n o w) w) w fun p => gg (gh (isB a true) (ldT P T.ak p w) w) w fun q => gh (isB a true) (gi P F.di [m, q] w) w fun r w => gg (ic a r bF w) w fun s => gk s (h [] w) (f [(gv b 0)] w)) fun u w => bK .sub T.b 60 (gv b 0) i1 w fun t w => g [t] w
def M.cq.j8 [SD] (a : Value) (b c : List Value) (d : KL) : QQ := fun w K => jc w fun w => w = w ∧ w = w ∧ w = w ∧ w = w ∧ w = w ∧ w = w ∧ gg (iaT P T.al a (gv b 0) w) w fun e => gg (ldT P T.ak e w) w fun f => w = w ∧ w = w ∧ gg (iaT P T.al a (gv c 0) w) w fun g => gg (ldT P T.ak g w) w fun h => gg (iaT P T.al a (gv c 0) w) w fun i => stT P T.ak i f w fun _ w => gq (fun K' => K' (gv b 0) w) w (gv b 0) ∧ gq (fun K' => K' a w) w a ∧ gg (iaT P T.al a (gv b 0) w) w fun j => stT P T.ak j h w fun _ w => bK .add T.b 79 (gv c 0) i1 w fun l w => bK .sub T.b 81 (gv b 0) i1 w fun m w => d [l, m] w
def M.cq.j2 [SD] (d a : List Value) (c e : Value) (f g : KL) : QQ := fun w K => gj (fun h => jd [(gv d 1)] w fun i j w => M.cq.j6 a j c e h i w K) fun b w => gj (fun l => bT .gtr T.b 62 63 (gv a 0) (gv b 0) w fun m w => gk m (f [(gv a 0), (gv b 0)] w) (l [] w)) fun n w => M.cq.j8 c b a g w K
def M.cq [SD] (a b e c : Value) : QQ := fun w K => jc w fun w => w = w ∧ w = w ∧ w = w ∧ w = w ∧ w = w ∧ w = w ∧ gg (iaT P T.al a c w) w fun f => gg (ldT P T.ak f w) w fun g => w = w ∧ w = w ∧ gg (iaT P T.al a b w) w fun h => gg (ldT P T.ak h w) w fun i => gg (iaT P T.al a b w) w fun j => stT P T.ak j g w fun _ w => gq (fun K' => K' c w) w c ∧ gq (fun K' => K' a w) w a ∧ gg (iaT P T.al a c w) w fun l => stT P T.ak l i w fun _ w => bK .add T.b 25 b i1 w fun m w => bK .sub T.b 27 e i1 w fun n w => gj (fun o => jd [m, n] w fun p d w => gj (fun q => jd [(gv d 0)] w fun r s w => M.cq.j3 s d a b q r w K) fun t w => M.cq.j2 d t a b o p w K) fun u w => K (gv u 0) w
def M.aj.j5 [SD] (b : List Value) (d c : Value) (e f : KL) : QQ := fun w K => gj (fun g => jc w fun w => w = w ∧ w = w ∧ gg (bT .lss T.b 17 18 (gv b 0) d w) w fun a => w = w ∧ gg (fun K' => gh (isB a true) (fun K' => K' c w) w K') w fun h => gg (fun K' => gh (isB a true) (fun K' => K' (gv b 0) w) w K') w fun i => gg (gh (isB a true) (iaT P T.al h i w) w) w fun j => gg (gh (isB a true) (ldT P T.ak j w) w) w fun l => gg (fun K' => gh (isB a true) (fun K' => K' c w) w K') w fun m => gg (fun K' => gh (isB a true) (fun K' => K' (gv b 0) w) w K') w fun n => gg (gh (isB a true) (bK .sub T.b 26 n i1 w) w) w fun o => gg (gh (isB a true) (iaT P T.al m o w) w) w fun p => gg (gh (isB a true) (ldT P T.ak p w) w) w fun q => gh (isB a true) (gi P F.di [l, q] w) w fun r w => gg (gh (isB a true) (unT P .not r w) w) w fun s => gg (ic a s bF w) w fun t => gk t (g [] w) (e [(gv b 0)] w)) fun v w => bK .add T.b 33 (gv b 0) i1 w fun u w => f [u] w
def M.aj.j13 [SD] (a : List Value) (b : Value) (d : KL) : QQ := fun w K => jc w fun w => w = w ∧ w = w ∧ w = w ∧ w = w ∧ gg (bK .sub T.b 82 (gv a 0) i1 w) w fun c => w = w ∧ w = w ∧ gg (bK .sub T.b 85 (gv a 0) i1 w) w fun e => gg (iaT P T.al b e w) w fun f => gg (ldT P T.ak f w) w fun g => w = w ∧ w = w ∧ gg (iaT P T.al b (gv a 0) w) w fun h => gg (ldT P T.ak h w) w fun i => gg (iaT P T.al b (gv a 0) w) w fun j => stT P T.ak j g w fun _ w => gq (bK .sub T.b 82 (gv a 0) i1 w) w c ∧ gq (fun K' => K' (gv a 0) w) w (gv a 0) ∧ gq (fun K' => K' b w) w b ∧ gg (iaT P T.al b c w) w fun l => stT P T.ak l i w fun _ w => d [] w
def M.aj.j11 [SD] (b : Value) (a : List Value) (c d : KL) : QQ := fun w K => gj (fun e => gj (fun f => jc w fun w => w = w ∧ w = w ∧ gg (iaT P T.al b (gv a 0) w) w fun g => gg (ldT P T.ak g w) w fun h => w = w ∧ w = w ∧ gg (bK .sub T.b 73 (gv a 0) i1 w) w fun i => gg (iaT P T.al b i w) w fun j => gg (ldT P T.ak j w) w fun l => gi P F.di [h, l] w fun m w => gg (unT P .not m w) w fun n => gk n (c [(gv a 0)] w) (f [] w)) fun p w => M.aj.j13 a b e w K) fun q w => bK .sub T.b 66 (gv a 0) i1 w fun o w => d [o] w
def M.aj.j17 [SD] (a : List Value) (b : Value) (d : KL) : QQ := fun w K => jc w fun w => w = w ∧ w = w ∧ w = w ∧ w = w ∧ gg (bK .sub T.b 120 (gv a 0) i1 w) w fun c => w = w ∧ w = w ∧ gg (bK .sub T.b 123 (gv a 0) i1 w) w fun e => gg (iaT P T.al b e w) w fun f => gg (ldT P T.ak f w) w fun g => w = w ∧ w = w ∧ gg (iaT P T.al b (gv a 0) w) w fun h => gg (ldT P T.ak h w) w fun i => gg (iaT P T.al b (gv a 0) w) w fun j => stT P T.ak j g w fun _ w => gq (bK .sub T.b 120 (gv a 0) i1 w) w c ∧ gq (fun K' => K' (gv a 0) w) w (gv a 0) ∧ gq (fun K' => K' b w) w b ∧ gg (iaT P T.al b c w) w fun l => stT P T.ak l i w fun _ w => d [] w
def M.aj.j15 [SD] (b : Value) (a : List Value) (c : KL) (d e f : List Value) (g : KL) : QQ := fun w K => gj (fun h => gj (fun i => jc w fun w => w = w ∧ w = w ∧ gg (iaT P T.al b (gv a 0) w) w fun j => gg (ldT P T.ak j w) w fun l => w = w ∧ w = w ∧ gg (bK .sub T.b 111 (gv a 0) i1 w) w fun m => gg (iaT P T.al b m w) w fun n => gg (ldT P T.ak n w) w fun o => gi P F.di [l, o] w fun p w => gg (unT P .not p w) w fun q => gk q (c [(gv d 0), (gv e 0), (gv f 0), (gv a 0)] w) (i [] w)) fun s w => M.aj.j17 a b h w K) fun t w => bK .add T.b 104 (gv a 0) i1 w fun r w => g [r] w
def M.aj.j14 [SD] (a : List Value) (f : Value) (b : KL) (c d e : List Value) (g : Value) (h : KL) : QQ := fun w K => gj (fun i => bT .lss T.b 101 102 (gv a 0) f w fun j w => gk j (i [] w) (b [(gv c 0), (gv d 0), (gv e 0), (gv a 0)] w)) fun l w => M.aj.j15 g a b c d e h w K
def M.aj.j9 [SD] (b : Value) (a : List Value) (c : KL) (d e : List Value) (f : Value) (g : List Value) : QQ := fun w K => bT .sub T.b 95 96 b (gv a 0) w fun h w => bK .geq T.b 97 h i2 w fun i w => gk i (bK .add T.b 99 (gv a 0) i1 w fun j w => jd [j] w fun l m w => M.aj.j14 m b c a d e f l w K) (c [(gv a 0), (gv d 0), (gv e 0), (gv g 3)] w)
def M.aj.j8 [SD] (a : List Value) (b g : Value) (e : List Value) (h : Value) (i : KL) (j : List Value) : QQ := fun w K => jc w fun w => w = w ∧ w = w ∧ w = w ∧ w = w ∧ gg (bK .sub T.b 45 (gv a 0) i1 w) w fun f => w = w ∧ w = w ∧ gg (bK .sub T.b 48 (gv a 0) i1 w) w fun l => gg (iaT P T.al b l w) w fun m => gg (ldT P T.ak m w) w fun n => w = w ∧ w = w ∧ gg (iaT P T.al b (gv a 0) w) w fun o => gg (ldT P T.ak o w) w fun p => gg (iaT P T.al b (gv a 0) w) w fun q => stT P T.ak q n w fun _ w => gq (bK .sub T.b 45 (gv a 0) i1 w) w f ∧ gq (fun K' => K' (gv a 0) w) w (gv a 0) ∧ gq (fun K' => K' b w) w b ∧ gg (iaT P T.al b f w) w fun r => stT P T.ak r p w fun _ w => gj (fun c => bT .sub T.b 58 59 (gv a 0) g w fun s w => bK .geq T.b 60 s i2 w fun t w => gk t (bK .sub T.b 62 (gv a 0) i1 w fun u w => jd [u] w fun v d w => gj (fun x => bK .geq T.b 64 (gv d 0) i1 w fun y w => gk y (x [] w) (c [(gv d 0)] w)) fun A w => M.aj.j11 b d c v w K) (c [(gv e 2)] w)) fun z w => M.aj.j9 h a i j z b e w K
def M.aj.j7 [SD] (a b : Value) (c d : List Value) (e : Value) (f : List Value) (g : KL) : QQ := fun w K => gj (fun h => bT .sub T.b 38 39 a b w fun i w => bK .lss T.b 40 i (.int .i64 50) w fun j w => gk j (K bF w) (h [(gv c 0)] w)) fun l w => M.aj.j8 d e b f a g l w K
def M.aj.j2 [SD] (a : List Value) (c d f : Value) (g : KL) : QQ := fun w K => gj (fun h => gj (fun i => jd [(gv a 0)] w fun j l w => M.aj.j5 l c d i j w K) fun e w => gj (fun m => bT .eql T.b 35 36 (gv e 0) c w fun n w => gk n (K bY w) (m [(gv a 1)] w)) fun o w => M.aj.j7 c f o e d a h w K) fun b w => bK .add T.b 15 (gv a 4) i1 w fun p w => g [(gv b 0), (gv b 1), (gv b 2), (gv b 3), p] w
def M.aj.j1 [SD] (a : List Value) (b : KL) (c d e : Value) (f : KL) : QQ := fun w K => gj (fun g => bK .lss T.b 13 (gv a 4) (.int .i64 5) w fun h w => gk h (g [] w) (b [(gv a 4), (gv a 0), (gv a 1), (gv a 2), (gv a 3)] w)) fun i w => M.aj.j2 a c d e f w K
def M.aj [SD] (b a c : Value) : QQ := fun w K => bK .add T.b 11 a i1 w fun d w => gj (fun e => jd [d, bF, undef, undef, i0] w fun f g w => M.aj.j1 g e c b a f w K) fun h w => K bF w
def M.cy.j3 [SD] (c : Value) (a : List Value) (b : Value) (d : List Value) (f : KL) : QQ := fun w K => jc w fun w => w = w ∧ w = w ∧ w = w ∧ w = w ∧ w = w ∧ gg (bT .add T.b 50 51 c (gv a 0) w) w fun e => w = w ∧ w = w ∧ w = w ∧ gg (bT .add T.b 54 55 c (gv a 0) w) w fun g => gg (iaT P T.al b g w) w fun h => gg (ldT P T.ak h w) w fun i => w = w ∧ w = w ∧ gg (iaT P T.al b (gv d 1) w) w fun j => gg (ldT P T.ak j w) w fun l => gg (iaT P T.al b (gv d 1) w) w fun m => stT P T.ak m i w fun _ w => gq (bT .add T.b 50 51 c (gv a 0) w) w e ∧ gq (fun K' => K' (gv a 0) w) w (gv a 0) ∧ gq (fun K' => K' c w) w c ∧ gq (fun K' => K' b w) w b ∧ gg (iaT P T.al b e w) w fun n => stT P T.ak n l w fun _ w => f [(gv a 0)] w
def M.cy.j1 [SD] (e f b g h : Value) (c : List Value) (i : KL) : QQ := fun w K => gj (fun j => gi P F.cn [e] w fun l w => bK .sub T.ay 37 f (.int .u64 1) w fun m w => ib P .and T.ay (.tmp 36) (.tmp 38) l m w fun n w => cvT P T.ay T.b n w fun a w => gj (fun d => bT .geq T.b 41 42 a b w fun o w => gk o (bT .sub T.b 44 45 a b w fun p w => d [p] w) (d [a] w)) fun q w => M.cy.j3 g q h c j w K) fun r w => bK .add T.b 34 (gv c 1) i1 w fun s w => i [(gv r 0), s] w
def M.cy.j0 [SD] (a b : Value) (c : List Value) (d e f : Value) (g : KL) : QQ := fun w K => gj (fun h => ib P .quo T.b (.tmp 28) (.const (.int .i64 4)) a (.int .i64 4) w fun i w => ib P .mul T.b (.tmp 29) (.const i2) i i2 w fun j w => bT .add T.b 27 30 b j w fun l w => bK .add T.b 31 l i1 w fun m w => bT .leq T.b 26 32 (gv c 1) m w fun n w => gk n (h [] w) (K (.tuple #[]) w)) fun o w => M.cy.j1 d e a b f c g w K
def M.cy [SD] (d b e : Value) : QQ := fun w K => bT .sub T.b 11 12 e b w fun a w => bK .geq T.b 14 a (.int .i64 8) w fun f w => gk f (cvT P T.b T.x a w fun g w => alT P T.x w fun c w => stT P T.x c g w fun _ w => gi P F.cm [a] w fun h w => ib P .quo T.b (.tmp 21) (.const (.int .i64 4)) a (.int .i64 4) w fun i w => ib P .mul T.b (.tmp 22) (.const i2) i i2 w fun j w => bT .add T.b 20 23 b j w fun l w => bK .sub T.b 24 l i1 w fun m w => jd [undef, m] w fun n o w => M.cy.j0 a b o c h d n w K) (K (.tuple #[]) w)
def M.el [SD] (c a b d : Value) : QQ := fun w K => gj (fun e => jc w fun w => w = w ∧ w = w ∧ gg (iaT P T.al c b w) w fun f => gg (ldT P T.ak f w) w fun g => w = w ∧ w = w ∧ gg (iaT P T.al c a w) w fun h => gg (ldT P T.ak h w) w fun i => gi P F.di [g, i] w fun j w => gk j (ja d w fun l w => ldT P T.b l w fun m w => bK .add T.b 21 m i1 w fun n w => ja d w fun o w => stT P T.b o n w fun _ w => K (.tuple #[b, a]) w) (e [i0, i0] w)) fun p w => K (.tuple #[a, b]) w
def M.em [SD] (a f g h b : Value) : QQ := fun w K => gi P F.fs [a, f, g, b] w fun c w => exT P c 0 w fun i w => exT P c 1 w fun j w => gi P F.fs [a, j, h, b] w fun d w => exT P d 0 w fun l w => exT P d 1 w fun n w => gi P F.fs [a, i, l, b] w fun e w => exT P e 0 w fun o w => exT P e 1 w fun m w => K m w
def M.dt [SD] (b a c : Value) : QQ := fun w K => bK .sub T.b 8 a i1 w fun d w => bK .add T.b 11 a i1 w fun e w => gi P F.ft [b, d, a, e, c] w fun f w => K f w
def M.du.j0 [SD] (c : Value) (a : List Value) : QQ := fun w K => ldT P T.b c w fun b w => bK .eql T.b 49 b i0 w fun d w => gk d (K (.tuple #[(gv a 1), i1]) w) (bK .eql T.b 49 b (.int .i64 12) w fun e w => gk e (K (.tuple #[(gv a 1), i2]) w) (K (.tuple #[(gv a 1), i0]) w))
def M.du [SD] (d e l : Value) : QQ := fun w K => bT .sub T.b 13 14 l e w fun a w => alT P T.b w fun b w => ib P .quo T.b (.tmp 17) (.const (.int .i64 4)) a (.int .i64 4) w fun m w => ib P .mul T.b (.tmp 18) (.const i1) m i1 w fun n w => bT .add T.b 16 19 e n w fun f w => ib P .quo T.b (.tmp 22) (.const (.int .i64 4)) a (.int .i64 4) w fun o w => ib P .mul T.b (.tmp 23) (.const i2) o i2 w fun p w => bT .add T.b 21 24 e p w fun g w => ib P .quo T.b (.tmp 27) (.const (.int .i64 4)) a (.int .i64 4) w fun q w => ib P .mul T.b (.tmp 28) (.const (.int .i64 3)) q (.int .i64 3) w fun r w => bT .add T.b 26 29 e r w fun h w => gj (fun i => bK .geq T.b 31 a (.int .i64 8) w fun s w => gk s (gj (fun j => bK .geq T.b 33 a (.int .i64 50) w fun t w => gk t (gi P F.fo [d, f, b] w fun u w => gi P F.fo [d, g, b] w fun v w => gi P F.fo [d, h, b] w fun x w => j [u, v, x] w) (j [f, g, h] w)) fun c w => gi P F.ft [d, (gv c 0), (gv c 1), (gv c 2), b] w fun y w => i [(gv c 0), y, (gv c 2)] w) (i [f, g, h] w)) fun z w => M.du.j0 b z w K
def M.dy.j1 [SD] (b : Value) (a : List Value) (c : KL) : QQ := fun w K => jc w fun w => w = w ∧ w = w ∧ w = w ∧ w = w ∧ w = w ∧ w = w ∧ gg (iaT P T.al b (gv a 1) w) w fun d => gg (ldT P T.ak d w) w fun e => w = w ∧ w = w ∧ gg (iaT P T.al b (gv a 0) w) w fun f => gg (ldT P T.ak f w) w fun g => gg (iaT P T.al b (gv a 0) w) w fun h => stT P T.ak h e w fun _ w => gq (fun K' => K' (gv a 1) w) w (gv a 1) ∧ gq (fun K' => K' b w) w b ∧ gg (iaT P T.al b (gv a 1) w) w fun i => stT P T.ak i g w fun _ w => bK .add T.b 28 (gv a 0) i1 w fun j w => bK .sub T.b 30 (gv a 1) i1 w fun l w => c [j, l] w
def M.dy [SD] (b c d : Value) : QQ := fun w K => bK .sub T.b 9 d i1 w fun e w => jd [c, e] w fun f a w => gj (fun g => bT .lss T.b 11 12 (gv a 0) (gv a 1) w fun h w => gk h (g [] w) (K (.tuple #[]) w)) fun i w => M.dy.j1 b a f w K
def M.be.j6 [SD] (j : Value) (b d c : List Value) (l : Value) (e : List Value) (m : KL) : QQ := fun w K => gi P F.fw [j, (gv b 1), (gv d 13), (gv c 0)] w fun n w => exT P n 0 w fun a w => exT P n 1 w fun f w => bT .sub T.b 103 104 a (gv b 1) w fun g w => bT .sub T.b 106 107 (gv d 13) a w fun h w => ib P .quo T.b (.tmp 109) (.const (.int .i64 8)) l (.int .i64 8) w fun i w => bT .lss T.b 111 112 g h w fun o w => gk o (bT .geq T.b 114 115 g i w fun p w => gi P F.fu [j, (gv b 1), a, (gv e 0)] w fun t w => bK .add T.b 122 a i1 w fun q w => m [l, (gv e 0), (gv c 0), (gv c 1), (gv b 0), q, a, f, f, g, h, i, p, (gv d 13)] w) (bT .geq T.b 124 125 h i w fun r w => bK .add T.b 128 a i1 w fun s w => gi P F.fu [j, s, (gv d 13), (gv e 0)] w fun u w => m [l, (gv e 0), (gv c 0), (gv c 1), (gv b 0), (gv b 1), a, f, f, g, h, i, r, a] w)
def M.be.j5 [SD] (a : List Value) (d : Value) (c : List Value) (e : KL) (f : Value) (g : List Value) : QQ := fun w K => gj (fun i => jc w fun w => w = w ∧ gg (bK .gtr T.b 73 (gv a 5) i0 w) w fun b => w = w ∧ gg (fun K' => gh (isB b true) (fun K' => K' d w) w K') w fun j => gg (fun K' => gh (isB b true) (fun K' => K' (gv a 5) w) w K') w fun l => gg (gh (isB b true) (bK .sub T.b 77 l i1 w) w) w fun m => gg (gh (isB b true) (iaT P T.al j m w) w) w fun n => gg (gh (isB b true) (ldT P T.ak n w) w) w fun o => gg (fun K' => gh (isB b true) (fun K' => K' d w) w K') w fun p => gg (fun K' => gh (isB b true) (fun K' => K' (gv c 0) w) w K') w fun q => gg (gh (isB b true) (iaT P T.al p q w) w) w fun r => gg (gh (isB b true) (ldT P T.ak r w) w) w fun s => gh (isB b true) (gi P F.di [o, s] w) w fun t w => gg (gh (isB b true) (unT P .not t w) w) w fun u => gg (ic b u bF w) w fun v => gk v (gi P F.ga [d, (gv a 5), (gv a 13), (gv c 0)] w fun h w => e [f, (gv g 0), (gv c 0), (gv c 1), h, h, (gv a 6), (gv a 7), (gv a 8), (gv a 9), (gv a 10), (gv a 11), (gv a 12), (gv a 13)] w) (i [(gv a 4), (gv a 5)] w)) fun x w => M.be.j6 d x a c f g e w K
def M.be.j4 [SD] (a c : List Value) (d : Value) (f : KL) (g : Value) (h : List Value) : QQ := fun w K => gj (fun e => gh (isB (gv a 12) true) (fun K' => K' (gv a 8) w) w fun i w => ic (gv a 12) i bF w fun b w => gh (isB b true) (fun K' => K' (gv c 1) w) w fun j w => gh (isB b true) (ib P .eql T.bi (.tmp 66) (.const i1) j i1 w) w fun l w => ic b l bF w fun m w => gk m (gi P F.fx [d, (gv a 5), (gv a 13)] w fun n w => gk n (K (.tuple #[]) w) (e [] w)) (e [] w)) fun o w => M.be.j5 a d c f g h w K
def M.be.j3 [SD] (b : Value) (a : List Value) (g : KL) (h : Value) (i : List Value) : QQ := fun w K => gi P F.gc [b, (gv a 5), (gv a 13)] w fun c w => exT P c 0 w fun d w => exT P c 1 w fun e w => gj (fun f => ib P .eql T.bi (.tmp 49) (.const i2) e i2 w fun j w => gk j (gi P F.gd [b, (gv a 5), (gv a 13)] w fun p w => bK .sub T.b 55 (gv a 13) i1 w fun l w => bT .sub T.b 57 58 d (gv a 5) w fun m w => bT .sub T.b 56 59 l m w fun n w => f [n, i1] w) (f [d, e] w)) fun o w => M.be.j4 a o b g h i w K
def M.be.j2 [SD] (a : List Value) (b : Value) (d : KL) (e : Value) : QQ := fun w K => gj (fun c => unT P .not (gv a 12) w fun f w => gk f (gi P F.gb [b, (gv a 5), (gv a 13)] w fun i w => bK .sub T.b 40 (gv a 1) i1 w fun g w => c [g] w) (c [(gv a 1)] w)) fun h w => M.be.j3 b a d e h w K
def M.be.j1 [SD] (a : List Value) (b : Value) (c : KL) (d : Value) : QQ := fun w K => gj (fun e => bK .eql T.b 28 (gv a 1) i0 w fun f w => gk f (gi P F.fv [b, (gv a 5), (gv a 13)] w fun g w => K (.tuple #[]) w) (e [] w)) fun h w => M.be.j2 a b c d w K
def M.be.j0 [SD] (a : List Value) (b : Value) (d : KL) : QQ := fun w K => bT .sub T.b 19 20 (gv a 13) (gv a 5) w fun c w => gj (fun e => bK .leq T.b 22 c (.int .i64 12) w fun f w => gk f (gi P F.fz [b, (gv a 5), (gv a 13)] w fun g w => K (.tuple #[]) w) (e [] w)) fun h w => M.be.j1 a b d c w K
def M.be [SD] (a b c d : Value) : QQ := fun w K => jd [undef, d, undef, undef, undef, b, undef, undef, bY, undef, undef, undef, bY, c] w fun e f w => M.be.j0 f a e w K
def M.dv [SD] (a : Value) : QQ := fun w K => biT P .len #[T.al] T.b [false] [a] w fun b w => cvT P T.b T.ay b w fun c w => gi P F.ee [c] w fun d w => gi P F.fu [a, i0, b, d] w fun e w => K (.tuple #[]) w
def M.ds.L : List Nat := [0, 1, 4]
def M.ds.pl : Nat → po := fun id => ⟨.nil, [], false, []⟩
def M.ek.L : List Nat := [0, 2]
def M.ek.pl : Nat → po := fun id => ⟨.nil, [], false, []⟩
def M.cp.L : List Nat := [0, 1, 2, 6, 7]
def M.cp.pl : Nat → po := fun id => cond (Nat.beq id 4) ⟨(gS 0 13 (.eff 13 (.go 14 .nil) .ig)), [13], false, [0, 0, 3, 7, 15, 15, 63, 127, 15, 15, 527, 1807, 3855, 8191, 16383]⟩ (cond (Nat.beq id 6) ⟨(gS 0 15 (.eff 15 (.go 16 (.eff 17 .nil .ig)) .ig)), [15, 17], false, [0, 0, 0, 0, 8, 0, 0, 64, 224, 480, 0, 0, 3072, 7168, 16355, 32739, 65535, 131071]⟩ (⟨.nil, [], false, []⟩))
def M.bu.L : List Nat := [0, 1, 2, 3, 8, 9]
def M.bu.pl : Nat → po := fun id => cond (Nat.beq id 3) ⟨(gS 0 18 (.eff 18 (.go 19 .nil) .ig)), [18], false, [0, 1, 0, 7, 15, 31, 31, 31, 223, 511, 1023, 31, 31, 31, 12319, 28703, 63519, 129055, 262143, 524287]⟩ (cond (Nat.beq id 5) ⟨(gS 0 12 (.eff 12 (.go 13 .nil) .ig)), [12], false, [0, 0, 0, 6, 15, 31, 0, 0, 0, 384, 960, 1984, 4095, 8191]⟩ (cond (Nat.beq id 6) ⟨(gS 0 21 (.eff 21 (.go 22 (.eff 23 .nil .ig)) .ig)), [21, 23], false, [0, 0, 0, 6, 0, 0, 0, 96, 0, 0, 0, 1536, 3840, 7936, 0, 0, 0, 98304, 245760, 507904, 1048335, 2096911, 4194303, 8388607]⟩ (⟨.nil, [], false, []⟩)))
def M.cm.L : List Nat := [0, 1, 2, 6, 7, 8, 9, 10]
def M.cm.pl : Nat → po := fun id => cond (Nat.beq id 10) ⟨(gS 0 17 (.eff 17 (.go 18 (.eff 19 .nil .ig)) .ig)), [17, 19], false, [0, 0, 0, 0, 0, 24, 0, 0, 0, 384, 960, 1984, 0, 0, 12288, 28672, 65475, 131011, 262143, 524287]⟩ (⟨.nil, [], false, []⟩)
def M.aq.L : List Nat := [0, 1, 2, 3, 8, 9, 10, 11]
def M.aq.pl : Nat → po := fun id => cond (Nat.beq id 1) ⟨(gS 0 13 (.eff 13 (.go 14 (.eff 15 .nil .ig)) .ig)), [13, 15], false, [0, 0, 0, 0, 0, 0, 48, 112, 0, 0, 768, 1792, 4083, 8179, 16383, 32767]⟩ (cond (Nat.beq id 3) ⟨(gS 0 12 (.eff 12 (.go 13 .nil) .ig)), [12], false, [0, 0, 3, 7, 15, 15, 63, 127, 15, 15, 783, 1807, 4095, 8191]⟩ (cond (Nat.beq id 5) ⟨(gS 0 12 (.eff 12 (.go 13 (.go 14 .nil)) .ig)), [12], false, [0, 0, 3, 7, 15, 15, 63, 127, 15, 15, 783, 1807, 4095, 8191, 16383]⟩ (cond (Nat.beq id 8) ⟨(gS 0 13 (.eff 13 (.go 14 (.eff 15 .nil .ig)) .ig)), [13, 15], false, [0, 0, 0, 0, 0, 0, 48, 112, 0, 0, 768, 1792, 4083, 8179, 16383, 32767]⟩ (cond (Nat.beq id 10) ⟨(gS 0 13 (.eff 13 (.go 14 (.eff 15 .nil .ig)) .ig)), [13, 15], false, [0, 0, 0, 0, 0, 0, 48, 112, 0, 0, 768, 1792, 4083, 8179, 16383, 32767]⟩ (cond (Nat.beq id 13) ⟨(gS 0 12 (.eff 12 (.go 13 .nil) .ig)), [12], false, [0, 0, 3, 7, 15, 15, 63, 127, 15, 15, 783, 1807, 4095, 8191]⟩ (cond (Nat.beq id 15) ⟨(gS 0 12 (.eff 12 (.go 13 (.go 14 .nil)) .ig)), [12], false, [0, 0, 3, 7, 15, 15, 63, 127, 15, 15, 783, 1807, 4095, 8191, 16383]⟩ (cond (Nat.beq id 18) ⟨(gS 0 13 (.eff 13 (.go 14 (.eff 15 .nil .ig)) .ig)), [13, 15], false, [0, 0, 0, 0, 0, 0, 48, 112, 0, 0, 768, 1792, 4083, 8179, 16383, 32767]⟩ (cond (Nat.beq id 21) ⟨(gS 0 13 (.eff 13 (.go 14 (.eff 15 .nil .ig)) .ig)), [13, 15], false, [0, 0, 0, 0, 0, 0, 48, 112, 0, 0, 768, 1792, 4083, 8179, 16383, 32767]⟩ (⟨.nil, [], false, []⟩)))))))))
def M.cq.L : List Nat := [0, 1, 2, 3, 8, 9, 10]
def M.cq.pl : Nat → po := fun id => cond (Nat.beq id 1) ⟨(gS 0 13 (.eff 13 (.go 14 (.eff 15 .nil .ig)) .ig)), [13, 15], false, [0, 0, 0, 0, 0, 0, 48, 112, 0, 0, 768, 1792, 4083, 8179, 16383, 32767]⟩ (cond (Nat.beq id 3) ⟨(gS 0 12 (.eff 12 (.go 13 (.go 14 .nil)) .ig)), [12], false, [0, 0, 3, 7, 15, 15, 63, 127, 15, 15, 783, 1807, 4095, 8191, 16383]⟩ (cond (Nat.beq id 5) ⟨(gS 0 12 (.eff 12 (.go 13 .nil) .ig)), [12], false, [0, 0, 3, 7, 15, 15, 63, 127, 15, 15, 783, 1807, 4095, 8191]⟩ (cond (Nat.beq id 8) ⟨(gS 0 13 (.eff 13 (.go 14 (.eff 15 .nil .ig)) .ig)), [13, 15], false, [0, 0, 0, 0, 0, 0, 48, 112, 0, 0, 768, 1792, 4083, 8179, 16383, 32767]⟩ (⟨.nil, [], false, []⟩))))
def M.aj.L : List Nat := [0, 1, 2, 6, 7, 8, 9, 10]
def M.aj.pl : Nat → po := fun id => cond (Nat.beq id 5) ⟨(gS 0 13 (.eff 13 (.go 14 (.go 15 .nil)) .ig)), [13], false, [0, 0, 3, 7, 15, 15, 63, 127, 15, 15, 527, 1807, 3855, 8191, 16383, 32767]⟩ (cond (Nat.beq id 11) ⟨(gS 0 15 (.eff 15 (.go 16 (.eff 17 .nil .ig)) .ig)), [15, 17], false, [0, 0, 0, 0, 8, 0, 0, 64, 224, 480, 0, 0, 3072, 7168, 16355, 32739, 65535, 131071]⟩ (cond (Nat.beq id 16) ⟨(gS 0 9 (.eff 9 (.go 10 .nil) .ig)), [9], false, [0, 0, 3, 7, 0, 0, 32, 112, 240, 511, 1023]⟩ (cond (Nat.beq id 17) ⟨(gS 0 15 (.eff 15 (.go 16 (.eff 17 .nil .ig)) .ig)), [15, 17], false, [0, 0, 0, 0, 8, 0, 0, 64, 224, 480, 0, 0, 3072, 7168, 16355, 32739, 65535, 131071]⟩ (cond (Nat.beq id 22) ⟨(gS 0 9 (.eff 9 (.go 10 .nil) .ig)), [9], false, [0, 0, 3, 7, 0, 0, 32, 112, 240, 511, 1023]⟩ (cond (Nat.beq id 23) ⟨(gS 0 15 (.eff 15 (.go 16 (.eff 17 .nil .ig)) .ig)), [15, 17], false, [0, 0, 0, 0, 8, 0, 0, 64, 224, 480, 0, 0, 3072, 7168, 16355, 32739, 65535, 131071]⟩ (⟨.nil, [], false, []⟩))))))
def M.cy.L : List Nat := [0, 1, 2, 6, 8, 9, 10, 7]
def M.cy.pl : Nat → po := fun id => cond (Nat.beq id 10) ⟨(gS 0 17 (.eff 17 (.go 18 (.eff 19 .nil .ig)) .ig)), [17, 19], false, [0, 0, 0, 0, 0, 24, 0, 0, 0, 384, 960, 1984, 0, 0, 12288, 28672, 65475, 131011, 262143, 524287]⟩ (⟨.nil, [], false, []⟩)
def M.el.L : List Nat := [0, 1, 2, 3, 8, 9]
def M.el.pl : Nat → po := fun id => cond (Nat.beq id 1) ⟨(gS 0 8 (.eff 8 .nil .ig)), [8], false, [0, 0, 3, 7, 0, 0, 48, 112, 255]⟩ (⟨.nil, [], false, []⟩)
def M.em.L : List Nat := [0, 1, 2, 3, 4, 10]
def M.em.pl : Nat → po := fun id => ⟨.nil, [], false, []⟩
def M.dt.L : List Nat := [0, 1, 2, 6]
def M.dt.pl : Nat → po := fun id => ⟨.nil, [], false, []⟩
def M.du.L : List Nat := [0, 1, 2, 6, 7, 8, 10, 11, 12, 51, 54, 9]
def M.du.pl : Nat → po := fun id => ⟨.nil, [], false, []⟩
def M.dy.L : List Nat := [0, 1, 2, 6, 7]
def M.dy.pl : Nat → po := fun id => cond (Nat.beq id 3) ⟨(gS 0 13 (.eff 13 (.go 14 (.eff 15 .nil .ig)) .ig)), [13, 15], false, [0, 0, 0, 0, 0, 0, 48, 112, 0, 0, 768, 1792, 4083, 8179, 16383, 32767]⟩ (⟨.nil, [], false, []⟩)
def M.be.L : List Nat := [0, 1, 2, 3, 8, 9, 10, 11, 12, 13, 14, 15, 16, 17, 18]
def M.be.pl : Nat → po := fun id => cond (Nat.beq id 17) ⟨(gS 0 12 (.eff 12 (.go 13 (.go 14 .nil)) .ig)), [12], false, [0, 1, 3, 7, 7, 23, 63, 127, 7, 7, 775, 1799, 4095, 8191, 16383]⟩ (⟨.nil, [], false, []⟩)
def M.dv.L : List Nat := [0, 2]
def M.dv.pl : Nat → po := fun id => ⟨.nil, [], false, []⟩
class SE extends SD where
 bew : nk P sl = true
 sz : szE P sl = 1
 ld : ∀ (b i : Nat) (w : World) (K : KV), ldT P el (.pointer (some ⟨b, i, none⟩)) w K = ld1 P b i w K
 st : ∀ (b i : Nat) (x : Int) (w : World) (K : KV), stT P el (.pointer (some ⟨b, i, none⟩)) (.int k x) w K = st1 P b i (.int k x) w K
 atz : C2 bag M.ds
 arq : fC bag
 ayi : C1 bie M.ek
 axx : fC bie
 aze : C3 bez M.cp
 azq : fC bez
 asw : C4 ayx M.bu
 aqk : fC ayx
 arp : C3 aza M.cm
 aqw : fC aza
 aud : C4 ayn M.aq
 asl : fC ayn
 azw : C4 bgl M.cq
 ayz : fC bgl
 auh : C3 bao M.aj
 atf : fC bao
 azi : C3 bfw M.cy
 ayl : fC bfw
 azk : C4 bhk M.el
 axy : fC bhk
 azu : C5 bhn M.em
 bas : fC bhn
 avd : C3 baf M.dt
 auv : fC baf
 azz : C3 bgt M.du
 bau : fC bgt
 bav : C3 bfv M.dy
 azh : fC bfv
 bax : C4 bey M.be
 bai : fC bey
 asa : C1 ayd M.dv
 bdg : fC ayd
section
variable [SE]
@[simp] theorem SE.byz : nk P T.al = true := SE.bew
@[simp] theorem SE.sz' : szE P T.al = 1 := SE.sz
@[simp] theorem SE.ld' (b i : Nat) (w : World) (K : KV) : ldT P T.ak (.pointer (some ⟨b, i, none⟩)) w K = ld1 P b i w K := SE.ld b i w K
@[simp] theorem SE.st' (b i : Nat) (x : Int) (w : World) (K : KV) : stT P T.ak (.pointer (some ⟨b, i, none⟩)) (.int SD.k x) w K = st1 P b i (.int SD.k x) w K := SE.st b i x w K
theorem M.ds.calls : C2 F.di M.ds := SE.atz
theorem M.ds.fcall : fC F.di := SE.arq
theorem M.ek.calls : C1 F.fy M.ek := SE.ayi
theorem M.ek.fcall : fC F.fy := SE.axx
theorem M.cp.calls : C3 F.fz M.cp := SE.aze
theorem M.cp.fcall : fC F.fz := SE.azq
theorem M.bu.calls : C4 F.fr M.bu := SE.asw
theorem M.bu.fcall : fC F.fr := SE.aqk
theorem M.cm.calls : C3 F.fv M.cm := SE.arp
theorem M.cm.fcall : fC F.fv := SE.aqw
theorem M.aq.calls : C4 F.fw M.aq := SE.aud
theorem M.aq.fcall : fC F.fw := SE.asl
theorem M.cq.calls : C4 F.ga M.cq := SE.azw
theorem M.cq.fcall : fC F.ga := SE.ayz
theorem M.aj.calls : C3 F.fx M.aj := SE.auh
theorem M.aj.fcall : fC F.fx := SE.atf
theorem M.cy.calls : C3 F.gb M.cy := SE.azi
theorem M.cy.fcall : fC F.gb := SE.ayl
theorem M.el.calls : C4 F.fs M.el := SE.azk
theorem M.el.fcall : fC F.fs := SE.axy
theorem M.em.calls : C5 F.ft M.em := SE.azu
theorem M.em.fcall : fC F.ft := SE.bas
theorem M.dt.calls : C3 F.fo M.dt := SE.avd
theorem M.dt.fcall : fC F.fo := SE.auv
theorem M.du.calls : C3 F.gc M.du := SE.azz
theorem M.du.fcall : fC F.gc := SE.bau
theorem M.dy.calls : C3 F.gd M.dy := SE.bav
theorem M.dy.fcall : fC F.gd := SE.azh
theorem M.be.calls : C4 F.fu M.be := SE.bax
theorem M.be.fcall : fC F.fu := SE.bai
theorem M.dv.calls : C1 F.ge M.dv := SE.asa
end
abbrev sdI : SD := ⟨.i64, T.b, T.ad, F.cj, F.cd, F.s, F.aj, F.ai, F.ad, F.q, F.f, F.t, F.ap, F.ao, F.r, F.y, F.v, F.ak, F.ab⟩
theorem M.ds.callsI : C2 F.cj (@M.ds sdI) := mk2 M.ds.L M.ds.pl FN.cj.at
theorem M.ek.callsI : C1 F.cd (@M.ek sdI) := mk1 M.ek.L M.ek.pl FN.cd.at
theorem M.cp.callsI : C3 F.s (@M.cp sdI) := mk3 M.cp.L M.cp.pl FN.s.at
theorem M.bu.callsI : C4 F.aj (@M.bu sdI) := mk4 M.bu.L M.bu.pl FN.aj.at
theorem M.cm.callsI : C3 F.ai (@M.cm sdI) := mk3 M.cm.L M.cm.pl FN.ai.at
theorem M.aq.callsI : C4 F.ad (@M.aq sdI) := mk4 M.aq.L M.aq.pl FN.ad.at
theorem M.cq.callsI : C4 F.q (@M.cq sdI) := mk4 M.cq.L M.cq.pl FN.q.at
theorem M.aj.callsI : C3 F.f (@M.aj sdI) := mk3 M.aj.L M.aj.pl FN.f.at
theorem M.cy.callsI : C3 F.t (@M.cy sdI) := mk3 M.cy.L M.cy.pl FN.t.at
theorem M.el.callsI : C4 F.ap (@M.el sdI) := mk4 M.el.L M.el.pl FN.ap.at
theorem M.em.callsI : C5 F.ao (@M.em sdI) := mk5 M.em.L M.em.pl FN.ao.at
theorem M.dt.callsI : C3 F.r (@M.dt sdI) := mk3 M.dt.L M.dt.pl FN.r.at
theorem M.du.callsI : C3 F.y (@M.du sdI) := mk3 M.du.L M.du.pl FN.y.at
theorem M.dy.callsI : C3 F.v (@M.dy sdI) := mk3 M.dy.L M.dy.pl FN.v.at
theorem M.be.callsI : C4 F.ak (@M.be sdI) := mk4 M.be.L M.be.pl FN.ak.at
theorem M.dv.callsI : C1 F.ab (@M.dv sdI) := mk1 M.dv.L M.dv.pl FN.ab.at
abbrev seI : SE where
 toSD := sdI
 bew := by kernel_rfl
 sz := by kernel_rfl
 ld := fun b i w K => kr
 st := fun b i x w K => kr
 atz := M.ds.callsI
 arq := fcN FN.cj.at
 ayi := M.ek.callsI
 axx := fcN FN.cd.at
 aze := M.cp.callsI
 azq := fcN FN.s.at
 asw := M.bu.callsI
 aqk := fcN FN.aj.at
 arp := M.cm.callsI
 aqw := fcN FN.ai.at
 aud := M.aq.callsI
 asl := fcN FN.ad.at
 azw := M.cq.callsI
 ayz := fcN FN.q.at
 auh := M.aj.callsI
 atf := fcN FN.f.at
 azi := M.cy.callsI
 ayl := fcN FN.t.at
 azk := M.el.callsI
 axy := fcN FN.ap.at
 azu := M.em.callsI
 bas := fcN FN.ao.at
 avd := M.dt.callsI
 auv := fcN FN.r.at
 azz := M.du.callsI
 bau := fcN FN.y.at
 bav := M.dy.callsI
 azh := fcN FN.v.at
 bax := M.be.callsI
 bai := fcN FN.ak.at
 asa := M.dv.callsI
 bdg := fcN FN.ab.at
abbrev sdU : SD := ⟨.u64, T.g, T.i, F.bq, F.al, F.l, F.x, F.w, F.u, F.i, F.e, F.m, F.ae, F.ac, F.j, F.p, F.o, F.aa, F.d⟩
theorem M.ds.callsU : C2 F.bq (@M.ds sdU) := mk2 M.ds.L M.ds.pl FN.bq.at
theorem M.ek.callsU : C1 F.al (@M.ek sdU) := mk1 M.ek.L M.ek.pl FN.al.at
theorem M.cp.callsU : C3 F.l (@M.cp sdU) := mk3 M.cp.L M.cp.pl FN.l.at
theorem M.bu.callsU : C4 F.x (@M.bu sdU) := mk4 M.bu.L M.bu.pl FN.x.at
theorem M.cm.callsU : C3 F.w (@M.cm sdU) := mk3 M.cm.L M.cm.pl FN.w.at
theorem M.aq.callsU : C4 F.u (@M.aq sdU) := mk4 M.aq.L M.aq.pl FN.u.at
theorem M.cq.callsU : C4 F.i (@M.cq sdU) := mk4 M.cq.L M.cq.pl FN.i.at
theorem M.aj.callsU : C3 F.e (@M.aj sdU) := mk3 M.aj.L M.aj.pl FN.e.at
theorem M.cy.callsU : C3 F.m (@M.cy sdU) := mk3 M.cy.L M.cy.pl FN.m.at
theorem M.el.callsU : C4 F.ae (@M.el sdU) := mk4 M.el.L M.el.pl FN.ae.at
theorem M.em.callsU : C5 F.ac (@M.em sdU) := mk5 M.em.L M.em.pl FN.ac.at
theorem M.dt.callsU : C3 F.j (@M.dt sdU) := mk3 M.dt.L M.dt.pl FN.j.at
theorem M.du.callsU : C3 F.p (@M.du sdU) := mk3 M.du.L M.du.pl FN.p.at
theorem M.dy.callsU : C3 F.o (@M.dy sdU) := mk3 M.dy.L M.dy.pl FN.o.at
theorem M.be.callsU : C4 F.aa (@M.be sdU) := mk4 M.be.L M.be.pl FN.aa.at
theorem M.dv.callsU : C1 F.d (@M.dv sdU) := mk1 M.dv.L M.dv.pl FN.d.at
abbrev seU : SE where
 toSD := sdU
 bew := by kernel_rfl
 sz := by kernel_rfl
 ld := fun b i w K => kr
 st := fun b i x w K => kr
 atz := M.ds.callsU
 arq := fcN FN.bq.at
 ayi := M.ek.callsU
 axx := fcN FN.al.at
 aze := M.cp.callsU
 azq := fcN FN.l.at
 asw := M.bu.callsU
 aqk := fcN FN.x.at
 arp := M.cm.callsU
 aqw := fcN FN.w.at
 aud := M.aq.callsU
 asl := fcN FN.u.at
 azw := M.cq.callsU
 ayz := fcN FN.i.at
 auh := M.aj.callsU
 atf := fcN FN.e.at
 azi := M.cy.callsU
 ayl := fcN FN.m.at
 azk := M.el.callsU
 axy := fcN FN.ae.at
 azu := M.em.callsU
 bas := fcN FN.ac.at
 avd := M.dt.callsU
 auv := fcN FN.j.at
 azz := M.du.callsU
 bau := fcN FN.p.at
 bav := M.dy.callsU
 azh := fcN FN.o.at
 bax := M.be.callsU
 bai := fcN FN.aa.at
 asa := M.dv.callsU
 bdg := fcN FN.d.at
end Go.Proofs.YtfnhoaemapheoaaGreat
set_option maxRecDepth 100000
namespace Go.Proofs.YtfnhoaemapheoaaGreat.SG
open Go.Eng Go.Sort
variable [SE]
def Rw (w : World) (g : Nat) (e : TypeId) (cap : Nat) (d : Array Int) : Prop := ∃ cur : Array Value, w.heap[g]? = some (.cells cur e (0, 0)) ∧ cur.size = cap ∧ d.size ≤ cap ∧ ∀ j, j < d.size → cur[j]? = some (.int SD.k d[j]!)
section
variable {w w' : World} {g cap : Nat} {e : TypeId} {d : Array Int} {S : Nat → Prop}
theorem Rw.at (h : Rw w g e cap d) {j : Nat} (hj : j < d.size) : gr w g j = some (.int SD.k d[j]!) := by
 obtain ⟨cur, h1, _, _, h4⟩ := h
 rw [gt h1]; exact h4 j hj
theorem Rw.frz (h : Rw w g e cap d) (j : Nat) : qx w g j = false := by
 obtain ⟨cur, h1, _⟩ := h
 exact nw h1 j
theorem Rw.lt (h : Rw w g e cap d) : g < w.heap.size := by
 obtain ⟨cur, h1, _⟩ := h
 exact ph h1
theorem Rw.heap (h : Rw w g e cap d) (he : w'.heap[g]? = w.heap[g]?) : Rw w' g e cap d := by
 obtain ⟨cur, h1, h2⟩ := h
 exact ⟨cur, he.trans h1, h2⟩
theorem Rw.fr (h : Rw w g e cap d) (hf : Fr S w w') (hn : ¬ S g) : Rw w' g e cap d := h.heap (hf.jy g h.lt hn)
omit [SE] in
theorem bmp (d : Array Int) {i : Nat} (hi : i < d.size) (x : Int) (j : Nat) : (d.setIfInBounds i x)[j]! = if i = j then x else d[j]! := by
 by_cases h : i = j
 ·subst h; simp [hi]
 ·simp [h, getElem!_def, Array.getElem?_setIfInBounds]
theorem Rw.set (h : Rw w g e cap d) {i : Nat} (hi : i < d.size) (x : Int) : Rw (w.setCell ⟨g, i, none⟩ (.int SD.k x)) g e cap (d.setIfInBounds i x) := by
 obtain ⟨cur, h1, h2, h3, h4⟩ := h
 refine ⟨cur.setIfInBounds i (.int SD.k x), nj h1, by simpa using h2, by simpa using h3, fun j hj => ?_⟩
 have hj' : j < d.size := by simpa using hj
 rw [bmp d hi, Array.getElem?_setIfInBounds]
 by_cases hij : i = j
 ·subst hij; simp [h2]; omega
 ·rw [if_neg hij, if_neg hij]; exact h4 j hj'
theorem Rw.swp (h : Rw w g e cap d) {i j : Nat} (hi : i < d.size) (hj : j < d.size) : Rw ((w.setCell ⟨g, i, none⟩ (.int SD.k d[j]!)).setCell ⟨g, j, none⟩ (.int SD.k d[i]!)) g e cap (Sort.swp d i j) := by
 have := (h.set hi d[j]!).set (i := j) (by simpa using hj) d[i]!
 exact this
theorem Rw.dr (h : Rw w g e cap d) (n : Nat) : Rw (Eng.dr w n) g e cap d := h.heap rfl
structure Rf (w w' : World) (g : Nat) (e : TypeId) (cap : Nat) (d : Array Int) : Prop where
 row : Rw w' g e cap d
 fr : Fr (fun b => b = g) w w'
theorem Rw.xe (h : Rw w g e cap d) : Rf w w g e cap d := ⟨h, Fr.refl _ _⟩
theorem Rf.dr (h : Rf w w' g e cap d) (n : Nat) : Rf w (Eng.dr w' n) g e cap d := ⟨h.row.dr n, h.fr.dr n⟩
theorem Rf.swp (h : Rf w w' g e cap d) {i j : Nat} (hi : i < d.size) (hj : j < d.size) : Rf w ((w'.setCell ⟨g, i, none⟩ (.int SD.k d[j]!)).setCell ⟨g, j, none⟩ (.int SD.k d[i]!)) g e cap (Sort.swp d i j) :=
 ⟨h.row.swp hi hj, (h.fr.setCell (.inl rfl) _ _).setCell (.inl rfl) _ _⟩
theorem Rf.trans {w'' : World} {d' : Array Int} (h : Rf w w' g e cap d) (h' : Rf w' w'' g e cap d') : Rf w w'' g e cap d' := ⟨h'.row, h.fr.trans h'.fr⟩
end
theorem sd {w : World} (x y : Int) {K : KV} (h : K (.bool (ltInt x y)) w) : gi P F.di [.int SD.k x, .int SD.k y] w K := by
 have nan : ∀ (z : Int) {K : KV}, K (.bool false) w → gi P F.fy [.int SD.k z] w K := fun z K hK => by
  rw [M.ek.fcall]
  apply M.ek.calls
  unfold M.ek
  simp
  exact hK
 rw [M.ds.fcall]
 apply M.ds.calls
 unfold M.ds
 refine nan x ?_
 simp
 exact h
omit [SE] in
theorem boa {x : Nat} (h : x < 1000000) : IntKind.i64.wrap (x : Int) = x := ia
omit [SE] in
theorem qr {x : Nat} (h : x < 1000000) : IntKind.i64.wrap ((x : Int) + 1) = ((x + 1 : Nat) : Int) := by rw [ia]; rfl
omit [SE] in
theorem yd {x y : Nat} (h : y ≤ x) (hx : x < 1000000) : IntKind.i64.wrap ((x : Int) - y) = ((x - y : Nat) : Int) := by rw [ia]; omega
def InI (w : World) (g : Nat) (e : TypeId) (cap n a : Nat) (R : Array Int) : KL := fun x w1 => ∃ (j : Nat) (d : Array Int), x = [.int .i64 (j : Int)] ∧ Rf w w1 g e cap d ∧ d.size = n ∧ j < n ∧ insInner ltInt a j d = R
def InO (w : World) (g : Nat) (e : TypeId) (cap n a b : Nat) (R : Array Int) : KL := fun x w1 => ∃ (u : Value) (i : Nat) (d : Array Int), x = [u, .int .i64 (i : Int)] ∧ Rf w w1 g e cap d ∧ d.size = n ∧ insOuter ltInt a b i d = R
theorem agz {w : World} {g cap n : Nat} {e : TypeId} {d : Array Int} (H : Rw w g e cap d) (hn : d.size = n) (h6 : n < 100000) {a b : Nat} (hb : b ≤ n) (ha : a ≤ n) {K : KV}
  (h : ∀ w', Rf w w' g e cap (insertionSort ltInt d a b) → K (.tuple #[]) w') : kg P F.fz [.slice (some ⟨g, 0, none⟩) n cap, .int .i64 a, .int .i64 b] w K := by
 apply M.cp.calls
 unfold M.cp
 simp only [kz, qr (show a < 1000000 by omega)]
 refine ⟨InO w g e cap n a b (insertionSort ltInt d a b), fun x _ => b - ms x 1, ⟨_, a + 1, d, rfl, H.xe, hn, rfl⟩, ?_⟩
 rintro x w1 ⟨u, i, d1, rfl, H1, hn1, hR⟩
 have g1 : ∀ u v : Value, gv [u, v] 1 = v := fun _ _ => rfl
 have g0 : ∀ u : Value, gv [u] 0 = u := fun _ => rfl
 unfold M.cp.j0
 simp only [gp, g1]
 unfold insOuter at hR
 by_cases hi : i < b
 ·simp [hi] at hR ⊢
  generalize hT : insInner ltInt a i d1 = T at *
  refine ⟨InI w g e cap n a T, fun x _ => ms x 0, ⟨i, d1, rfl, H1, hn1, by omega, hT⟩, ?_⟩
  rintro x w2 ⟨j, d2, rfl, H2, hn2, hj, hR2⟩
  have done : d2 = T → ∀ v w2, Rf w w2 g e cap d2 → InO w g e cap n a b (insertionSort ltInt d a b) [v, .int .i64 (IntKind.i64.wrap ((i : Int) + 1))] w2 ∧ b - ms [v, .int .i64 (IntKind.i64.wrap ((i : Int) + 1))] 1 < b - ms [u, .int .i64 (i : Int)] 1 := by
   intro hd v w2 H2
   rw [qr (by omega)]
   refine ⟨⟨v, i + 1, d2, rfl, H2, hn2, by rw [hd]; exact hR⟩, ?_⟩
   simp [ms, gv]; omega
  unfold M.cp.j3
  simp only [gp, g0]
  cases j with
  | zero =>
   simp [insInner] at hR2
   have := done hR2 (.int .i64 0) _ (H2.dr 1)
   have hz : ¬ (a : Int) < 0 := by omega
   simp [hz]
   simpa using this
  | succ j =>
   unfold insInner at hR2
   have hw := boa (show j < 1000000 by omega)
   by_cases hja : a < j + 1
   ·have hja' : (a : Int) < (j : Int) + 1 := by omega
    have c1 := H2.row.at (show j + 1 < d2.size by omega)
    have c0 := H2.row.at (show j < d2.size by omega)
    have hjn : (j : Int) < n := by omega
    have hjn' : (j : Int) + 1 < n := by omega
    have z1 : (0 : Int) ≤ (j : Int) + 1 := by omega
    simp [hja, hja', hw, c0, c1, hjn, hjn', z1] at hR2 ⊢
    refine sd _ _ ?_
    cases hl : ltInt d2[j + 1]! d2[j]! with
    | true =>
     simp [hl] at hR2 ⊢
     unfold M.cp.j4
     have f1 := H2.row.frz (j + 1)
     have f0 := H2.row.frz j
     simp [hw, c0, c1, hjn, hjn', z1, f0, f1, ka, kj]
     refine ⟨⟨j, _, rfl, ((H2.dr 1).dr 1).swp (by omega) (by omega), by rw [size_swp]; exact hn2, by omega, hR2⟩, ?_⟩
     simp [ms, gv]
    | false =>
     simp [hl] at hR2 ⊢
     have := done hR2 (.int .i64 ((j : Int) + 1)) _ (H2.dr 1)
     simpa using this
   ·have hja' : ¬ (a : Int) < (j : Int) + 1 := by omega
    simp [hja, hja'] at hR2 ⊢
    have := done hR2 (.int .i64 ((j : Int) + 1)) _ (H2.dr 1)
    simpa using this
 ·simp [hi] at hR ⊢
  subst hR
  exact h w1 H1
end Go.Proofs.YtfnhoaemapheoaaGreat.SG
set_option maxRecDepth 100000
namespace Go.Proofs.YtfnhoaemapheoaaGreat.SG
open Go.Eng Go.Sort
variable [SE]
omit [SE] in
theorem yf (hi first : Nat) : ∀ (n root : Nat) (d : Array Int), hi - root ≤ n → (siftDown ltInt hi first root d).size = d.size
 | 0, root, d, h => by
  unfold siftDown
  rw [dif_pos (by omega)]
 | n + 1, root, d, h => by
  unfold siftDown
  split
  ·rfl
  split
  ·split
   ·rfl
   split
   ·rw [yf hi first n _ _ (by omega), size_swp]
   ·rfl
  ·split
   ·rfl
   ·rw [yf hi first n _ _ (by omega), size_swp]
def SfI (w : World) (g : Nat) (e : TypeId) (cap n hi first : Nat) (R : Array Int) : KL := fun x w1 => ∃ (u : Value) (root : Nat) (d : Array Int), x = [u, .int .i64 (root : Int)] ∧ Rf w w1 g e cap d ∧ d.size = n ∧ root ≤ hi ∧ siftDown ltInt hi first root d = R
theorem axq {w : World} {g cap n : Nat} {e : TypeId} {d : Array Int} (H : Rw w g e cap d) (hn : d.size = n) (h6 : n < 100000) {lo hi first : Nat} (hb : first + hi ≤ n) (hlo : lo ≤ hi) {K : KV}
  (h : ∀ w', Rf w w' g e cap (siftDown ltInt hi first lo d) → K (.tuple #[]) w') : kg P F.fr [.slice (some ⟨g, 0, none⟩) n cap, .int .i64 lo, .int .i64 hi, .int .i64 first] w K := by
 apply M.bu.calls
 unfold M.bu
 generalize hR0 : siftDown ltInt hi first lo d = R0 at *
 refine ⟨SfI w g e cap n hi first R0, fun x _ => hi - ms x 1, ⟨_, lo, d, rfl, H.xe, hn, hlo, hR0⟩, ?_⟩
 clear hR0
 rintro x w1 ⟨u, root, d1, rfl, H1, hn1, hro, hR⟩
 have g1 : ∀ u v : Value, gv [u, v] 1 = v := fun _ _ => rfl
 have g0 : ∀ u : Value, gv [u] 0 = u := fun _ => rfl
 have w2 : IntKind.i64.wrap (2 * (root : Int)) = ((2 * root : Nat) : Int) := by rw [ia]; omega
 have w3 : IntKind.i64.wrap (((2 * root : Nat) : Int) + 1) = ((2 * root + 1 : Nat) : Int) := qr (by omega)
 have w4 : IntKind.i64.wrap (((2 * root + 1 : Nat) : Int) + 1) = ((2 * root + 2 : Nat) : Int) := qr (by omega)
 unfold M.bu.j0
 simp only [gp, g1, vh, kz, rh, w2, w3]
 unfold siftDown at hR
 by_cases h0 : 2 * root + 1 ≥ hi
 ·have h0' : (hi : Int) ≤ ((2 * root + 1 : Nat) : Int) := by omega
  rw [dif_pos h0] at hR
  subst hR
  simp only [h0', decide_true, Eng.cond_true]
  exact h w1 H1
 rw [dif_neg h0] at hR
 have h0' : ¬ (hi : Int) ≤ ((2 * root + 1 : Nat) : Int) := by omega
 simp only [h0', decide_false, Eng.cond_false]
 unfold M.bu.j1
 have wf : ∀ k : Nat, k < hi → IntKind.i64.wrap ((first : Int) + (k : Int)) = ((first + k : Nat) : Int) := fun k hk => by rw [ia]; omega
 -- behind the choice of the child
 have tail : ∀ (c : Nat) (w2 : World), Rf w w2 g e cap d1 → c < hi → root < c → (if !ltInt d1[first + root]! d1[first + c]! then d1 else siftDown ltInt hi first c (Sort.swp d1 (first + root) (first + c))) = R0 →
   M.bu.j2 (.int .i64 first) [u, .int .i64 root] (.slice (some ⟨g, 0, none⟩) n cap) [.int .i64 c] (fun x' w' => SfI w g e cap n hi first R0 x' w' ∧ hi - ms x' 1 < hi - ms [u, .int .i64 (root : Int)] 1) w2 K := by
  intro c w2 H2 hc hrc hR
  unfold M.bu.j2
  have a1 := H2.row.at (show first + root < d1.size by omega)
  have a2 := H2.row.at (show first + c < d1.size by omega)
  have b1 : ((first + root : Nat) : Int) < n := by omega
  have b2 : ((first + c : Nat) : Int) < n := by omega
  have wr := wf root (by omega)
  have wc := wf c hc
  simp only [gp, qi, wx, g1, g0, kz, wr, wc, true_and, and_true]
  simp [b1, b2, a1, a2, -Int.natCast_add]
  refine sd _ _ ?_
  cases hl : ltInt d1[first + root]! d1[first + c]! with
  | false =>
   simp [hl] at hR ⊢
   subst hR
   exact h _ (H2.dr 1)
  | true =>
   simp [hl] at hR ⊢
   unfold M.bu.j3
   have f1 := H2.row.frz (first + root)
   have f2 := H2.row.frz (first + c)
   simp only [gp, qi, wx, ack, g1, g0, kz, wr, wc, true_and, and_true]
   simp [b1, b2, a1, a2, f1, f2, ka, kj, -Int.natCast_add]
   refine ⟨⟨_, c, _, rfl, ((H2.dr 1).dr 1).swp (by omega) (by omega), by rw [size_swp]; exact hn1, by omega, hR⟩, ?_⟩
   simp [ms, gv]; omega
 have v1 : IntKind.i64.wrap ((first : Int) + ((2 * root + 1 : Nat) : Int)) = ((first + (2 * root + 1) : Nat) : Int) := wf _ (by omega)
 simp only [gp, qi, wx, kz, lh, w4, true_and, and_true, zz]
 by_cases h1 : 2 * root + 1 + 1 < hi
 ·have h1' : ((2 * root + 2 : Nat) : Int) < hi := by omega
  have v2 : IntKind.i64.wrap (((first + (2 * root + 1) : Nat) : Int) + 1) = ((first + (2 * root + 2) : Nat) : Int) := by rw [ia]; omega
  have a1 := H1.row.at (show first + (2 * root + 1) < d1.size by omega)
  have a2 := H1.row.at (show first + (2 * root + 2) < d1.size by omega)
  have b1 : ((first + (2 * root + 1) : Nat) : Int) < n := by omega
  have b2 : ((first + (2 * root + 2) : Nat) : Int) < n := by omega
  have e2 : first + (2 * root + 1) + 1 = first + (2 * root + 2) := by omega
  simp only [h1', decide_true, beq_self_eq_true, aby, kz, v1, v2]
  simp [b1, b2, a1, a2, -Int.natCast_add]
  refine sd _ _ ?_
  rw [e2] at hR
  cases hl : ltInt d1[first + (2 * root + 1)]! d1[first + (2 * root + 2)]! with
  | true =>
   simp only [h1, hl, decide_true, Bool.and_self, if_true] at hR
   have hx : 2 * root + 2 < hi := by omega
   simp only [hx, dif_pos] at hR
   simp [-Int.natCast_add]
   exact tail (2 * root + 2) _ (H1.dr 1) (by omega) (by omega) hR
  | false =>
   simp only [hl, Bool.and_false, Bool.false_eq_true, if_false] at hR
   simp [-Int.natCast_add]
   exact tail (2 * root + 1) _ (H1.dr 1) (by omega) (by omega) hR
 ·have h1' : ¬ ((2 * root + 2 : Nat) : Int) < hi := by omega
  simp only [h1, decide_false, Bool.false_and, Bool.false_eq_true, if_false] at hR
  simp only [h1', decide_false]
  simp [-Int.natCast_add]
  exact tail (2 * root + 1) _ (H1.dr 1) (by omega) (by omega) hR
def HbI (w : World) (g : Nat) (e : TypeId) (cap n hi first : Nat) (R : Array Int) : KL := fun x w1 => ∃ (k : Nat) (d : Array Int), x = [.int .i64 ((k : Int) - 1)] ∧ Rf w w1 g e cap d ∧ d.size = n ∧ k ≤ hi + 1 ∧ (k ≤ hi ∨ hi = 0) ∧ heapBuild ltInt hi first k d = R
def HpI (w : World) (g : Nat) (e : TypeId) (cap n hi first : Nat) (R : Array Int) : KL := fun x w1 => ∃ (k : Nat) (d : Array Int), x = [.int .i64 ((k : Int) - 1)] ∧ Rf w w1 g e cap d ∧ d.size = n ∧ k ≤ hi ∧ heapPop ltInt first k d = R
def mp (x : List Value) (i : Nat) : Nat := match gv x i with
 | .int _ k => (k + 1).toNat
 | _ => 0
theorem avl {w : World} {g cap n : Nat} {e : TypeId} {d : Array Int} (H : Rw w g e cap d) (hn : d.size = n) (h6 : n < 100000) {a b : Nat} (hb : b ≤ n) (hab : a < b) {K : KV}
  (h : ∀ w', Rf w w' g e cap (heapSort ltInt d a b) → K (.tuple #[]) w') : kg P F.fv [.slice (some ⟨g, 0, none⟩) n cap, .int .i64 a, .int .i64 b] w K := by
 apply M.cm.calls
 unfold M.cm
 have hw0 : IntKind.i64.wrap ((b : Int) - a) = ((b - a : Nat) : Int) := yd (by omega) (by omega)
 generalize hhi : b - a = hi at *
 have hw1 : IntKind.i64.wrap ((hi : Int) - 1) = ((hi - 1 : Nat) : Int) := by rw [ia]; omega
 have hw2 : IntKind.i64.wrap (((hi - 1 : Nat) : Int).tdiv 2) = (((hi - 1) / 2 : Nat) : Int) := by
  rw [Int.tdiv_eq_ediv_of_nonneg (by omega), ia]; omega
 have hw3 : (((hi - 1) / 2 : Nat) : Int) = (((hi - 1) / 2 + 1 : Nat) : Int) - 1 := by omega
 simp only [lk, hw0, gp, hw1, aqt, hw2]
 have g0 : ∀ u : Value, gv [u] 0 = u := fun _ => rfl
 generalize hZ : heapBuild ltInt hi a ((hi - 1) / 2 + 1) d = Z
 refine ⟨HbI w g e cap n hi a Z, fun x _ => mp x 0, ⟨(hi - 1) / 2 + 1, d, by rw [hw3], H.xe, hn, by omega, by omega, hZ⟩, ?_⟩
 rintro x w1 ⟨k, d1, rfl, H1, hn1, hk, hk2, hR⟩
 unfold M.cm.j1
 simp only [gp, g0, rh]
 cases k with
 | succ k =>
  have hk0 : (0 : Int) ≤ ((k + 1 : Nat) : Int) - 1 := by omega
  have hk1 : ((k + 1 : Nat) : Int) - 1 = (k : Int) := by omega
  simp only [hk0, decide_true, Eng.cond_true, hk1]
  rw [M.bu.fcall]
  refine axq H1.row hn1 h6 (by omega) (by omega) fun w2 H2 => ?_
  have hw4 : IntKind.i64.wrap ((k : Int) - 1) = (k : Int) - 1 := ia
  simp only [lk, hw4]
  refine ⟨⟨k, _, rfl, H1.trans H2, by rw [yf _ _ _ _ _ (Nat.le_refl _)]; exact hn1, by omega, by omega, hR⟩, ?_⟩
  simp [mp, gv]
 | zero =>
  have hk0 : ¬ (0 : Int) ≤ ((0 : Nat) : Int) - 1 := by omega
  simp only [hk0, decide_false, Eng.cond_false]
  unfold heapBuild at hR
  unfold M.cm.j0
  have hw5 : ((hi - 1 : Nat) : Int) = (hi : Int) - 1 := by omega
  simp only [lk, hw1, hw5]
  have hR2 : heapPop ltInt a hi d1 = heapSort ltInt d a b := by
   unfold heapSort
   rw [hhi, hZ, ← hR]
  refine ⟨HpI w g e cap n hi a (heapSort ltInt d a b), fun x _ => mp x 0, ⟨hi, d1, rfl, H1, hn1, Nat.le_refl _, hR2⟩, ?_⟩
  rintro x w2 ⟨k, d2, rfl, H2, hn2, hk, hR3⟩
  simp only [gp, g0, rh]
  cases k with
  | zero =>
   have hk0 : ¬ (0 : Int) ≤ ((0 : Nat) : Int) - 1 := by omega
   simp only [hk0, decide_false, Eng.cond_false]
   unfold heapPop at hR3
   subst hR3
   exact h w2 H2
  | succ k =>
   have hk0 : (0 : Int) ≤ ((k + 1 : Nat) : Int) - 1 := by omega
   have hk1 : ((k + 1 : Nat) : Int) - 1 = (k : Int) := by omega
   simp only [hk0, decide_true, Eng.cond_true, hk1]
   unfold heapPop at hR3
   unfold M.cm.j5
   have wr : IntKind.i64.wrap ((a : Int) + (k : Int)) = ((a + k : Nat) : Int) := by rw [ia]; omega
   have a1 := H2.row.at (show a < d2.size by omega)
   have a2 := H2.row.at (show a + k < d2.size by omega)
   have b1 : (a : Int) < n := by omega
   have b2 : ((a + k : Nat) : Int) < n := by omega
   have f1 := H2.row.frz a
   have f2 := H2.row.frz (a + k)
   have hw4 : IntKind.i64.wrap ((k : Int) - 1) = (k : Int) - 1 := ia
   simp only [gp, qi, wx, ack, g0, kz, lk, wr, hw4, true_and, and_true]
   simp [b1, b2, a1, a2, f1, f2, ka, kj, -Int.natCast_add]
   have H3 := (H2.dr 1).swp (i := a) (j := a + k) (by omega) (by omega)
   rw [M.bu.fcall]
   refine axq (lo := 0) H3.row (by rw [size_swp]; exact hn2) h6 (by omega) (by omega) fun w4 H4 => ?_
   refine ⟨⟨k, _, rfl, H3.trans H4, by rw [yf _ _ _ _ _ (Nat.le_refl _), size_swp]; exact hn2, by omega, hR3⟩, ?_⟩
   simp [mp, gv]
end Go.Proofs.YtfnhoaemapheoaaGreat.SG
set_option maxRecDepth 100000
namespace Go.Proofs.YtfnhoaemapheoaaGreat.SG
open Go.Eng Go.Sort
variable [SE]
section
variable {w : World} {g cap n : Nat} {e : TypeId} {d : Array Int}
def UpI (w : World) (g : Nat) (e : TypeId) (cap : Nat) (d : Array Int) (p : Int → Bool) (j r : Nat) : KL := fun x w1 => ∃ i : Nat, x = [.int .i64 (i : Int)] ∧ Rf w w1 g e cap d ∧ i ≤ j + 2 ∧ scanUp p d j i = r
def DnI (w : World) (g : Nat) (e : TypeId) (cap : Nat) (d : Array Int) (p : Int → Bool) (i n r : Nat) : KL := fun x w1 => ∃ j : Nat, x = [.int .i64 (j : Int)] ∧ Rf w w1 g e cap d ∧ j < n ∧ scanDown p d i j = r
theorem amv {p : Int → Bool} {i j : Nat} (H : Rw w g e cap d) (hi : i ≤ j + 2) {K0 : KL} {body : KL → KL → KL}
  (hB : ∀ (k : Nat) w1 (Kn : KL), k ≤ j + 2 → Rf w w1 g e cap d → ((k ≤ j ∧ p d[k]! = true) → ∀ w2, Rf w w2 g e cap d → Kn [.int .i64 ((k + 1 : Nat) : Int)] w2) → (¬ (k ≤ j ∧ p d[k]! = true) → ∀ w2, Rf w w2 g e cap d → K0 [.int .i64 (k : Int)] w2) → body K0 Kn [.int .i64 (k : Int)] w1)
  (h : ∀ w', Rf w w' g e cap d → K0 [.int .i64 (scanUp p d j i : Nat)] w') : gj (fun K0 => jd [.int .i64 (i : Int)] w (body K0)) K0 := by
 rw [gp]
 generalize hr : scanUp p d j i = r at *
 refine ⟨UpI w g e cap d p j r, fun x _ => j + 2 - ms x 0, ⟨i, rfl, H.xe, hi, hr⟩, ?_⟩
 clear hr
 rintro x w1 ⟨k, rfl, H1, hk, hR⟩
 unfold scanUp at hR
 refine hB k w1 _ hk H1 (fun hc w2 H2 => ?_) fun hc w2 H2 => ?_
 ·rw [if_pos (by simpa using hc)] at hR
  refine ⟨⟨k + 1, rfl, H2, by omega, hR⟩, ?_⟩
  simp [ms, gv]; omega
 ·rw [if_neg (by simpa using hc)] at hR
  rw [← hR] at h
  exact h w2 H2
theorem ahj {p : Int → Bool} {i j : Nat} (H : Rw w g e cap d) (hj : j < n) (hi : 1 ≤ i) {K0 : KL} {body : KL → KL → KL}
  (hB : ∀ (k : Nat) w1 (Kn : KL), k < n → Rf w w1 g e cap d → ((i ≤ k ∧ p d[k]! = true) → ∀ w2, Rf w w2 g e cap d → Kn [.int .i64 ((k - 1 : Nat) : Int)] w2) → (¬ (i ≤ k ∧ p d[k]! = true) → ∀ w2, Rf w w2 g e cap d → K0 [.int .i64 (k : Int)] w2) → body K0 Kn [.int .i64 (k : Int)] w1)
  (h : ∀ w', Rf w w' g e cap d → K0 [.int .i64 (scanDown p d i j : Nat)] w') : gj (fun K0 => jd [.int .i64 (j : Int)] w (body K0)) K0 := by
 rw [gp]
 generalize hr : scanDown p d i j = r at *
 refine ⟨DnI w g e cap d p i n r, fun x _ => ms x 0, ⟨j, rfl, H.xe, hj, hr⟩, ?_⟩
 clear hr
 rintro x w1 ⟨k, rfl, H1, hk, hR⟩
 refine hB k w1 _ hk H1 (fun hc w2 H2 => ?_) fun hc w2 H2 => ?_
 ·cases k with
  | zero => omega
  | succ k =>
   unfold scanDown at hR
   rw [if_pos (by simpa using hc)] at hR
   refine ⟨⟨k, rfl, H2, by omega, hR⟩, ?_⟩
   simp [ms, gv]
 ·have : scanDown p d i k = k := by
   cases k with
   | zero => rfl
   | succ k => unfold scanDown; rw [if_neg (by simpa using hc)]
  rw [this] at hR
  rw [← hR] at h
  exact h w2 H2
omit [SE] in
theorem ahx (p : Int → Bool) (d : Array Int) (j i : Nat) : scanUp p d j i ≤ max i (j + 1) := by
 by_cases h : i ≤ j + 1
 ·have := (scanUp_spec p d j _ i rfl).2.1 h
  omega
 ·unfold scanUp
  rw [if_neg (by simp; omega)]
  omega
omit [SE] in
theorem g0 (u : Value) : gv [u] 0 = u := rfl
omit [SE] in
theorem g20 (u v : Value) : gv [u, v] 0 = u := rfl
omit [SE] in
theorem g21 (u v : Value) : gv [u, v] 1 = v := rfl
theorem bjj {w0 w1 : World} {a k j : Nat} {K0 Kn : KL} {K : KV} (H1 : Rf w0 w1 g e cap d) (hn : d.size = n) (h6 : n < 100000) (ha : a < n) (hj : j < n) (hk : k ≤ j + 2)
  (k1 : (k ≤ j ∧ ltInt d[k]! d[a]! = true) → ∀ w2, Rf w0 w2 g e cap d → Kn [.int .i64 ((k + 1 : Nat) : Int)] w2) (k2 : ¬ (k ≤ j ∧ ltInt d[k]! d[a]! = true) → ∀ w2, Rf w0 w2 g e cap d → K0 [.int .i64 (k : Int)] w2) :
  M.aq.j1 [.int .i64 (k : Int)] (.int .i64 (j : Int)) (.slice (some ⟨g, 0, none⟩) n cap) (.int .i64 (a : Int)) K0 Kn w1 K := by
 unfold M.aq.j1
 by_cases hkj : k ≤ j
 ·have a1 := H1.row.at (show k < d.size by omega)
  have a2 := H1.row.at (show a < d.size by omega)
  have b1 : (k : Int) < n := by omega
  have b2 : (a : Int) < n := by omega
  have b3 : (k : Int) ≤ j := by omega
  simp [g0, g21, b1, b2, b3, a1, a2]
  refine sd _ _ ?_
  cases hl : ltInt d[k]! d[a]! with
  | true =>
   simp [qr (show k < 1000000 by omega)]
   have := k1 ⟨hkj, hl⟩ _ (H1.dr 1)
   simpa using this
  | false =>
   simp [qr (show k < 1000000 by omega)]
   have := k2 (fun h => by simp [hl] at h) _ (H1.dr 1)
   simpa using this
 ·have b3 : ¬ (k : Int) ≤ j := by omega
  simp [g0, g21, b3]
  have := k2 (fun h => hkj h.1) _ (H1.dr 1)
  simpa using this
theorem bjy {w0 w1 : World} {a k i : Nat} {K0 Kn : KL} {K : KV} (H1 : Rf w0 w1 g e cap d) (hn : d.size = n) (h6 : n < 100000) (hai : a < n ∧ 1 ≤ i) (hk : k < n)
  (k1 : (i ≤ k ∧ (!ltInt d[k]! d[a]!) = true) → ∀ w2, Rf w0 w2 g e cap d → Kn [.int .i64 ((k - 1 : Nat) : Int)] w2) (k2 : ¬ (i ≤ k ∧ (!ltInt d[k]! d[a]!) = true) → ∀ w2, Rf w0 w2 g e cap d → K0 [.int .i64 (k : Int)] w2) :
  M.aq.j4 [.int .i64 (i : Int)] [.int .i64 (k : Int)] (.slice (some ⟨g, 0, none⟩) n cap) (.int .i64 (a : Int)) K0 Kn w1 K := by
 unfold M.aq.j4
 by_cases hik : i ≤ k
 ·have a1 := H1.row.at (show k < d.size by omega)
  have a2 := H1.row.at (show a < d.size by omega)
  have b1 : (k : Int) < n := by omega
  have b2 : (a : Int) < n := by omega
  have b3 : (i : Int) ≤ k := by omega
  have hw : IntKind.i64.wrap ((k : Int) - 1) = ((k - 1 : Nat) : Int) := by rw [ia]; omega
  simp [g0, b1, b2, b3, a1, a2]
  refine sd _ _ ?_
  cases hl : ltInt d[k]! d[a]! with
  | true =>
   simp [hw]
   have := k2 (fun h => by simp [hl] at h) _ (H1.dr 1)
   simpa using this
  | false =>
   simp [hw]
   have := k1 ⟨hik, by simp [hl]⟩ _ (H1.dr 1)
   simpa using this
 ·have b3 : ¬ (i : Int) ≤ k := by omega
  simp [g0, b3]
  have := k2 (fun h => hik h.1) _ (H1.dr 1)
  simpa using this
theorem bem {w0 w1 : World} {vi : Value} {a k j : Nat} {K0 Kn : KL} {K : KV} (H1 : Rf w0 w1 g e cap d) (hn : d.size = n) (h6 : n < 100000) (ha : a < n) (hj : j < n) (hk : k ≤ j + 2)
  (k1 : (k ≤ j ∧ ltInt d[k]! d[a]! = true) → ∀ w2, Rf w0 w2 g e cap d → Kn [.int .i64 ((k + 1 : Nat) : Int)] w2) (k2 : ¬ (k ≤ j ∧ ltInt d[k]! d[a]! = true) → ∀ w2, Rf w0 w2 g e cap d → K0 [.int .i64 (k : Int)] w2) :
  M.aq.j10 [.int .i64 (k : Int)] [vi, .int .i64 (j : Int)] (.slice (some ⟨g, 0, none⟩) n cap) (.int .i64 (a : Int)) K0 Kn w1 K := by
 unfold M.aq.j10
 by_cases hkj : k ≤ j
 ·have a1 := H1.row.at (show k < d.size by omega)
  have a2 := H1.row.at (show a < d.size by omega)
  have b1 : (k : Int) < n := by omega
  have b2 : (a : Int) < n := by omega
  have b3 : (k : Int) ≤ j := by omega
  simp [g0, g21, b1, b2, b3, a1, a2]
  refine sd _ _ ?_
  cases hl : ltInt d[k]! d[a]! with
  | true =>
   simp [qr (show k < 1000000 by omega)]
   have := k1 ⟨hkj, hl⟩ _ (H1.dr 1)
   simpa using this
  | false =>
   simp [qr (show k < 1000000 by omega)]
   have := k2 (fun h => by simp [hl] at h) _ (H1.dr 1)
   simpa using this
 ·have b3 : ¬ (k : Int) ≤ j := by omega
  simp [g0, g21, b3]
  have := k2 (fun h => hkj h.1) _ (H1.dr 1)
  simpa using this
theorem bha {w0 w1 : World} {a k i : Nat} {K0 Kn : KL} {K : KV} (H1 : Rf w0 w1 g e cap d) (hn : d.size = n) (h6 : n < 100000) (hai : a < n ∧ 1 ≤ i) (hk : k < n)
  (k1 : (i ≤ k ∧ (!ltInt d[k]! d[a]!) = true) → ∀ w2, Rf w0 w2 g e cap d → Kn [.int .i64 ((k - 1 : Nat) : Int)] w2) (k2 : ¬ (i ≤ k ∧ (!ltInt d[k]! d[a]!) = true) → ∀ w2, Rf w0 w2 g e cap d → K0 [.int .i64 (k : Int)] w2) :
  M.aq.j13 [.int .i64 (i : Int)] [.int .i64 (k : Int)] (.slice (some ⟨g, 0, none⟩) n cap) (.int .i64 (a : Int)) K0 Kn w1 K := by
 unfold M.aq.j13
 by_cases hik : i ≤ k
 ·have a1 := H1.row.at (show k < d.size by omega)
  have a2 := H1.row.at (show a < d.size by omega)
  have b1 : (k : Int) < n := by omega
  have b2 : (a : Int) < n := by omega
  have b3 : (i : Int) ≤ k := by omega
  have hw : IntKind.i64.wrap ((k : Int) - 1) = ((k - 1 : Nat) : Int) := by rw [ia]; omega
  simp [g0, b1, b2, b3, a1, a2]
  refine sd _ _ ?_
  cases hl : ltInt d[k]! d[a]! with
  | true =>
   simp [hw]
   have := k2 (fun h => by simp [hl] at h) _ (H1.dr 1)
   simpa using this
  | false =>
   simp [hw]
   have := k1 ⟨hik, by simp [hl]⟩ _ (H1.dr 1)
   simpa using this
 ·have b3 : ¬ (i : Int) ≤ k := by omega
  simp [g0, b3]
  have := k2 (fun h => hik h.1) _ (H1.dr 1)
  simpa using this
theorem bkp {w0 w1 : World} {vi : Value} {a k j : Nat} {K0 Kn : KL} {K : KV} (H1 : Rf w0 w1 g e cap d) (hn : d.size = n) (h6 : n < 100000) (ha : a < n) (hj : j < n) (hk : k ≤ j + 2)
  (k1 : (k ≤ j ∧ (!ltInt d[a]! d[k]!) = true) → ∀ w2, Rf w0 w2 g e cap d → Kn [.int .i64 ((k + 1 : Nat) : Int)] w2) (k2 : ¬ (k ≤ j ∧ (!ltInt d[a]! d[k]!) = true) → ∀ w2, Rf w0 w2 g e cap d → K0 [.int .i64 (k : Int)] w2) :
  M.cq.j3 [.int .i64 (k : Int)] [vi, .int .i64 (j : Int)] (.slice (some ⟨g, 0, none⟩) n cap) (.int .i64 (a : Int)) K0 Kn w1 K := by
 unfold M.cq.j3
 by_cases hkj : k ≤ j
 ·have a1 := H1.row.at (show k < d.size by omega)
  have a2 := H1.row.at (show a < d.size by omega)
  have b1 : (k : Int) < n := by omega
  have b2 : (a : Int) < n := by omega
  have b3 : (k : Int) ≤ j := by omega
  simp [g0, g21, b1, b2, b3, a1, a2]
  refine sd _ _ ?_
  cases hl : ltInt d[a]! d[k]! with
  | true =>
   simp [qr (show k < 1000000 by omega)]
   have := k2 (fun h => by simp [hl] at h) _ (H1.dr 1)
   simpa using this
  | false =>
   simp [qr (show k < 1000000 by omega)]
   have := k1 ⟨hkj, by simp [hl]⟩ _ (H1.dr 1)
   simpa using this
 ·have b3 : ¬ (k : Int) ≤ j := by omega
  simp [g0, g21, b3]
  have := k2 (fun h => hkj h.1) _ (H1.dr 1)
  simpa using this
theorem bjd {w0 w1 : World} {a k i : Nat} {K0 Kn : KL} {K : KV} (H1 : Rf w0 w1 g e cap d) (hn : d.size = n) (h6 : n < 100000) (hai : a < n ∧ 1 ≤ i) (hk : k < n)
  (k1 : (i ≤ k ∧ ltInt d[a]! d[k]! = true) → ∀ w2, Rf w0 w2 g e cap d → Kn [.int .i64 ((k - 1 : Nat) : Int)] w2) (k2 : ¬ (i ≤ k ∧ ltInt d[a]! d[k]! = true) → ∀ w2, Rf w0 w2 g e cap d → K0 [.int .i64 (k : Int)] w2) :
  M.cq.j6 [.int .i64 (i : Int)] [.int .i64 (k : Int)] (.slice (some ⟨g, 0, none⟩) n cap) (.int .i64 (a : Int)) K0 Kn w1 K := by
 unfold M.cq.j6
 by_cases hik : i ≤ k
 ·have a1 := H1.row.at (show k < d.size by omega)
  have a2 := H1.row.at (show a < d.size by omega)
  have b1 : (k : Int) < n := by omega
  have b2 : (a : Int) < n := by omega
  have b3 : (i : Int) ≤ k := by omega
  have hw : IntKind.i64.wrap ((k : Int) - 1) = ((k - 1 : Nat) : Int) := by rw [ia]; omega
  simp [g0, b1, b2, b3, a1, a2]
  refine sd _ _ ?_
  cases hl : ltInt d[a]! d[k]! with
  | true =>
   simp [hw]
   have := k1 ⟨hik, hl⟩ _ (H1.dr 1)
   simpa using this
  | false =>
   simp [hw]
   have := k2 (fun h => by simp [hl] at h) _ (H1.dr 1)
   simpa using this
 ·have b3 : ¬ (i : Int) ≤ k := by omega
  simp [g0, b3]
  have := k2 (fun h => hik h.1) _ (H1.dr 1)
  simpa using this
end
def PlI (w : World) (g : Nat) (e : TypeId) (cap n a b : Nat) (R : Nat × Array Int) : KL := fun x w1 => ∃ (i j : Nat) (d : Array Int), x = [.int .i64 (i : Int), .int .i64 (j : Int)] ∧ Rf w w1 g e cap d ∧ d.size = n ∧ a < i ∧ i ≤ j + 2 ∧ j < b ∧ partLoop ltInt a i j d = R
theorem atm {w : World} {g cap n : Nat} {e : TypeId} {d : Array Int} (H : Rw w g e cap d) (hn : d.size = n) (h6 : n < 100000) {a b pv : Nat} (hb : b ≤ n) (ha : a ≤ pv) (hp : pv < b) {K : KV}
  (h : ∀ w', Rf w w' g e cap (partition ltInt d a b pv).2.2 → K (.tuple #[.int .i64 ((partition ltInt d a b pv).1 : Nat), .bool (partition ltInt d a b pv).2.1]) w') :
  kg P F.fw [.slice (some ⟨g, 0, none⟩) n cap, .int .i64 a, .int .i64 b, .int .i64 pv] w K := by
 apply M.aq.calls
 unfold M.aq
 have a1 := H.at (show a < d.size by omega)
 have a2 := H.at (show pv < d.size by omega)
 have b1 : (a : Int) < n := by omega
 have b2 : (pv : Int) < n := by omega
 have f1 := H.frz a
 have f2 := H.frz pv
 have hw1 : IntKind.i64.wrap ((a : Int) + 1) = ((a + 1 : Nat) : Int) := qr (by omega)
 have hw2 : IntKind.i64.wrap ((b : Int) - 1) = ((b - 1 : Nat) : Int) := by rw [ia]; omega
 simp [b1, b2, a1, a2, f1, f2, ka, kj, hw1, hw2, -Int.natCast_add, -gp]
 have H1 := (H.xe.dr 1).swp (i := a) (j := pv) (by omega) (by omega)
 generalize ((dr w 1).setCell ⟨g, a, none⟩ (.int SD.k d[pv]!)).setCell ⟨g, pv, none⟩ (.int SD.k d[a]!) = w1 at *
 clear a1 a2 f1 f2
 unfold partition at h
 have hn1 : (Sort.swp d a pv).size = n := by rw [size_swp]; exact hn
 generalize Sort.swp d a pv = d1 at *
 try simp only at h
 refine amv (p := fun x => ltInt x d1[a]!) (i := a + 1) (j := b - 1) H1.row (by omega) (fun k w2 Kn hk H2 k1 k2 => by refine bjj H2 hn1 h6 (by omega) (by omega) hk ?_ ?_ <;> first | exact k1 | exact k2) fun w2 H2 => ?_
 have hge := scanUp_ge (fun x => ltInt x d1[a]!) d1 (b - 1) (a + 1)
 have hle := ahx (fun x => ltInt x d1[a]!) d1 (b - 1) (a + 1)
 generalize scanUp (fun x => ltInt x d1[a]!) d1 (b - 1) (a + 1) = i at *
 refine ahj (n := n) (p := fun x => !ltInt x d1[a]!) H2.row (by omega) (i := i) (j := b - 1) (by omega) (fun k w3 Kn hk H3 k1 k2 => by refine bjy H3 hn1 h6 (by omega) hk ?_ ?_ <;> first | exact k1 | exact k2) fun w3 H3 => ?_
 have hdl := scanDown_le (fun x => !ltInt x d1[a]!) d1 i (b - 1)
 generalize scanDown (fun x => !ltInt x d1[a]!) d1 i (b - 1) = j at *
 have H3' := H1.trans (H2.trans H3)
 unfold M.aq.j3
 have c1 := H3.row.at (show a < d1.size by omega)
 have c2 := H3.row.at (show j < d1.size by omega)
 have e1 : (j : Int) < n := by omega
 have f1 := H3.row.frz a
 have f2 := H3.row.frz j
 simp only [gp, g0]
 by_cases hij : i > j
 ·have hij' : (j : Int) < i := by omega
  rw [if_pos hij] at h
  simp [hij', b1, e1, c1, c2, f1, f2, ka, kj, -Int.natCast_add]
  exact h _ ((H3'.dr 1).swp (by omega) (by omega))
 ·have hij' : ¬ (j : Int) < i := by omega
  rw [if_neg hij] at h
  simp only [rk, hij', decide_false, Eng.cond_false]
  unfold M.aq.j6
  have c3 := H3.row.at (show i < d1.size by omega)
  have e2 : (i : Int) < n := by omega
  have f3 := H3.row.frz i
  have hw3 : IntKind.i64.wrap ((i : Int) + 1) = ((i + 1 : Nat) : Int) := qr (by omega)
  have hw4 : IntKind.i64.wrap ((j : Int) - 1) = ((j - 1 : Nat) : Int) := by rw [ia]; omega
  simp [g0, e1, e2, c2, c3, f2, f3, ka, kj, hw3, hw4, -Int.natCast_add, -gp]
  rw [gp]
  have H4 := (H3'.dr 1).swp (i := i) (j := j) (by omega) (by omega)
  generalize ((dr w3 1).setCell ⟨g, i, none⟩ (.int SD.k d1[j]!)).setCell ⟨g, j, none⟩ (.int SD.k d1[i]!) = w4 at *
  have hn2 : (Sort.swp d1 i j).size = n := by rw [size_swp]; exact hn1
  generalize Sort.swp d1 i j = d2 at *
  generalize hr : partLoop ltInt a (i + 1) (j - 1) d2 = r at *
  refine ⟨PlI w g e cap n a b r, fun x _ => ms x 1 + 2 - ms x 0, ⟨i + 1, j - 1, d2, rfl, H4, hn2, by omega, by omega, by omega, hr⟩, ?_⟩
  rintro x w5 ⟨i5, j5, d5, rfl, H5, hn5, ha5, hij5, hj5, hR⟩
  rw [partLoop_eq] at hR
  refine amv (p := fun x => ltInt x d5[a]!) (i := i5) (j := j5) H5.row hij5 (fun k w6 Kn hk H6 k1 k2 => by refine bem H6 hn5 h6 (by omega) (by omega) hk ?_ ?_ <;> first | exact k1 | exact k2) fun w6 H6 => ?_
  have hge := scanUp_ge (fun x => ltInt x d5[a]!) d5 j5 i5
  have hle := ahx (fun x => ltInt x d5[a]!) d5 j5 i5
  generalize scanUp (fun x => ltInt x d5[a]!) d5 j5 i5 = i6 at *
  unfold M.aq.j9
  simp only [g21]
  refine ahj (n := n) (p := fun x => !ltInt x d5[a]!) H6.row (by omega) (i := i6) (j := j5) (by omega) (fun k w7 Kn hk H7 k1 k2 => by refine bha H7 hn5 h6 (by omega) hk ?_ ?_ <;> first | exact k1 | exact k2) fun w7 H7 => ?_
  have hdl := scanDown_le (fun x => !ltInt x d5[a]!) d5 i6 j5
  generalize scanDown (fun x => !ltInt x d5[a]!) d5 i6 j5 = j6 at *
  have H7' := H5.trans (H6.trans H7)
  try simp only at hR
  simp only [g0, gp]
  by_cases hgt : i6 > j6
  ·have hgt' : (j6 : Int) < i6 := by omega
   rw [if_pos hgt] at hR
   simp only [rk, hgt', decide_true, Eng.cond_true]
   unfold M.aq.j7
   have c1 := H7.row.at (show a < d5.size by omega)
   have c2 := H7.row.at (show j6 < d5.size by omega)
   have e1 : (j6 : Int) < n := by omega
   have f1 := H7.row.frz a
   have f2 := H7.row.frz j6
   simp [g21, b1, e1, c1, c2, f1, f2, ka, kj, -Int.natCast_add]
   subst hR
   exact h _ ((H7'.dr 1).swp (by omega) (by omega))
  ·have hgt' : ¬ (j6 : Int) < i6 := by omega
   rw [if_neg hgt] at hR
   simp only [rk, hgt', decide_false, Eng.cond_false]
   unfold M.aq.j15
   have c1 := H7.row.at (show i6 < d5.size by omega)
   have c2 := H7.row.at (show j6 < d5.size by omega)
   have e1 : (j6 : Int) < n := by omega
   have e2 : (i6 : Int) < n := by omega
   have f1 := H7.row.frz i6
   have f2 := H7.row.frz j6
   have hw3 : IntKind.i64.wrap ((i6 : Int) + 1) = ((i6 + 1 : Nat) : Int) := qr (by omega)
   have hw4 : IntKind.i64.wrap ((j6 : Int) - 1) = ((j6 - 1 : Nat) : Int) := by rw [ia]; omega
   simp [g0, e1, e2, c1, c2, f1, f2, ka, kj, hw3, hw4, -Int.natCast_add]
   refine ⟨⟨i6 + 1, j6 - 1, _, rfl, (H7'.dr 1).swp (by omega) (by omega), by rw [size_swp]; exact hn5, by omega, by omega, by omega, hR⟩, ?_⟩
   simp [ms, gv]; omega
def PeI (w : World) (g : Nat) (e : TypeId) (cap n a b : Nat) (R : Nat × Array Int) : KL := fun x w1 => ∃ (i j : Nat) (d : Array Int), x = [.int .i64 (i : Int), .int .i64 (j : Int)] ∧ Rf w w1 g e cap d ∧ d.size = n ∧ a < i ∧ i ≤ j + 2 ∧ j < b ∧ partEqLoop ltInt a i j d = R
theorem ajg {w : World} {g cap n : Nat} {e : TypeId} {d : Array Int} (H : Rw w g e cap d) (hn : d.size = n) (h6 : n < 100000) {a b pv : Nat} (hb : b ≤ n) (ha : a ≤ pv) (hp : pv < b) {K : KV}
  (h : ∀ w', Rf w w' g e cap (partitionEqual ltInt d a b pv).2 → K (.int .i64 ((partitionEqual ltInt d a b pv).1 : Nat)) w') :
  kg P F.ga [.slice (some ⟨g, 0, none⟩) n cap, .int .i64 a, .int .i64 b, .int .i64 pv] w K := by
 apply M.cq.calls
 unfold M.cq
 have a1 := H.at (show a < d.size by omega)
 have a2 := H.at (show pv < d.size by omega)
 have b1 : (a : Int) < n := by omega
 have b2 : (pv : Int) < n := by omega
 have f1 := H.frz a
 have f2 := H.frz pv
 have hw1 : IntKind.i64.wrap ((a : Int) + 1) = ((a + 1 : Nat) : Int) := qr (by omega)
 have hw2 : IntKind.i64.wrap ((b : Int) - 1) = ((b - 1 : Nat) : Int) := by rw [ia]; omega
 simp [b1, b2, a1, a2, f1, f2, ka, kj, hw1, hw2, -Int.natCast_add, -gp]
 have H1 := (H.xe.dr 1).swp (i := a) (j := pv) (by omega) (by omega)
 generalize ((dr w 1).setCell ⟨g, a, none⟩ (.int SD.k d[pv]!)).setCell ⟨g, pv, none⟩ (.int SD.k d[a]!) = w1 at *
 clear a1 a2 f1 f2
 unfold partitionEqual at h
 have hn1 : (Sort.swp d a pv).size = n := by rw [size_swp]; exact hn
 generalize Sort.swp d a pv = d1 at *
 generalize hr : partEqLoop ltInt a (a + 1) (b - 1) d1 = r at *
 rw [gp]
 refine ⟨PeI w g e cap n a b r, fun x _ => ms x 1 + 2 - ms x 0, ⟨a + 1, b - 1, d1, rfl, H1, hn1, by omega, by omega, by omega, hr⟩, ?_⟩
 rintro x w5 ⟨i5, j5, d5, rfl, H5, hn5, ha5, hij5, hj5, hR⟩
 rw [partEqLoop_eq] at hR
 simp only [g20]
 refine amv (p := fun x => !ltInt d5[a]! x) (i := i5) (j := j5) H5.row hij5 (fun k w6 Kn hk H6 k1 k2 => by refine bkp H6 hn5 h6 (by omega) (by omega) hk ?_ ?_ <;> first | exact k1 | exact k2) fun w6 H6 => ?_
 have hge := scanUp_ge (fun x => !ltInt d5[a]! x) d5 j5 i5
 have hle := ahx (fun x => !ltInt d5[a]! x) d5 j5 i5
 generalize scanUp (fun x => !ltInt d5[a]! x) d5 j5 i5 = i6 at *
 unfold M.cq.j2
 simp only [g21]
 refine ahj (n := n) (p := fun x => ltInt d5[a]! x) H6.row (by omega) (i := i6) (j := j5) (by omega) (fun k w7 Kn hk H7 k1 k2 => by refine bjd H7 hn5 h6 (by omega) hk ?_ ?_ <;> first | exact k1 | exact k2) fun w7 H7 => ?_
 have hdl := scanDown_le (fun x => ltInt d5[a]! x) d5 i6 j5
 generalize scanDown (fun x => ltInt d5[a]! x) d5 i6 j5 = j6 at *
 have H7' := H5.trans (H6.trans H7)
 try simp only at hR
 simp only [g0, gp]
 by_cases hgt : i6 > j6
 ·have hgt' : (j6 : Int) < i6 := by omega
  rw [if_pos hgt] at hR
  simp only [rk, hgt', decide_true, Eng.cond_true, g20]
  subst hR
  exact h _ H7'
 ·have hgt' : ¬ (j6 : Int) < i6 := by omega
  rw [if_neg hgt] at hR
  simp only [rk, hgt', decide_false, Eng.cond_false]
  unfold M.cq.j8
  have c1 := H7.row.at (show i6 < d5.size by omega)
  have c2 := H7.row.at (show j6 < d5.size by omega)
  have e1 : (j6 : Int) < n := by omega
  have e2 : (i6 : Int) < n := by omega
  have f1 := H7.row.frz i6
  have f2 := H7.row.frz j6
  have hw3 : IntKind.i64.wrap ((i6 : Int) + 1) = ((i6 + 1 : Nat) : Int) := qr (by omega)
  have hw4 : IntKind.i64.wrap ((j6 : Int) - 1) = ((j6 - 1 : Nat) : Int) := by rw [ia]; omega
  simp [g0, e1, e2, c1, c2, f1, f2, ka, kj, hw3, hw4, -Int.natCast_add]
  refine ⟨⟨i6 + 1, j6 - 1, _, rfl, (H7'.dr 1).swp (by omega) (by omega), by rw [size_swp]; exact hn5, by omega, by omega, by omega, hR⟩, ?_⟩
  simp [ms, gv]; omega
end Go.Proofs.YtfnhoaemapheoaaGreat.SG
