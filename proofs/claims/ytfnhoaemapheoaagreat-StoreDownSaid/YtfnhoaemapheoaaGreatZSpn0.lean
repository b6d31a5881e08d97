/-
  Names of spans: which are right. No condition.
-/
import Derived.Test.YtfnhoaemapheoaaGreatM
import Derived.Test.YtfnhoaemapheoaaGreatFacts
import Derived.Test.YtfnhoaemapheoaaGreatZEngSl
import Derived.Test.YtfnhoaemapheoaaGreatRows
import Derived.Laws.StructEq
import Derived.Test.YtfnhoaemapheoaaGreatZMs0
import Derived.Sort.AssemblyPlain
set_option maxRecDepth 100000
namespace Go.Proofs.YtfnhoaemapheoaaGreat
open Go.Eng
@[simp] theorem aln : aai P T.ae = true := .trans (by kernel_rfl) rfl
@[simp] theorem bjr (ty : TypeId) (cs : List Bool) (s : ByteArray) (w : World) (K : KV) : biT P .len #[T.ae] ty cs [.string s] w K = K (.int .i64 s.size) w := ava aln cs s w K
theorem atl (s : ByteArray) : s.toList.isEmpty = decide (s.size = 0) := by
 have h : s.size = s.data.toList.length := Array.length_toList.symm
 rw [ByteArray.toList_eq, h]
 cases s.data.toList <;> simp
def wu (s p : ByteArray) : Bool := decide (p.size ≤ s.size) && ((s.extract 0 p.size).toList == p.toList)
theorem arg {w : World} (s p : ByteArray) {K : KV} (h : K (.bool (wu s p)) w) : jy P F.dp [.string s, .string p] w K := by
 apply M.da.calls
 unfold M.da
 rw [M.bg.fcall]
 apply M.bg.calls
 unfold M.bg
 unfold wu at h
 by_cases hl : p.size ≤ s.size
 ·have hl' : (p.size : Int) ≤ s.size := by omega
  have hsl : ∀ K, slT P T.ae (.string s) none (some (.int .i64 (p.size : Int))) none w K = K (.string (s.extract 0 p.size)) w := fun K => apn aln (.inl ⟨rfl, rfl⟩) (.inr ⟨_, rfl⟩) (Nat.zero_le _) hl w K
  simp [hl, hsl, aex] at h ⊢
  exact h
 ·have hl' : ¬ (p.size : Int) ≤ s.size := by omega
  simp [hl] at h ⊢
  exact h
def xa : ByteArray := ⟨#[239, 191, 189]⟩
def abn (s : ByteArray) (i : Nat) : Bool := decide ((Utf8.decode s i).1 < 32) || ((decide (127 ≤ (Utf8.decode s i).1) && decide ((Utf8.decode s i).1 ≤ 159)) || (decide ((Utf8.decode s i).1 = 65533) && !wu (s.extract i s.size) xa))
def tf (s : ByteArray) (i : Nat) : Bool :=
 if h : i < s.size then !abn s i && tf s (i + (Utf8.decode s i).2) else true
termination_by s.size - i
decreasing_by have := ahd s i; omega
def oz (s : ByteArray) : Int := if s.size = 0 ∨ 32 < s.size then 5 else if tf s 0 = true then 0 else 5
def axh (w : World) (s : ByteArray) : KL := fun x w1 => ∃ (pos : Nat), w1.heap[w.heap.size]? = some (.stringIter s pos) ∧ Fr (fun _ => False) w w1 ∧ tf s pos = tf s 0
def ahx (s : ByteArray) (it : Nat) (w : World) : Nat := match w.heap[it]? with
 | some (.stringIter _ pos) => s.size - pos
 | _ => 0
theorem ave {w : World} (s : ByteArray) {K : KV} (h : ∀ w', Fr (fun _ => False) w w' → K (.int .i64 (oz s)) w') : jy P F.ew [.string s] w K := by
 apply M.bv.calls
 unfold M.bv
 simp only [gm]
 have hemp : s.toList.isEmpty = decide (s.size = 0) := atl s
 unfold oz at h
 by_cases h0 : s.size = 0
 ·simp [aex, hemp, h0] at h ⊢
  exact h w (Fr.refl _ _)
 ·by_cases h1 : 32 < s.size
  ·have h1' : (32 : Int) < s.size := by omega
   simp [aex, hemp, h0, h1, h1'] at h ⊢
   exact h w (Fr.refl _ _)
  ·have h1' : ¬ (32 : Int) < s.size := by omega
   simp [aex, hemp, h0, h1, h1'] at h ⊢
   unfold M.bv.j0
   simp only [gm]
   rw [bjk (vj aln)]
   refine ⟨axh w s, fun _ w1 => ahx s w.heap.size w1, ⟨0, by rw [ik, if_pos rfl], (Fr.refl _ w).alloc _, rfl⟩, ?_⟩
   rintro x w1 ⟨pos, hit, hf, hp⟩
   refine bkr hit _ (fun he => ?_) fun hlt w2 hit2 hf2 => ?_
   ·have hr : tf s 0 = true := by rw [← hp]; unfold tf; rw [dif_neg he]
    have e0 : ∀ w K, exT P (.tuple #[.bool false]) 0 w K = K (.bool false) w := fun _ _ => rfl
    simp [e0]
    have := h w1 hf
    simpa [hr] using this
   ·simp
    unfold M.bv.j3
    simp
    have hr : tf s pos = (!abn s pos && tf s (pos + (Utf8.decode s pos).2)) := by
     conv => lhs; unfold tf
     rw [dif_pos hlt]
    have F2 : Fr (fun _ => False) w w2 := hf.me hf2 fun g hg h' => by omega
    have hbad : abn s pos = true → K (.int .i64 5) w2 := fun hb => by
     rw [hb, hp] at hr
     have := h w2 F2
     simpa [hr] using this
    have hgood : abn s pos = false → ∀ xs, axh w s xs w2 ∧ ahx s w.heap.size w2 < ahx s w.heap.size w1 := fun hb xs => by
     rw [hb, hp] at hr
     refine ⟨⟨_, hit2, F2, by rw [hr]; rfl⟩, ?_⟩
     have := ahd s pos
     simp only [ahx, hit, hit2]; omega
    unfold abn at hbad hgood
    generalize hc : (Utf8.decode s pos).1 = c at *
    clear hc
    have hsl : ∀ K, slT P T.ae (.string s) (some (.int .i64 (pos : Int))) none none w2 K = K (.string (s.extract pos s.size)) w2 := fun K => apn aln (.inr ⟨_, rfl⟩) (.inl ⟨rfl, rfl⟩) (by omega) (Nat.le_refl _) w2 K
    have j4 : ∀ (b : Bool) (t14 : Value), b = (decide (c < 32) || (decide (127 ≤ c) && decide (c ≤ 159))) → M.bv.j4 [.bool b] (.int .i32 c) (.string s) (.int .i64 pos) (fun x' w' => axh w s x' w' ∧ ahx s w.heap.size w' < ahx s w.heap.size w1) t14 x w2 K := by
     intro b t14 hb
     unfold M.bv.j4
     cases b with
     | true => simp at hb ⊢; exact hbad (by simp; omega)
     | false =>
      by_cases he : c = 65533
      ·have he' : (c : Int) = 65533 := by omega
       simp [he', hsl]
       rw [M.da.fcall]
       refine arg _ _ ?_
       have hx : wu (s.extract pos s.size) ⟨#[239, 191, 189]⟩ = wu (s.extract pos s.size) xa := rfl
       rw [hx]
       cases hq : wu (s.extract pos s.size) xa with
       | true => simp; exact hgood (by simp [he, hq]) _
       | false => simp; exact hbad (by simp [he, hq])
      ·have he' : ¬ (c : Int) = 65533 := by omega
       simp [he']
       refine hgood ?_ _
       have : (decide (c < 32) || (decide (127 ≤ c) && decide (c ≤ 159))) = false := hb.symm
       simp [he] at this ⊢
       exact this
    by_cases h32 : c < 32
    ·have h32' : (c : Int) < 32 := by omega
     simp [h32']
     exact j4 true _ (by simp [h32])
    ·have h32' : ¬ (c : Int) < 32 := by omega
     by_cases h127 : 127 ≤ c
     ·have h127' : (127 : Int) ≤ c := by omega
      by_cases h159 : c ≤ 159
      ·have h159' : (c : Int) ≤ 159 := by omega
       simp [h32', h127', h159']
       exact j4 true _ (by simp [h32, h127, h159])
      ·have h159' : ¬ (c : Int) ≤ 159 := by omega
       simp [h32', h127', h159']
       exact j4 false _ (by simp [h32, h127, h159])
     ·have h127' : ¬ (127 : Int) ≤ c := by omega
      simp [h32', h127']
      exact j4 false _ (by simp [h32, h127])
set_option maxRecDepth 100000
structure Spn where
 iw : Int
 id : Int
 qa : Int
 jn : Int
 len : Int
 jz : ByteArray
 name : ByteArray
 ui : Bool
def il (s : Spn) : List Value := [.int .u64 s.iw, .int .u64 s.id, .int .u64 s.qa, .int .u64 s.jn, .int .u64 s.len, .string s.jz, .string s.name, .bool s.ui]
def kr (s : Spn) : Value := .agg #[.int .u64 s.iw, .int .u64 s.id, .int .u64 s.qa, .int .u64 s.jn, .int .u64 s.len, .string s.jz, .string s.name, .bool s.ui]
theorem lx (s : Spn) : (il s).length = 8 := rfl
theorem nv (s : Spn) : ∀ u ∈ il s, ke u = true := fun u hu => by
 simp only [il, List.mem_cons, List.not_mem_nil, or_false] at hu
 rcases hu with rfl | rfl | rfl | rfl | rfl | rfl | rfl | rfl <;> rfl
@[simp] theorem bob (t1 t2 ty : TypeId) (cs : List Bool) (k : IntKind) (x y : Int) (w : World) (K : KV) : biT P .max #[t1, t2] ty cs [.int k x, .int k y] w K = K (.int k (max x y)) w := by
 have : (if x < y then y else x) = max x y := by split <;> omega
 simp [biT, lq, builtin, Builtin.max_, Builtin.max2, Sem.run_bind, Result.andThen, Sem.run_pure, this]
def yf (k : Int) : List Value := [.int .i64 k]
def orK (l : List Int) : Int := (l.find? fun k => !decide (k = 0)).getD 0
def OrI (w : World) (l : List Int) : KL := fun x w1 => ∃ (a b : Value) (i : Nat), x = [a, b, .int .i64 (i : Nat)] ∧ w1 = w ∧ i ≤ l.length ∧ ∀ (j : Nat) k, l[j]? = some k → j < i → k = 0
theorem bkv {w : World} {v : Value} {l : List Int} (hs : Sl w 1 yf v l) (hlen : l.length ≤ 1000) {K : KV} (h : K (.int .i64 (orK l)) w) : jy P F.ej [v] w K := by
 apply M.cf.calls
 unfold M.cf
 simp only [gm]
 rw [hs.jd (by simp)]
 refine ⟨OrI w l, fun x _ => l.length - ms x 2, ⟨_, _, 0, rfl, rfl, Nat.zero_le _, fun j k _ h => by omega⟩, ?_⟩
 rintro x w1 ⟨a, b, i, rfl, rfl, hi, hz⟩
 have gv2 : gv [a, b, .int .i64 (i : Int)] 2 = .int .i64 (i : Int) := rfl
 simp only [gv2]
 by_cases hil : i < l.length
 ·obtain ⟨bb, o, cap, rfl, hb, _, hr⟩ := hs.at hil
  have e0 := hr 0 _ rfl
  simp only [Nat.mul_one, Nat.add_zero] at e0
  have hw : IntKind.i64.wrap ((i : Int) + 1) = ((i + 1 : Nat) : Int) := by rw [gy (by omega) (by omega)]; rfl
  simp [hil]
  unfold M.cf.j2
  simp only [gm, gv2]
  by_cases hk : l[i] = 0
  ·simp [hil, e0, hk, hw]
   refine ⟨⟨_, _, i + 1, rfl, rfl, by omega, fun j k hj hlt => ?_⟩, by simp [ms, gv]; omega⟩
   by_cases hji : j = i
   ·subst hji
    rw [List.getElem?_eq_getElem hil] at hj
    cases hj; exact hk
   ·exact hz j k hj (by omega)
  ·simp [hil, e0, hk]
   have : orK l = l[i] := by
    unfold orK
    have : l.find? (fun k => !decide (k = 0)) = some l[i] := by
     rw [List.find?_eq_some_iff_getElem]
     refine ⟨by simpa using hk, i, hil, rfl, fun j hj => ?_⟩
     have := hz j _ (List.getElem?_eq_getElem (by omega)) hj
     simp [this]
    rw [this]; rfl
   rw [this] at h; exact h
 ·simp [hil]
  have : orK l = 0 := by
   unfold orK
   have : l.find? (fun k => !decide (k = 0)) = none := by
    rw [List.find?_eq_none]
    intro k hk
    obtain ⟨j, hj, rfl⟩ := List.mem_iff_getElem.1 hk
    have := hz j _ (List.getElem?_eq_getElem hj) (by omega)
    simp [this]
   rw [this]; rfl
  rw [this] at h; exact h
def ky (s : Spn) : Int := if s.iw = 0 ∨ s.id = 0 ∨ 1099511627776 < max s.jn s.len then 1 else orK [oz s.jz, oz s.name]
theorem ait {w : World} (s : Spn) {K : KV} (h : ∀ w', Fr (fun _ => False) w w' → K (.int .i64 (ky s)) w') : jy P F.eo [kr s] w K := by
 apply M.cu.calls
 unfold M.cu kr
 simp only [gm, wo, bbl]
 generalize hwa : w.alloc (.cells #[.int .u64 s.iw, .int .u64 s.id, .int .u64 s.qa, .int .u64 s.jn, .int .u64 s.len, .string s.jz, .string s.name, .bool s.ui] T.e) = wa
 have hb : wa.heap[w.heap.size]? = some (.cells #[.int .u64 s.iw, .int .u64 s.id, .int .u64 s.qa, .int .u64 s.jn, .int .u64 s.len, .string s.jz, .string s.name, .bool s.ui] T.e (0, 0)) := by rw [← hwa, ik, if_pos rfl]
 have hf : Fr (fun _ => False) w wa := by rw [← hwa]; exact (Fr.refl _ w).alloc _
 have c0 := gq hb 0
 have c1 := gq hb 1
 have c3 := gq hb 3
 have c4 := gq hb 4
 have c5 := gq hb 5
 have c6 := gq hb 6
 simp at c0 c1 c3 c4 c5 c6
 unfold ky at h
 by_cases h0 : s.iw = 0
 ·simp [c0, h0] at h ⊢
  exact h wa hf
 ·by_cases h1 : s.id = 0
  ·simp [c0, c1, h0, h1] at h ⊢
   exact h wa hf
  ·by_cases h2 : 1099511627776 < max s.jn s.len
   ·simp [c0, c1, c3, c4, h0, h1, h2] at h ⊢
    exact h wa hf
   ·simp [c0, c1, c3, c4, h0, h1, h2] at h ⊢
    unfold M.cu.j0
    simp [c5, c6]
    rw [M.bv.fcall]
    refine ave _ fun w2 f2 => ?_
    have f2' : Fr (fun _ => False) wa w2 := ⟨f2.size, f2.ju, f2.tape, f2.os, f2.output⟩
    have d6 : gr w2 w.heap.size 6 = some (.string s.name) := by rw [xi (f2'.ju _ (oh hb) fun h => h)]; exact c6
    simp [d6]
    rw [M.bv.fcall]
    refine ave _ fun w3 f3 => ?_
    simp
    rw [M.cf.fcall]
    have hsl : Sl (w3.alloc (.cells #[.int .i64 (oz s.jz), .int .i64 (oz s.name)] T.v)) 1 yf (.slice (some ⟨w3.heap.size, 0, none⟩) 2 2) [oz s.jz, oz s.name] := by
     refine ⟨_, 2, rfl, Nat.le_refl _, by decide, fun i x hi => ⟨_, 0, rfl, by simp, fun j u hu => ?_⟩⟩
     rw [akj rfl]
     match i with
     | 0 => simp at hi; subst hi; match j with
      | 0 => simpa [yf] using hu
      | j + 1 => simp [yf] at hu
     | 1 => simp at hi; subst hi; match j with
      | 0 => simpa [yf] using hu
      | j + 1 => simp [yf] at hu
     | i + 2 => simp at hi
    exact bkv hsl (by simp) (h _ (((hf.trans f2').trans f3).alloc _))
theorem bgh {t : TypeId} (h : ade P t = false) {xs : Array Value} {i : Nat} {v : Value} (hv : xs[i]? = some v) (w : World) : (part t xs i).run P w = .ok v w := by
 unfold part
 rw [Sem.run_bind, bca h]
 simp [Result.andThen, hv, Sem.run_pure]
theorem eqF {d : Nat} {xs ys : Array Value} {f : Field} {fs : List Field} {w : World} {u v : Value} {b c : Bool} (hn : f.name ≠ "_") (h : ade P f.type = false) (hx : xs[f.offset]? = some u) (hy : ys[f.offset]? = some v) (he : (Op.equalIn d f.type u v).run P w = .ok b w) (hr : (Op.eqFields d xs ys fs).run P w = .ok c w) : (Op.eqFields d xs ys (f :: fs)).run P w = .ok (b && c) w := by
 simp only [Op.eqFields]
 rw [if_pos hn]
 simp only [Sem.run_bind, bgh h hx, bgh h hy, he, Result.andThen]
 cases b
 ·rfl
 ·simpa using hr
def ql (m : Mem) : Value := .agg #[.int .u64 m.id, .int .u64 m.inc, .int .i64 m.st]
abbrev SlM (w : World) (v : Value) (l : List Mem) : Prop := Sl w 3 acl v l
theorem ldM {w : World} {b i : Nat} {m : Mem} (h : ∀ k v, (acl m)[k]? = some v → gr w b (i + k) = some v) (K : KV) : ldN P 3 b i w K = K (ql m) w := sq (acl m) 3 rfl h K
def rm : Int → List Mem → Bool
 | _, [] => true
 | lb, m :: l => decide (lb < m.id) && rm m.id l
def RsI (W : World) (l : List Mem) : KL := fun x w1 => ∃ (u0 u1 : Value) (lb : Int) (i : Nat), x = [u0, u1, .int .u64 lb, .int .i64 (i : Nat)] ∧ i ≤ l.length ∧ rm 0 l = rm lb (l.drop i) ∧ Fr (fun _ => False) W w1
theorem azm {w : World} (m : Mem) {K : KV} (h : ∀ w', Fr (fun _ => False) w w' → K (.int .u64 m.id) w') : mo P (.func (.func F.de) #[] #[]) [ql m] w K := by
 rw [M.dk.rcall]
 apply M.dk.calls
 unfold M.dk ql
 simp
 have c0 : gr (w.alloc (.cells #[.int .u64 m.id, .int .u64 m.inc, .int .i64 m.st] T.q)) w.heap.size 0 = some (.int .u64 m.id) := by rw [gq (by rw [ik, if_pos rfl])]; rfl
 simp [c0]
 exact h _ ((Fr.refl _ w).alloc _)
theorem bhm {w : World} {v : Value} {l : List Mem} (hs : SlM w v l) (hlen : l.length ≤ 1000000) {K : KV} (h : ∀ w', Fr (fun _ => False) w w' → K (.bool (rm 0 l && (decide (0 < l.length) && decide (l.length ≤ 16)))) w') :
  gi P F.cg [v, .int .i64 16, .func (.func F.de) #[] #[]] w K := by
 rw [M.ae.fcall]
 apply M.ae.calls
 unfold M.ae
 simp only [gm]
 rw [hs.jd (by kernel_rfl)]
 refine ⟨RsI w l, fun x _ => l.length - ms x 3, ⟨_, _, 0, 0, rfl, Nat.zero_le _, rfl, Fr.refl _ _⟩, ?_⟩
 rintro x w1 ⟨u0, u1, lb, i, rfl, hi, hr, f1⟩
 have q2 : gv [u0, u1, .int .u64 lb, .int .i64 (i : Nat)] 2 = .int .u64 lb := rfl
 have q3 : gv [u0, u1, .int .u64 lb, .int .i64 (i : Nat)] 3 = .int .i64 (i : Nat) := rfl
 have hs1 := hs.fr f1 fun _ _ _ h => h
 simp only [q3]
 by_cases hil : i < l.length
 ·have hil' : (i : Int) < l.length := by omega
  simp [hil']
  unfold M.ae.j2
  obtain ⟨b, o, cap, hv, hb, _, hc⟩ := hs1.at hil
  have hld : ∀ K, ldN P 3 b (o + i * 3) w1 K = K (ql l[i]) w1 := fun K => ldM hc K
  have hwi : IntKind.i64.wrap ((i : Int) + 1) = ((i + 1 : Nat) : Int) := by rw [gy (by omega) (by omega)]; rfl
  have hdrop : l.drop i = l[i] :: l.drop (i + 1) := List.drop_eq_getElem_cons hil
  rw [hdrop] at hr
  generalize l[i] = m at *
  subst hv
  simp [q2, q3, hil, hld]
  have e1 : ql m = .agg #[.int .u64 m.id, .int .u64 m.inc, .int .i64 m.st] := rfl
  rw [e1]
  simp
  have hba : (w1.alloc (.cells #[.int .u64 0, .int .u64 0, .int .i64 0] T.q)).heap[w1.heap.size]? = some (.cells #[.int .u64 0, .int .u64 0, .int .i64 0] T.q (0, 0)) := by rw [ik, if_pos rfl]
  refine jv (vs := [.int .u64 m.id, .int .u64 m.inc, .int .i64 m.st]) hba rfl (by simp) fun w2 b2 f2 => ?_
  have f2' : Fr (fun _ => False) w1 w2 := ((Fr.refl _ w1).alloc _).me f2 fun y hy he => by subst he; omega
  have hld2 : ∀ {w'}, Fr (fun _ => False) w2 w' → ∀ K, ldN P 3 w1.heap.size 0 w' K = K (ql m) w' := fun f K => by
   have b3 := f.heap b2 fun h => h
   exact ldM (m := m) (i := 0) (fun k v hk => by rw [gq b3, Nat.zero_add, List.getElem?_toArray]; exact hk) K
  rw [hld2 (Fr.refl _ _)]
  refine azm m fun w3 f3 => ?_
  simp
  by_cases hle : m.id ≤ lb
  ·have hlt : ¬ lb < m.id := by omega
   simp [hle]
   have hf : rm 0 l = false := by rw [hr]; unfold rm; simp [hlt]
   rw [hf] at h
   exact h w3 ((f1.trans f2').trans f3)
  ·have hlt : lb < m.id := by omega
   simp [hle]
   rw [hld2 f3]
   refine azm m fun w4 f4 => ?_
   simp [hwi]
   refine ⟨⟨_, _, m.id, i + 1, rfl, by omega, ?_, ((f1.trans f2').trans f3).trans f4⟩, by simp [ms, gv]; omega⟩
   rw [hr]
   show (decide (lb < m.id) && rm m.id (l.drop (i + 1))) = _
   simp [hlt]
 ·have hil' : ¬ (i : Int) < l.length := by omega
  have hr1 : rm 0 l = true := by rw [hr, List.drop_of_length_le (by omega)]; rfl
  simp [hil']
  unfold M.ae.j0
  rw [hs1.jd (by kernel_rfl)]
  rw [hr1] at h
  by_cases h0 : 0 < l.length
  ·have h0' : (0 : Int) < l.length := by omega
   have hx : decide ((l.length : Int) ≤ 16) = decide (l.length ≤ 16) := by
    by_cases h16 : l.length ≤ 16
    ·rw [decide_eq_true h16, decide_eq_true (by omega)]
    ·rw [decide_eq_false h16, decide_eq_false (by omega)]
   simp [h0]
   rw [hs1.jd (by kernel_rfl)]
   simp
   rw [hx]
   have := h w1 f1
   simpa [h0] using this
  ·simp [h0]
   have := h w1 f1
   simpa [h0] using this
def bng (W : World) (p : Mem → Bool) (l : List Mem) : KL := fun x w1 => ∃ (u0 u1 : Value) (i : Nat), x = [u0, u1, .int .i64 (i : Nat)] ∧ i ≤ l.length ∧ (∀ j (h : j < l.length), j < i → p l[j] = false) ∧ Fr (fun _ => False) W w1
theorem bdm {w : World} {v fv : Value} {l : List Mem} {p : Mem → Bool} (hs : SlM w v l) (hlen : l.length ≤ 1000000) (hp : ∀ m w1, Fr (fun _ => False) w w1 → ∀ {K : KV}, (∀ w', Fr (fun _ => False) w1 w' → K (.bool (p m)) w') → mo P fv [ql m] w1 K) {K : KV}
  (h1 : ∀ w' i (hi : i < l.length), p l[i] = true → (∀ j (h : j < l.length), j < i → p l[j] = false) → Fr (fun _ => False) w w' → K (.int .i64 (i : Nat)) w')
  (h0 : ∀ w', (∀ m ∈ l, p m = false) → Fr (fun _ => False) w w' → K (.int .i64 (-1)) w') : gi P F.az [v, fv] w K := by
 rw [M.o.fcall]
 apply M.o.calls
 unfold M.o
 simp only [gm]
 rw [hs.jd (by kernel_rfl)]
 refine ⟨bng w p l, fun x _ => l.length - ms x 2, ⟨_, _, 0, rfl, Nat.zero_le _, fun _ _ h => by omega, Fr.refl _ _⟩, ?_⟩
 rintro x w1 ⟨u0, u1, i, rfl, hi, hz, f1⟩
 have q2 : gv [u0, u1, .int .i64 (i : Nat)] 2 = .int .i64 (i : Nat) := rfl
 have hs1 := hs.fr f1 fun _ _ _ h => h
 simp only [q2]
 by_cases hil : i < l.length
 ·have hil' : (i : Int) < l.length := by omega
  simp [hil']
  unfold M.o.j2
  obtain ⟨b, o, cap, hv, hb, _, hc⟩ := hs1.at hil
  have hld : ∀ K, ldN P 3 b (o + i * 3) w1 K = K (ql l[i]) w1 := fun K => ldM hc K
  have hwi : IntKind.i64.wrap ((i : Int) + 1) = ((i + 1 : Nat) : Int) := by rw [gy (by omega) (by omega)]; rfl
  subst hv
  simp [q2, hil, hld]
  refine hp l[i] w1 f1 fun w2 f2 => ?_
  cases hpi : p l[i] with
  | true => simp; exact h1 w2 i hil hpi hz (f1.trans f2)
  | false =>
   simp [hwi]
   refine ⟨⟨_, _, i + 1, rfl, by omega, fun j hj hji => ?_, f1.trans f2⟩, by simp [ms, gv]; omega⟩
   by_cases hje : j = i
   ·subst hje; exact hpi
   ·exact hz j hj (by omega)
 ·have hil' : ¬ (i : Int) < l.length := by omega
  simp [hil']
  refine h0 w1 (fun m hm => ?_) f1
  obtain ⟨j, hj, rfl⟩ := List.getElem_of_mem hm
  exact hz j hj (by omega)
def pw (m : Mem) : Bool := decide (m.inc = 0) || (decide (m.st < 0) || decide (2 < m.st))
theorem bhn {w : World} (m : Mem) {K : KV} (h : ∀ w', Fr (fun _ => False) w w' → K (.bool (pw m)) w') : mo P (.func (.func F.dd) #[] #[]) [ql m] w K := by
 rw [M.dj.rcall]
 apply M.dj.calls
 unfold M.dj ql
 simp
 have hb : (w.alloc (.cells #[.int .u64 m.id, .int .u64 m.inc, .int .i64 m.st] T.q)).heap[w.heap.size]? = some (.cells #[.int .u64 m.id, .int .u64 m.inc, .int .i64 m.st] T.q (0, 0)) := by rw [ik, if_pos rfl]
 have c1 : gr (w.alloc (.cells #[.int .u64 m.id, .int .u64 m.inc, .int .i64 m.st] T.q)) w.heap.size 1 = some (.int .u64 m.inc) := by rw [gq hb]; rfl
 have c2 : gr (w.alloc (.cells #[.int .u64 m.id, .int .u64 m.inc, .int .i64 m.st] T.q)) w.heap.size 2 = some (.int .i64 m.st) := by rw [gq hb]; rfl
 have fin := h _ ((Fr.refl _ w).alloc (.cells #[.int .u64 m.id, .int .u64 m.inc, .int .i64 m.st] T.q))
 unfold pw at fin
 generalize w.alloc (.cells #[.int .u64 m.id, .int .u64 m.inc, .int .i64 m.st] T.q) = w1 at *
 by_cases h1 : m.inc = 0
 ·simp [c1, c2, h1] at fin ⊢; exact fin
 by_cases h2 : m.st < 0
 ·simp [c1, c2, h1, h2] at fin ⊢; exact fin
 simp [c1, c2, h1, h2] at fin ⊢; exact fin
theorem apb {w : World} {v : Value} {l : List Mem} (hs : SlM w v l) (hlen : l.length ≤ 1000000) {K : KV} (h : ∀ w', Fr (fun _ => False) w w' → K (.bool (l.any pw)) w') : gi P F.av [v, .func (.func F.dd) #[] #[]] w K := by
 rw [M.ah.fcall]
 apply M.ah.calls
 unfold M.ah
 refine bdm (p := pw) hs hlen (fun m w1 _ _ hK => bhn m hK) (fun w' i hi hpi _ f => ?_) fun w' hn f => ?_
 ·have : l.any pw = true := List.any_eq_true.2 ⟨l[i], List.getElem_mem hi, hpi⟩
  rw [this] at h
  have h0 : (0 : Int) ≤ (i : Nat) := by omega
  simp [h0]
  exact h w' f
 ·have : l.any pw = false := by
   rw [List.any_eq_false]
   intro m hm; rw [hn m hm]; simp
  rw [this] at h
  simp
  exact h w' f
theorem ana {w : World} {v : Value} {l : List Mem} (hs : SlM w v l) (hlen : l.length ≤ 1000000) {K : KV} (h : ∀ w' v', SlM w' v' l → (∀ x, v'.ownBlock = some x → w.heap.size ≤ x) → Fr (fun _ => False) w w' → K v' w') : gi P F.aw [v] w K := by
 rw [M.ax.fcall]
 apply M.ax.calls
 unfold M.ax
 simp only [gm]
 have hs' := hs
 obtain ⟨a, cap, rfl, _⟩ := hs'
 cases a with
 | none =>
  simp
  have hz : l = [] := by
   obtain ⟨a', cap', hv, _, _, h3⟩ := hs
   cases l with
   | nil => rfl
   | cons x l =>
    obtain ⟨b, o, ha, _⟩ := h3 0 x rfl
    injection hv with h1 _ _
    rw [← h1] at ha; cases ha
  subst hz
  exact h w _ Sl.nil (fun x hx => by simp [Value.ownBlock] at hx) (Fr.refl _ _)
 | some a =>
  simp
  have f0 : Fr (fun _ => False) w (w.alloc (.cells #[] T.q)) := (Fr.refl _ w).alloc _
  refine wd et.i arb bds (base := w.heap.size) (Ow.empty (by rw [ik, if_pos rfl]) (Nat.le_refl _)) (hs.fr f0 fun _ _ _ h => h) (by simp; omega) (by decide) (by simp) _ fun v3 w3 o3 f3 g3 => ?_
  rw [List.nil_append] at o3
  exact h w3 v3 (o3.sl arb) (fun x hx => (o3.lt hx).1) (f0.me f3 fun b hb hv => by simp [Value.ownBlock] at hv; omega)
theorem bcj (x y : Mem) (w : World) : (Op.equalIn 10000 T.q (ql x) (ql y)).run P w = .ok (x.id == y.id && (x.inc == y.inc && (x.st == y.st))) w := by
 have hS : P.underlying T.q = some (.struct (P.fieldsOf T.q)) := by kernel_rfl
 have hp : P.stoodInHeld T.q = false := by kernel_rfl
 unfold ql
 rw [show (10000 : Nat) = 9999 + 1 from rfl, run_equalIn_agg w 9999 T.q _ _ hS hp]
 simp only [Program.fieldsOf, show P.underlying T.q = _ from Tryz.underlying139]
 have u22 : P.underlying T.g = some (.int .u64) := by kernel_rfl
 have u3 : P.underlying T.b = some (.int .i64) := by kernel_rfl
 have a22 : ade P T.g = false := by kernel_rfl
 have a3 : ade P T.b = false := by kernel_rfl
 refine eqF (by decide) a22 rfl rfl (run_equalIn_int w 9998 T.g _ _ _ _ u22) ?_
 refine eqF (by decide) a22 rfl rfl (run_equalIn_int w 9998 T.g _ _ _ _ u22) ?_
 have := eqF (fs := []) (d := 9999) (xs := #[.int .u64 x.id, .int .u64 x.inc, .int .i64 x.st]) (ys := #[.int .u64 y.id, .int .u64 y.inc, .int .i64 y.st]) (f := { name := "State", type := T.b, offset := 2, embedded := false, tag := "", pkgPath := "", byteOffset := 16 }) (w := w) (c := true) (by decide) a3 rfl rfl (run_equalIn_int w 9998 T.b _ _ _ _ u3) rfl
 simpa using this
theorem blv (x y : Mem) : (x.id == y.id && (x.inc == y.inc && (x.st == y.st))) = decide (x = y) := by
 obtain ⟨a, b, c⟩ := x
 obtain ⟨a', b', c'⟩ := y
 simp only [Mem.mk.injEq]
 by_cases h1 : a = a' <;> by_cases h2 : b = b' <;> by_cases h3 : c = c' <;> simp [h1, h2, h3]
theorem bco (rx ry : Operand) (x y : Mem) (w : World) (K : KV) : gh P .neq T.q rx ry (ql x) (ql y) w K = K (.bool !(decide (x = y))) w := by
 have hm : P.eqGuardType P.depth T.q = false := by kernel_rfl
 have hg := run_eqGuard_agg (P := P) w .neq T.q rx ry #[.int .u64 x.id, .int .u64 x.inc, .int .i64 x.st] #[.int .u64 y.id, .int .u64 y.inc, .int .i64 y.st] hm
 have he := bcj x y w
 rw [blv] at he
 unfold gh jj
 unfold ql at he ⊢
 rw [Sem.run_bind, hg]
 simp only [Result.andThen]
 rw [run_neq_struct, he]
 rfl
def EmI (W : World) (l1 l2 : List Mem) : KL := fun x w1 => ∃ (u0 u1 : Value) (i : Nat), x = [u0, u1, .int .i64 (i : Nat)] ∧ i ≤ l1.length ∧ (∀ j, j < i → l1[j]? = l2[j]?) ∧ Fr (fun _ => False) W w1
theorem bar {w : World} {v1 v2 : Value} {l1 l2 : List Mem} (s1 : SlM w v1 l1) (s2 : SlM w v2 l2) (hlen : l1.length ≤ 1000000) {K : KV} (h : ∀ w', Fr (fun _ => False) w w' → K (.bool (decide (l1 = l2))) w') : gi P F.bd [v1, v2] w K := by
 rw [M.g.fcall]
 apply M.g.calls
 unfold M.g
 simp only [gm]
 rw [s1.jd (by kernel_rfl), s2.jd (by kernel_rfl)]
 by_cases hne : l1.length = l2.length
 ·simp [hne]
  unfold M.g.j0
  simp only [gm]
  rw [s1.jd (by kernel_rfl)]
  refine ⟨EmI w l1 l2, fun x _ => l1.length - ms x 2, ⟨_, _, 0, rfl, Nat.zero_le _, fun _ h => by omega, Fr.refl _ _⟩, ?_⟩
  rintro x w1 ⟨u0, u1, i, rfl, hi, hz, f1⟩
  have q2 : gv [u0, u1, .int .i64 (i : Nat)] 2 = .int .i64 (i : Nat) := rfl
  have t1 := s1.fr f1 fun _ _ _ h => h
  have t2 := s2.fr f1 fun _ _ _ h => h
  simp only [q2]
  by_cases hil : i < l1.length
  ·have hil' : (i : Int) < l1.length := by omega
   have hil2 : i < l2.length := by omega
   simp [hil']
   unfold M.g.j3
   obtain ⟨b1, o1, cap1, hv1, _, _, e1⟩ := (s1.fr (f1.dr 1) fun _ _ _ h => h).at hil
   obtain ⟨b2, o2, cap2, hv2, _, _, e2⟩ := (s2.fr (f1.dr 1) fun _ _ _ h => h).at hil2
   have hld1 : ∀ K, ldN P 3 b1 (o1 + i * 3) (Eng.dr w1 1) K = K (ql l1[i]) (Eng.dr w1 1) := fun K => ldM e1 K
   have hld2 : ∀ K, ldN P 3 b2 (o2 + i * 3) (Eng.dr w1 1) K = K (ql l2[i]) (Eng.dr w1 1) := fun K => ldM e2 K
   have hwi : IntKind.i64.wrap ((i : Int) + 1) = ((i + 1 : Nat) : Int) := by rw [gy (by omega) (by omega)]; rfl
   subst hv1 hv2
   simp [q2, hil, hil2, hld1, hld2, bco]
   by_cases heq : l1[i] = l2[i]
   ·simp [heq, hwi]
    refine ⟨⟨_, _, i + 1, rfl, by omega, fun j hj => ?_, f1.dr 1⟩, by simp [ms, gv]; omega⟩
    by_cases hji : j = i
    ·subst hji
     rw [List.getElem?_eq_getElem hil, List.getElem?_eq_getElem hil2, heq]
    ·exact hz j (by omega)
   ·simp [heq]
    have hf : decide (l1 = l2) = false := decide_eq_false fun h => heq (by subst h; rfl)
    rw [hf] at h
    exact h _ (f1.dr 1)
  ·have hil' : ¬ (i : Int) < l1.length := by omega
   simp [hil']
   have hf : decide (l1 = l2) = true := decide_eq_true (List.ext_getElem? fun j => by
    by_cases hj : j < i
    ·exact hz j hj
    ·rw [List.getElem?_eq_none (by omega), List.getElem?_eq_none (by omega)])
   rw [hf] at h
   exact h _ f1
 ·have hf : decide (l1 = l2) = false := decide_eq_false fun h => hne (by rw [h])
  rw [hf] at h
  have hne' : ¬ (l1.length : Int) = l2.length := by omega
  simp [hne']
  exact h w (Fr.refl _ _)
theorem asv (v : Value) (w : World) (K : KV) : taT P (.iface T.t v) T.an T.r true w K = K (.tuple #[.agg #[.int .u64 0, .bool false, .slice none 0 0], .bool false]) w := .trans (by kernel_rfl) rfl
theorem ahq (b : Nat) (w : World) (K : KV) : po P T.a (.pointer (some ⟨b, 0, none⟩)) w K = ldN P 11 b 0 w K := .trans (by kernel_rfl) rfl
def aek (v : Value) : List Value := [.int .i64 3, .int .u64 0, .int .u64 0, .int .u64 0, .int .u64 0, .int .u64 0, .int .i64 0, .bool false, .slice none 0 0, v, .slice none 0 0]
theorem bgl {w : World} {b : Nat} {v : Value} {f : Nat × Nat} (h : w.heap[b]? = some (.cells (aek v).toArray T.a f)) (K : KV) : ldN P 11 b 0 w K = K (.agg (aek v).toArray) w :=
 sq (aek v) 11 rfl (fun k u hk => by rw [gq h, Nat.zero_add, List.getElem?_toArray]; exact hk) K
def yz (l : List Mem) : Bool := (rm 0 l && (decide (0 < l.length) && decide (l.length ≤ 16))) && !(l.any pw)
theorem bbe {w : World} {v : Value} {l : List Mem} (hs : SlM w v l) (hlen : l.length ≤ 1000000) {K : KV} (h : ∀ w', Fr (fun _ => False) w w' → K (.bool (yz l)) w') : gi P F.bg [.iface T.t (.agg #[v])] w K := by
 rw [M.p.fcall]
 apply M.p.calls
 unfold M.p
 simp
 have hba : (w.alloc (.cells #[.int .u64 0, .int .u64 0] T.c)).heap[w.heap.size]? = some (.cells #[.int .u64 0, .int .u64 0] T.c (0, 0)) := by rw [ik, if_pos rfl]
 refine jv (vs := [.int .u64 0, .int .u64 0]) hba rfl (by simp) fun w2 b2 f2 => ?_
 have f2' : Fr (fun _ => False) w w2 := ((Fr.refl _ w).alloc _).me f2 fun y hy he => by subst he; omega
 have hs2 := hs.fr f2' fun _ _ _ h => h
 rw [asv]
 obtain ⟨a, c, hv, _⟩ := id hs2
 have hcell : ∀ {w'}, Fr (fun _ => False) w2 w' → SlM w' v l := fun f => hs2.fr f fun _ _ _ h => h
 rw [hv]
 simp
 have hbm : (w2.alloc (.cells #[.slice none 0 0] T.t)).heap[w2.heap.size]? = some (.cells #[.slice none 0 0] T.t (0, 0)) := by rw [ik, if_pos rfl]
 refine jv (vs := [.slice a l.length c]) hbm rfl (by simp) fun w3 b3 f3 => ?_
 have f3' : Fr (fun _ => False) w2 w3 := ((Fr.refl _ w2).alloc _).me f3 fun y hy he => by subst he; omega
 have c0 : gr w3 w2.heap.size 0 = some (.slice a l.length c) := by rw [gq b3]; rfl
 simp [c0]
 rw [← hv]
 refine bhm (hcell f3') hlen fun w4 f4 => ?_
 have c4 : gr w4 w2.heap.size 0 = some (.slice a l.length c) := by rw [gq (f4.heap b3 fun h => h)]; rfl
 unfold yz at h
 generalize (rm 0 l && (decide (0 < l.length) && decide (l.length ≤ 16))) = r at *
 cases r with
 | false =>
  simp
  exact h w4 ((f2'.trans f3').trans f4)
 | true =>
  simp [c4]
  rw [← hv]
  refine apb (hcell (f3'.trans f4)) hlen fun w5 f5 => ?_
  simp
  exact h w5 (((f2'.trans f3').trans f4).trans f5)
theorem ayo {w : World} {v : Value} {l : List Mem} (hs : SlM w v l) (hlen : l.length ≤ 1000000) {K : KV} (h : ∀ w' v', SlM w' v' l → Fr (fun _ => False) w w' → K (.agg (aek v').toArray) w') : gi P F.ax [.iface T.t (.agg #[v])] w K := by
 rw [M.l.fcall]
 apply M.l.calls
 unfold M.l
 simp
 rw [asv]
 generalize hw1 : w.alloc (.cells #[.int .i64 0, .int .u64 0, .int .u64 0, .int .u64 0, .int .u64 0, .int .u64 0, .int .i64 0, .bool false, .slice none 0 0, .slice none 0 0, .slice none 0 0] T.a) = w1
 have hb1 : w1.heap[w.heap.size]? = some (.cells #[.int .i64 0, .int .u64 0, .int .u64 0, .int .u64 0, .int .u64 0, .int .u64 0, .int .i64 0, .bool false, .slice none 0 0, .slice none 0 0, .slice none 0 0] T.a (0, 0)) := by rw [← hw1, ik, if_pos rfl]
 have f1 : Fr (fun _ => False) w w1 := by rw [← hw1]; exact (Fr.refl _ w).alloc _
 have hs1 := hs.fr f1 fun _ _ _ h => h
 obtain ⟨a, c, hv, _⟩ := id hs1
 have hcell : ∀ {w'}, Fr (fun _ => False) w1 w' → SlM w' v l := fun f => hs1.fr f fun _ _ _ h => h
 rw [hv]
 simp
 have hbm : (w1.alloc (.cells #[.slice none 0 0] T.t)).heap[w1.heap.size]? = some (.cells #[.slice none 0 0] T.t (0, 0)) := by rw [ik, if_pos rfl]
 refine jv (vs := [.slice a l.length c]) hbm rfl (by simp) fun w3 b3 f3 => ?_
 have f3' : Fr (fun _ => False) w1 w3 := ((Fr.refl _ w1).alloc _).me f3 fun y hy he => by subst he; omega
 have c0 : gr w3 w1.heap.size 0 = some (.slice a l.length c) := by rw [gq b3]; rfl
 simp [c0]
 rw [← hv]
 refine ana (hcell f3') hlen fun w4 v4 s4 n4 f4 => ?_
 obtain ⟨a4, c4, hv4, _⟩ := id s4
 have hb4 := (f3'.trans f4).heap hb1 fun h => h
 rw [hv4]
 simp
 refine jv (vs := aek (.slice a4 l.length c4)) hb4 rfl (by simp [aek]) fun w5 b5 f5 => ?_
 rw [bgl b5]
 have e : Value.agg (aek (.slice a4 l.length c4)).toArray = .agg #[.int .i64 3, .int .u64 0, .int .u64 0, .int .u64 0, .int .u64 0, .int .u64 0, .int .i64 0, .bool false, .slice none 0 0, .slice a4 l.length c4, .slice none 0 0] := rfl
 rw [e]
 simp
 refine jv (vs := aek (.slice a4 l.length c4)) b5 rfl (by simp [aek]) fun w6 b6 f6 => ?_
 rw [ahq, bgl b6]
 simp
 have hlt1 : w.heap.size < w1.heap.size := (Array.getElem?_eq_some_iff.1 hb1).1
 have hs31 := f3'.size
 have hnn : ∀ b, (Value.slice a4 l.length c4).ownBlock = some b → b ≠ w.heap.size := fun b hb => by
  have := n4 b (by rw [hv4]; exact hb)
  omega
 rw [hv4] at s4
 have s6 : SlM w6 (.slice a4 l.length c4) l := (s4.fr f5 fun b hb _ => hnn b hb).fr f6 fun b hb _ => hnn b hb
 have f46 : Fr (fun _ => False) w w6 := (((f1.trans f3').trans f4).me f5 fun y hy he => by subst he; omega).me f6 fun y hy he => by subst he; omega
 exact h w6 _ s6 f46
end Go.Proofs.YtfnhoaemapheoaaGreat
namespace Go.Eng
end Go.Eng
set_option maxRecDepth 100000
namespace Go.Proofs.YtfnhoaemapheoaaGreat
open Go.Eng
set_option maxRecDepth 100000
end Go.Proofs.YtfnhoaemapheoaaGreat
namespace Go.Eng
end Go.Eng
set_option maxRecDepth 100000
namespace Go.Proofs.YtfnhoaemapheoaaGreat
open Go.Eng
set_option maxRecDepth 100000
abbrev SlS (w : World) (v : Value) (l : List Spn) : Prop := Sl w 8 il v l
def asj (w : World) (b : Nat) (s : Spn) : Prop := w.heap[b]? = some (.cells #[.int .u64 s.iw, .int .u64 s.id, .int .u64 s.qa, .int .u64 s.jn, .int .u64 s.len, .string s.jz, .string s.name, .bool s.ui] T.e (0, 0))
theorem bim (s : Spn) (w : World) (K : KV) : mn P T.e (kr s) w K = K (.pointer (some ⟨w.heap.size, 0, none⟩)) (w.alloc (.cells #[.int .u64 s.iw, .int .u64 s.id, .int .u64 s.qa, .int .u64 s.jn, .int .u64 s.len, .string s.jz, .string s.name, .bool s.ui] T.e)) := by
 rw [wo]; rfl
theorem bem (w : World) (s : Spn) : asj (w.alloc (.cells #[.int .u64 s.iw, .int .u64 s.id, .int .u64 s.qa, .int .u64 s.jn, .int .u64 s.len, .string s.jz, .string s.name, .bool s.ui] T.e)) w.heap.size s := by
 unfold asj; rw [ik, if_pos rfl]
theorem wy {w : World} {b : Nat} {s : Spn} (h : asj w b s) : ∀ k v, (il s)[k]? = some v → gr w b k = some v := fun k v hk => by
 rw [gq h]
 have : (#[.int .u64 s.iw, .int .u64 s.id, .int .u64 s.qa, .int .u64 s.jn, .int .u64 s.len, .string s.jz, .string s.name, .bool s.ui] : Array Value) = (il s).toArray := rfl
 rw [this]; simpa using hk
theorem ldS {w : World} {b i : Nat} {s : Spn} (h : ∀ k v, (il s)[k]? = some v → gr w b (i + k) = some v) (K : KV) : ldN P 8 b i w K = K (kr s) w := sq (il s) 8 rfl h K
theorem abw {w : World} {v : Value} {l : List Spn} (hs : SlS w v l) (hlen : l.length ≤ 1000000) {K : KV} (h : ∀ w' v', SlS w' v' l → (∀ x, v'.ownBlock = some x → w.heap.size ≤ x ∧ x < w'.heap.size) → Fr (fun _ => False) w w' → K v' w') : jy P F.h [v] w K := by
 apply M.i.calls
 unfold M.i
 simp only [gm]
 have hs' := hs
 obtain ⟨a, cap, rfl, _⟩ := hs'
 cases a with
 | none =>
  simp
  have hz : l = [] := by
   obtain ⟨a', cap', hv, _, _, h3⟩ := hs
   cases l with
   | nil => rfl
   | cons x l =>
    obtain ⟨b, o, ha, _⟩ := h3 0 x rfl
    injection hv with h1 _ _
    rw [← h1] at ha; cases ha
  subst hz
  exact h w _ Sl.nil (fun x hx => by simp [Value.ownBlock] at hx) (Fr.refl _ _)
 | some a =>
  simp
  have f0 : Fr (fun _ => False) w (w.alloc (.cells #[] T.e)) := (Fr.refl _ w).alloc _
  refine wd et.f lx nv (base := w.heap.size) (Ow.empty (by rw [ik, if_pos rfl]) (Nat.le_refl _)) (hs.fr f0 fun _ _ _ h => h) (by simp; omega) (by decide) (by simp) _ fun v3 w3 o3 f3 g3 => ?_
  rw [List.nil_append] at o3
  exact h w3 v3 (o3.sl lx) (fun x hx => o3.lt hx) (f0.me f3 fun b hb hv => by simp [Value.ownBlock] at hv; omega)
def og (k : Int) : List Value := [.int .u64 k]
theorem ux (p : Int) : (og p).length = 1 := rfl
theorem apk (p : Int) : ∀ u ∈ og p, ke u = true := fun u hu => by
 simp only [og, List.mem_cons, List.not_mem_nil, or_false] at hu
 subst hu; rfl
abbrev SlU (w : World) (v : Value) (l : List Int) : Prop := Sl w 1 og v l
abbrev OwU (w : World) (base : Nat) (v : Value) (l : List Int) : Prop := Ow w base T.g 1 og v l
theorem adn {w : World} {v : Value} {l : List Int} (h : SlU w v l) {i : Nat} (hi : i < l.length) : ∃ b o cap, v = .slice (some ⟨b, o, none⟩) l.length cap ∧ b < w.heap.size ∧ gr w b (o + i) = some (.int .u64 l[i]) := by
 obtain ⟨b, o, cap, hv, hb, _, hr⟩ := h.at hi
 have := hr 0 _ rfl
 simp only [Nat.mul_one, Nat.add_zero] at this
 exact ⟨b, o, cap, hv, hb, this⟩
def vt (x y : Spn) : Bool := x.iw == y.iw && (x.id == y.id && (x.qa == y.qa && (x.jn == y.jn && (x.len == y.len && (x.jz.toList == y.jz.toList && (x.name.toList == y.name.toList && (x.ui == y.ui)))))))
theorem awi (x : Spn) : vt x x = true := by simp [vt]
theorem ayp (x y : Spn) (w : World) : (Op.equalIn 10000 T.e (kr x) (kr y)).run P w = .ok (vt x y) w := by
 have hS : P.underlying T.e = some (.struct (P.fieldsOf T.e)) := by kernel_rfl
 have hp : P.stoodInHeld T.e = false := by kernel_rfl
 unfold kr
 rw [show (10000 : Nat) = 9999 + 1 from rfl, run_equalIn_agg w 9999 T.e _ _ hS hp]
 have u22 : P.underlying 35 = some (.int .u64) := Tryz.underlying35
 have u9 : P.underlying 9 = some .string := Tryz.underlying9
 have u4 : P.underlying 4 = some .bool := Tryz.underlying4
 simp only [Program.fieldsOf, show P.underlying T.e = _ from Tryz.underlying85]
 have a22 : ade P 35 = false := by kernel_rfl
 have a9 : ade P 9 = false := by kernel_rfl
 have a4 : ade P 4 = false := by kernel_rfl
 unfold vt
 refine eqF (by decide) a22 rfl rfl (run_equalIn_int w 9998 35 _ _ _ _ u22) ?_
 refine eqF (by decide) a22 rfl rfl (run_equalIn_int w 9998 35 _ _ _ _ u22) ?_
 refine eqF (by decide) a22 rfl rfl (run_equalIn_int w 9998 35 _ _ _ _ u22) ?_
 refine eqF (by decide) a22 rfl rfl (run_equalIn_int w 9998 35 _ _ _ _ u22) ?_
 refine eqF (by decide) a22 rfl rfl (run_equalIn_int w 9998 35 _ _ _ _ u22) ?_
 refine eqF (by decide) a9 rfl rfl (run_equalIn_string w 9998 9 _ _ u9) ?_
 refine eqF (by decide) a9 rfl rfl (run_equalIn_string w 9998 9 _ _ u9) ?_
 have := eqF (fs := []) (d := 9999) (xs := #[.int .u64 x.iw, .int .u64 x.id, .int .u64 x.qa, .int .u64 x.jn, .int .u64 x.len, .string x.jz, .string x.name, .bool x.ui]) (ys := #[.int .u64 y.iw, .int .u64 y.id, .int .u64 y.qa, .int .u64 y.jn, .int .u64 y.len, .string y.jz, .string y.name, .bool y.ui]) (f := { name := "Fail", type := 4, offset := 7, embedded := false, tag := "", pkgPath := "", byteOffset := 72 }) (w := w) (c := true) (by decide) a4 rfl rfl (run_equalIn_bool' w 9998 4 _ _ u4) rfl
 simpa using this
theorem ami (rx ry : Operand) (x y : Spn) (w : World) (K : KV) : gh P .neq T.e rx ry (kr x) (kr y) w K = K (.bool !(vt x y)) w := by
 have hm : P.eqGuardType P.depth T.e = false := by kernel_rfl
 have hg := run_eqGuard_agg (P := P) w .neq T.e rx ry #[.int .u64 x.iw, .int .u64 x.id, .int .u64 x.qa, .int .u64 x.jn, .int .u64 x.len, .string x.jz, .string x.name, .bool x.ui] #[.int .u64 y.iw, .int .u64 y.id, .int .u64 y.qa, .int .u64 y.jn, .int .u64 y.len, .string y.jz, .string y.name, .bool y.ui] hm
 have he := ayp x y w
 unfold gh jj
 unfold kr at he ⊢
 rw [Sem.run_bind, hg]
 simp only [Result.andThen]
 rw [run_neq_struct, he]
 rfl
def bjb (w : World) (l1 l2 : List Spn) : KL := fun x w1 => ∃ (a : Value) (i : Nat), x = [a, .int .i64 (i : Nat)] ∧ i ≤ l1.length ∧ (∀ j (h1 : j < l1.length) (h2 : j < l2.length), j < i → vt l1[j] l2[j] = true) ∧ Fr (fun _ => False) w w1
end Go.Proofs.YtfnhoaemapheoaaGreat
set_option maxRecDepth 100000
namespace Go.Proofs.YtfnhoaemapheoaaGreat.CB
open Go.Eng
theorem amf {w : World} {n : Nat} (hn : n ≤ 1000000000) {K : KV} (h : ∀ w' v, Ow w' w.heap.size T.al 1 aeu v [] → Fr (fun _ => False) w w' → K v w') :
  jy P F.cj [.slice none 0 0, .int .i64 n] w K := by
 apply M.bf.calls
 unfold M.bf
 have hneg : ¬ (n : Int) < 0 := by omega
 simp [hneg]
 unfold M.bf.j0
 have hsl : ni P T.d = true := by kernel_rfl
 have w0 : IntKind.i64.wrap 0 = 0 := by decide
 have wn : IntKind.i64.wrap (n : Int) = n := gy (by omega) (by omega)
 rw [gm, ako hsl, xl hsl]
 simp only [la, qj]
 have e1 : IntKind.i64.wrap ((n : Int) - IntKind.i64.wrap (((0 : Nat) : Int) - ((0 : Nat) : Int))) = n := by
  rw [show ((0 : Nat) : Int) - ((0 : Nat) : Int) = 0 from by omega, w0, Int.sub_zero, wn]
 rw [e1]
 by_cases h0 : 0 < n
 ·have h0' : (0 : Int) < n := by omega
  simp only [h0', decide_true, Eng.cond_true]
  rw [ako hsl, yv (i := 0) (j := 0) hsl (.inl ⟨rfl, rfl⟩) (.inr ⟨.i64, rfl⟩) (Nat.le_refl _) (Nat.le_refl _)]
  refine bbu (enc := aeu) et.d (kn := .i64) (by kernel_rfl) h0 hn (by decide) _ fun w' cap hc o f => ?_
  rw [xl hsl, yv (i := 0) (j := 0) hsl (.inl ⟨rfl, rfl⟩) (.inr ⟨.i64, rfl⟩) (Nat.le_refl _) (Nat.zero_le _)]
  rw [if_neg (by omega)]
  have := h w' _ o f
  simpa [Addr.add, gv] using this
 ·have h0' : ¬ (0 : Int) < n := by omega
  simp only [h0', decide_false, Eng.cond_false]
  exact h w _ Ow.none (Fr.refl _ _)
abbrev Sls (w : World) (v : Value) (l : List Int) : Prop := Sl w 1 aeu v l
abbrev Ows (w : World) (base : Nat) (v : Value) (l : List Int) : Prop := Ow w base T.al 1 aeu v l
def tot (L : List (Value × List Int)) : Nat := (L.map fun p => p.2.length).sum
theorem abv {L : List (Value × List Int)} {i : Nat} (hi : i < L.length) : tot (L.take (i + 1)) = tot (L.take i) + L[i].2.length := by
 unfold tot
 rw [List.take_succ_eq_append_getElem hi, List.map_append, List.sum_append]; simp
theorem afs {L : List (Value × List Int)} (i : Nat) : tot (L.take i) ≤ tot L := by
 unfold tot
 conv => rhs; rw [← List.take_append_drop i L, List.map_append, List.sum_append]
 omega
theorem aji (L : List (Value × List Int)) : (L.flatMap (·.2)).length = tot L := by
 unfold tot
 induction L with
 | nil => rfl
 | cons p L ih => simp [ih]
def CaI (w : World) (L : List (Value × List Int)) : KL := fun x w1 => ∃ (u : Value) (i : Nat), x = [u, .int .i64 (tot (L.take i) : Nat), .int .i64 (i : Nat)] ∧ w1 = w ∧ i ≤ L.length
def CbI (w : World) (L : List (Value × List Int)) : KL := fun x w1 => ∃ (u v : Value) (i : Nat), x = [u, v, .int .i64 (i : Nat)] ∧ i ≤ L.length ∧ Fr (fun _ => False) w w1 ∧ Ows w1 w.heap.size v ((L.take i).flatMap (·.2))
theorem aag {w : World} {b cap : Nat} {L : List (Value × List Int)} {e : TypeId} (hb : w.heap[b]? = some (.cells (L.map (·.1)).toArray e (0, 0))) (hs : ∀ p ∈ L, Sls w p.1 p.2) (ht : tot L ≤ 100000000) (hL : L.length ≤ 1000) {K : KV}
  (h : ∀ w' v, Ows w' w.heap.size v (L.flatMap (·.2)) → Fr (fun _ => False) w w' → K v w') : jy P F.ar [.slice (some ⟨b, 0, none⟩) L.length cap] w K := by
 apply M.j.calls
 unfold M.j
 have hss : ni P T.l = true := by kernel_rfl
 have hsl : ni P T.d = true := by kernel_rfl
 have q0 : ∀ a b c : Value, gv [a, b, c] 0 = a := fun _ _ _ => rfl
 have q1 : ∀ a b c : Value, gv [a, b, c] 1 = b := fun _ _ _ => rfl
 have q2 : ∀ a b c : Value, gv [a, b, c] 2 = c := fun _ _ _ => rfl
 have q4 : ∀ a b c d e : Value, gv [a, b, c, d, e] 4 = e := fun _ _ _ _ _ => rfl
 have cell : ∀ (w' : World), Fr (fun _ => False) w w' → ∀ (i : Nat) (hi : i < L.length), gr w' b i = some L[i].1 := fun w' f i hi => by
  rw [gq (f.heap hb fun h => h)]
  simp [hi]
 rw [gm, xl hss]
 refine ⟨CaI w L, fun x _ => L.length - ms x 2, ⟨_, 0, rfl, rfl, Nat.zero_le _⟩, ?_⟩
 rintro x w1 ⟨u, i, rfl, rfl, hi⟩
 simp only [q0, q1, q2, kz, gm]
 by_cases hil : i < L.length
 ·have hil' : (i : Int) < L.length := by omega
  simp only [hil', decide_true, Eng.cond_true]
  unfold M.j.j2
  have hwi : IntKind.i64.wrap ((i : Int) + 1) = ((i + 1 : Nat) : Int) := by rw [gy (by omega) (by omega)]; rfl
  have c0 := cell w1 (Fr.refl _ _) i hil
  have hsi := hs L[i] (List.getElem_mem hil)
  obtain ⟨a', cap', hv', _⟩ := hsi
  have htt := abv hil
  have hle := afs (L := L) (i + 1)
  have hwt : IntKind.i64.wrap ((tot (L.take i) : Int) + (L[i].2.length : Int)) = ((tot (L.take (i + 1)) : Nat) : Int) := by rw [gy (by omega) (by omega)]; omega
  have hng : ¬ ((tot (L.take (i + 1)) : Nat) : Int) < 0 := by omega
  simp only [q0, q1, q2, gm]
  simp [hil, c0, hv', hwt, hwi, -Int.natCast_add]
  refine ⟨⟨_, i + 1, rfl, rfl, by omega⟩, ?_⟩
  simp [ms, gv]; omega
 ·have hie : i = L.length := by omega
  have hil' : ¬ (i : Int) < L.length := by omega
  simp only [hil', decide_false, Eng.cond_false]
  have htk : L.take i = L := List.take_of_length_le (by omega)
  rw [htk]
  unfold M.j.j0
  simp only [q4]
  rw [M.bf.fcall]
  refine amf (by omega) fun w2 v2 o2 f2 => ?_
  rw [gm, xl hss]
  refine ⟨CbI w1 L, fun x _ => L.length - ms x 2, ⟨_, v2, 0, rfl, Nat.zero_le _, f2, o2⟩, ?_⟩
  rintro x w3 ⟨u', v, j, rfl, hj, f3, o3⟩
  simp only [q0, q1, q2, kz, gm]
  by_cases hjl : j < L.length
  ·have hjl' : (j : Int) < L.length := by omega
   simp only [hjl', decide_true, Eng.cond_true]
   unfold M.j.j6
   have hwj : IntKind.i64.wrap ((j : Int) + 1) = ((j + 1 : Nat) : Int) := by rw [gy (by omega) (by omega)]; rfl
   have c0 := cell w3 f3 j hjl
   have hsj := (hs L[j] (List.getElem_mem hjl)).fr f3 fun _ _ _ h => h
   have hl1 : ((L.take j).flatMap (·.2)).length = tot (L.take j) := aji _
   have htt := abv hjl
   have hle := afs (L := L) (j + 1)
   simp only [q0, q1, q2, gm]
   simp [hjl, c0, -List.length_flatMap]
   have hge := f3.size
   refine wd et.d jp wi o3 hsj (by rw [hl1]; omega) (by decide) hge _ fun v' w4 o4 f4 g4 => ?_
   simp only [hwj]
   refine ⟨⟨_, v', j + 1, rfl, by omega, f3.me f4 fun x hx he => by have := (o3.lt he).1; omega, ?_⟩, ?_⟩
   ·rw [List.take_succ_eq_append_getElem hjl, List.flatMap_append]
    simpa using o4
   ·simp [ms, gv]; omega
  ·have hjl' : ¬ (j : Int) < L.length := by omega
   simp only [hjl', decide_false, Eng.cond_false, q4]
   have htj : L.take j = L := List.take_of_length_le (by omega)
   rw [htj] at o3
   exact h w3 v o3 f3
end Go.Proofs.YtfnhoaemapheoaaGreat.CB
set_option maxRecDepth 100000
namespace Go.Proofs.YtfnhoaemapheoaaGreat
open Go.Eng
class SD where
 k : IntKind
 el : TypeId
 sl : TypeId
 awn : FuncId
 bei : FuncId
 bcs : FuncId
 axk : FuncId
 axr : FuncId
 axf : FuncId
 bfp : FuncId
 awg : FuncId
 bdr : FuncId
 bdz : FuncId
 beg : FuncId
 awq : FuncId
 bdn : FuncId
 bfa : FuncId
 bcx : FuncId
 axa : FuncId
abbrev T.ai [SD] : TypeId := SD.el
abbrev T.aj [SD] : TypeId := SD.sl
abbrev F.dg [SD] : FuncId := SD.awn
abbrev F.fw [SD] : FuncId := SD.bei
abbrev F.fx [SD] : FuncId := SD.bcs
abbrev F.fp [SD] : FuncId := SD.axk
abbrev F.ft [SD] : FuncId := SD.axr
abbrev F.fu [SD] : FuncId := SD.axf
abbrev F.fy [SD] : FuncId := SD.bfp
abbrev F.fv [SD] : FuncId := SD.awg
abbrev F.fz [SD] : FuncId := SD.bdr
abbrev F.fq [SD] : FuncId := SD.bdz
abbrev F.fr [SD] : FuncId := SD.beg
abbrev F.fm [SD] : FuncId := SD.awq
abbrev F.ga [SD] : FuncId := SD.bdn
abbrev F.gb [SD] : FuncId := SD.bfa
abbrev F.fs [SD] : FuncId := SD.bcx
abbrev F.gc [SD] : FuncId := SD.axa
def M.dp [SD] (a0 a1 : Value) : QQ := fun w K =>  gi P F.fw [a0] w fun t6 w => gg (isB t6 true) (fun K' => K' a1 w) w fun t8 w => gg (isB t6 true) (gi P F.fw [t8] w) w fun t9 w => gg (isB t6 true) (unT P .not t9 w) w fun t10 w => ia t6 t10 (.bool false) w fun t11 w => gg (isB t11 false) (fun K' => K' a0 w) w fun t13 w => gg (isB t11 false) (fun K' => K' a1 w) w fun t14 w => gg (isB t11 false) (gh P .lss T.ai (.tmp 13) (.tmp 14) t13 t14 w) w fun t15 w => ia t11 (.bool true) t15 w fun t16 w => K t16 w
def M.ei [SD] (a0 : Value) : QQ := fun w K =>  gh P .neq T.ai (.tmp 3) (.tmp 4) a0 a0 w fun t5 w => K t5 w
def M.cm.j4 [SD] (x3 : List Value) (a0 : Value) (K3 : KL) : QQ := fun w K =>  gj (fun K5 => iz w fun w => w = w ∧ w = w ∧ w = w ∧ w = w ∧ ge (gh P .sub T.b (.tmp 36) (.const (.int .i64 1)) (gv x3 0) (.int .i64 1) w) w fun t37 => w = w ∧ w = w ∧ ge (gh P .sub T.b (.tmp 39) (.const (.int .i64 1)) (gv x3 0) (.int .i64 1) w) w fun t40 => ge (iaT P T.aj a0 t40 w) w fun t41 => ge (ldT P T.ai t41 w) w fun t42 => w = w ∧ w = w ∧ ge (iaT P T.aj a0 (gv x3 0) w) w fun t45 => ge (ldT P T.ai t45 w) w fun t46 => ge (iaT P T.aj a0 (gv x3 0) w) w fun t47 => stT P T.ai t47 t42 w fun _ w => gp (gh P .sub T.b (.tmp 36) (.const (.int .i64 1)) (gv x3 0) (.int .i64 1) w) w t37 ∧ gp (fun K' => K' (gv x3 0) w) w (gv x3 0) ∧ gp (fun K' => K' a0 w) w a0 ∧ ge (iaT P T.aj a0 t37 w) w fun t48 => stT P T.ai t48 t46 w fun _ w => K5 [] w) fun x5 w => gh P .sub T.b (.tmp 31) (.const (.int .i64 1)) (gv x3 0) (.int .i64 1) w fun t32 w => K3 [t32] w
def M.cm.j3 [SD] (x3 : List Value) (a1 a0 : Value) (K2 K3 : KL) : QQ := fun w K =>  gj (fun K4 => iz w fun w => w = w ∧ w = w ∧ ge (gh P .gtr T.b (.tmp 16) (.tmp 17) (gv x3 0) a1 w) w fun t18 => w = w ∧ ge (fun K' => gg (isB t18 true) (fun K' => K' a0 w) w K') w fun t20 => ge (fun K' => gg (isB t18 true) (fun K' => K' (gv x3 0) w) w K') w fun t21 => ge (gg (isB t18 true) (iaT P T.aj t20 t21 w) w) w fun t22 => ge (gg (isB t18 true) (ldT P T.ai t22 w) w) w fun t23 => ge (fun K' => gg (isB t18 true) (fun K' => K' a0 w) w K') w fun t24 => ge (fun K' => gg (isB t18 true) (fun K' => K' (gv x3 0) w) w K') w fun t25 => ge (gg (isB t18 true) (gh P .sub T.b (.tmp 25) (.const (.int .i64 1)) t25 (.int .i64 1) w) w) w fun t26 => ge (gg (isB t18 true) (iaT P T.aj t24 t26 w) w) w fun t27 => ge (gg (isB t18 true) (ldT P T.ai t27 w) w) w fun t28 => gg (isB t18 true) (gi P F.dg [t23, t28] w) w fun t29 w => ge (ia t18 t29 (.bool false) w) w fun t30 => gk t30 ( K4 [] w) ( K2 [(gv x3 0)] w)) fun x4 w => M.cm.j4 x3 a0 K3 w K
def M.cm.j0 [SD] (x0 : List Value) (a2 a1 a0 : Value) (K0 : KL) : QQ := fun w K =>  gj (fun K1 => gh P .lss T.b (.tmp 10) (.tmp 11) (gv x0 1) a2 w fun t12 w => gk t12 ( K1 [] w) ( K (.tuple #[]) w)) fun x1 w => gj (fun K2 => jb [(gv x0 1)] w fun K3 x3 w => M.cm.j3 x3 a1 a0 K2 K3 w K) fun x2 w => gh P .add T.b (.tmp 13) (.const (.int .i64 1)) (gv x0 1) (.int .i64 1) w fun t14 w => K0 [(gv x2 0), t14] w
def M.cm [SD] (a0 a1 a2 : Value) : QQ := fun w K =>  gh P .add T.b (.tmp 8) (.const (.int .i64 1)) a1 (.int .i64 1) w fun t9 w => jb [undef, t9] w fun K0 x0 w => M.cm.j0 x0 a2 a1 a0 K0 w K
def M.bt.j3 [SD] (a3 : Value) (x0 x2 : List Value) (a0 : Value) (K0 : KL) : QQ := fun w K =>  iz w fun w => w = w ∧ w = w ∧ w = w ∧ ge (gh P .add T.b (.tmp 54) (.tmp 55) a3 (gv x0 1) w) w fun t56 => w = w ∧ w = w ∧ w = w ∧ ge (gh P .add T.b (.tmp 58) (.tmp 59) a3 (gv x2 0) w) w fun t60 => w = w ∧ w = w ∧ w = w ∧ ge (gh P .add T.b (.tmp 62) (.tmp 63) a3 (gv x2 0) w) w fun t64 => ge (iaT P T.aj a0 t64 w) w fun t65 => ge (ldT P T.ai t65 w) w fun t66 => w = w ∧ w = w ∧ w = w ∧ ge (gh P .add T.b (.tmp 68) (.tmp 69) a3 (gv x0 1) w) w fun t70 => ge (iaT P T.aj a0 t70 w) w fun t71 => ge (ldT P T.ai t71 w) w fun t72 => ge (iaT P T.aj a0 t56 w) w fun t73 => stT P T.ai t73 t66 w fun _ w => gp (gh P .add T.b (.tmp 58) (.tmp 59) a3 (gv x2 0) w) w t60 ∧ gp (fun K' => K' (gv x2 0) w) w (gv x2 0) ∧ gp (fun K' => K' a3 w) w a3 ∧ gp (fun K' => K' a0 w) w a0 ∧ ge (iaT P T.aj a0 t60 w) w fun t74 => stT P T.ai t74 t72 w fun _ w => K0 [(gv x2 0), (gv x2 0)] w
def M.bt.j2 [SD] (a3 : Value) (x0 : List Value) (a0 : Value) (x2 : List Value) (K0 : KL) : QQ := fun w K =>  gj (fun K3 => iz w fun w => w = w ∧ w = w ∧ w = w ∧ ge (gh P .add T.b (.tmp 40) (.tmp 41) a3 (gv x0 1) w) w fun t42 => ge (iaT P T.aj a0 t42 w) w fun t43 => ge (ldT P T.ai t43 w) w fun t44 => w = w ∧ w = w ∧ w = w ∧ ge (gh P .add T.b (.tmp 46) (.tmp 47) a3 (gv x2 0) w) w fun t48 => ge (iaT P T.aj a0 t48 w) w fun t49 => ge (ldT P T.ai t49 w) w fun t50 => gi P F.dg [t44, t50] w fun t51 w => ge (unT P .not t51 w) w fun t52 => gk t52 ( K (.tuple #[]) w) ( K3 [] w)) fun x3 w => M.bt.j3 a3 x0 x2 a0 K0 w K
def M.bt.j1 [SD] (t13 a2 a0 a3 : Value) (x0 : List Value) (K0 : KL) : QQ := fun w K =>  gj (fun K2 => iz w fun w => w = w ∧ ge (gh P .add T.b (.tmp 17) (.const (.int .i64 1)) t13 (.int .i64 1) w) w fun t18 => w = w ∧ ge (gh P .lss T.b (.tmp 18) (.tmp 19) t18 a2 w) w fun t20 => w = w ∧ ge (fun K' => gg (isB t20 true) (fun K' => K' a0 w) w K') w fun t22 => ge (fun K' => gg (isB t20 true) (fun K' => K' a3 w) w K') w fun t23 => ge (fun K' => gg (isB t20 true) (fun K' => K' t13 w) w K') w fun t24 => ge (gg (isB t20 true) (gh P .add T.b (.tmp 23) (.tmp 24) t23 t24 w) w) w fun t25 => ge (gg (isB t20 true) (iaT P T.aj t22 t25 w) w) w fun t26 => ge (gg (isB t20 true) (ldT P T.ai t26 w) w) w fun t27 => ge (fun K' => gg (isB t20 true) (fun K' => K' a0 w) w K') w fun t28 => ge (fun K' => gg (isB t20 true) (fun K' => K' a3 w) w K') w fun t29 => ge (fun K' => gg (isB t20 true) (fun K' => K' t13 w) w K') w fun t30 => ge (gg (isB t20 true) (gh P .add T.b (.tmp 29) (.tmp 30) t29 t30 w) w) w fun t31 => ge (gg (isB t20 true) (gh P .add T.b (.tmp 31) (.const (.int .i64 1)) t31 (.int .i64 1) w) w) w fun t32 => ge (gg (isB t20 true) (iaT P T.aj t28 t32 w) w) w fun t33 => ge (gg (isB t20 true) (ldT P T.ai t33 w) w) w fun t34 => gg (isB t20 true) (gi P F.dg [t27, t34] w) w fun t35 w => ge (ia t20 t35 (.bool false) w) w fun t36 => gk t36 ( gh P .add T.b (.tmp 37) (.const (.int .i64 1)) t13 (.int .i64 1) w fun t38 w => K2 [t38] w) ( K2 [t13] w)) fun x2 w => M.bt.j2 a3 x0 a0 x2 K0 w K
def M.bt.j0 [SD] (x0 : List Value) (a2 a0 a3 : Value) (K0 : KL) : QQ := fun w K =>  gh P .mul T.b (.const (.int .i64 2)) (.tmp 11) (.int .i64 2) (gv x0 1) w fun t12 w => gh P .add T.b (.tmp 12) (.const (.int .i64 1)) t12 (.int .i64 1) w fun t13 w => gj (fun K1 => gh P .geq T.b (.tmp 14) (.tmp 15) t13 a2 w fun t16 w => gk t16 ( K (.tuple #[]) w) ( K1 [] w)) fun x1 w => M.bt.j1 t13 a2 a0 a3 x0 K0 w K
def M.bt [SD] (a0 a1 a2 a3 : Value) : QQ := fun w K =>  jb [undef, a1] w fun K0 x0 w => M.bt.j0 x0 a2 a0 a3 K0 w K
def M.cj.j1 [SD] (x1 : List Value) (K0 : KL) (a0 t14 a1 : Value) (K1 : KL) : QQ := fun w K =>  gj (fun K2 => gh P .geq T.b (.tmp 18) (.const (.int .i64 0)) (gv x1 0) (.int .i64 0) w fun t19 w => gk t19 ( K2 [] w) ( K0 [(gv x1 0)] w)) fun x2 w => gj (fun K3 => gi P F.fp [a0, (gv x1 0), t14, a1] w fun t26 w => K3 [] w) fun x3 w => gh P .sub T.b (.tmp 20) (.const (.int .i64 1)) (gv x1 0) (.int .i64 1) w fun t21 w => K1 [t21] w
def M.cj.j5 [SD] (a1 : Value) (x4 : List Value) (a0 : Value) (K4 : KL) : QQ := fun w K =>  gj (fun K6 => iz w fun w => w = w ∧ w = w ∧ w = w ∧ w = w ∧ w = w ∧ ge (gh P .add T.b (.tmp 36) (.tmp 37) a1 (gv x4 0) w) w fun t38 => w = w ∧ w = w ∧ w = w ∧ ge (gh P .add T.b (.tmp 40) (.tmp 41) a1 (gv x4 0) w) w fun t42 => ge (iaT P T.aj a0 t42 w) w fun t43 => ge (ldT P T.ai t43 w) w fun t44 => w = w ∧ w = w ∧ ge (iaT P T.aj a0 a1 w) w fun t47 => ge (ldT P T.ai t47 w) w fun t48 => ge (iaT P T.aj a0 a1 w) w fun t49 => stT P T.ai t49 t44 w fun _ w => gp (gh P .add T.b (.tmp 36) (.tmp 37) a1 (gv x4 0) w) w t38 ∧ gp (fun K' => K' (gv x4 0) w) w (gv x4 0) ∧ gp (fun K' => K' a1 w) w a1 ∧ gp (fun K' => K' a0 w) w a0 ∧ ge (iaT P T.aj a0 t38 w) w fun t50 => stT P T.ai t50 t48 w fun _ w => gi P F.fp [a0, (.int .i64 0), (gv x4 0), a1] w fun t55 w => K6 [] w) fun x6 w => gh P .sub T.b (.tmp 31) (.const (.int .i64 1)) (gv x4 0) (.int .i64 1) w fun t32 w => K4 [t32] w
def M.cj.j0 [SD] (t14 a1 a0 : Value) : QQ := fun w K =>  gh P .sub T.b (.tmp 27) (.const (.int .i64 1)) t14 (.int .i64 1) w fun t28 w => jb [t28] w fun K4 x4 w => gj (fun K5 => gh P .geq T.b (.tmp 29) (.const (.int .i64 0)) (gv x4 0) (.int .i64 0) w fun t30 w => gk t30 ( K5 [] w) ( K (.tuple #[]) w)) fun x5 w => M.cj.j5 a1 x4 a0 K4 w K
def M.cj [SD] (a0 a1 a2 : Value) : QQ := fun w K =>  gh P .sub T.b (.tmp 12) (.tmp 13) a2 a1 w fun t14 w => gj (fun K0 => gh P .sub T.b (.tmp 15) (.const (.int .i64 1)) t14 (.int .i64 1) w fun t16 w => gh P .quo T.b (.tmp 16) (.const (.int .i64 2)) t16 (.int .i64 2) w fun t17 w => jb [t17] w fun K1 x1 w => M.cj.j1 x1 K0 a0 t14 a1 K1 w K) fun x0 w => M.cj.j0 t14 a1 a0 w K
def M.aq.j1 [SD] (x1 : List Value) (t29 a0 a1 : Value) (K0 K1 : KL) : QQ := fun w K =>  gj (fun K2 => iz w fun w => w = w ∧ w = w ∧ ge (gh P .leq T.b (.tmp 30) (.tmp 31) (gv x1 0) t29 w) w fun t32 => w = w ∧ ge (fun K' => gg (isB t32 true) (fun K' => K' a0 w) w K') w fun t34 => ge (fun K' => gg (isB t32 true) (fun K' => K' (gv x1 0) w) w K') w fun t35 => ge (gg (isB t32 true) (iaT P T.aj t34 t35 w) w) w fun t36 => ge (gg (isB t32 true) (ldT P T.ai t36 w) w) w fun t37 => ge (fun K' => gg (isB t32 true) (fun K' => K' a0 w) w K') w fun t38 => ge (fun K' => gg (isB t32 true) (fun K' => K' a1 w) w K') w fun t39 => ge (gg (isB t32 true) (iaT P T.aj t38 t39 w) w) w fun t40 => ge (gg (isB t32 true) (ldT P T.ai t40 w) w) w fun t41 => gg (isB t32 true) (gi P F.dg [t37, t41] w) w fun t42 w => ge (ia t32 t42 (.bool false) w) w fun t43 => gk t43 ( K2 [] w) ( K0 [(gv x1 0)] w)) fun x2 w => gh P .add T.b (.tmp 44) (.const (.int .i64 1)) (gv x1 0) (.int .i64 1) w fun t45 w => K1 [t45] w
def M.aq.j4 [SD] (x0 x4 : List Value) (a0 a1 : Value) (K3 K4 : KL) : QQ := fun w K =>  gj (fun K5 => iz w fun w => w = w ∧ w = w ∧ ge (gh P .leq T.b (.tmp 46) (.tmp 47) (gv x0 0) (gv x4 0) w) w fun t48 => w = w ∧ ge (fun K' => gg (isB t48 true) (fun K' => K' a0 w) w K') w fun t50 => ge (fun K' => gg (isB t48 true) (fun K' => K' (gv x4 0) w) w K') w fun t51 => ge (gg (isB t48 true) (iaT P T.aj t50 t51 w) w) w fun t52 => ge (gg (isB t48 true) (ldT P T.ai t52 w) w) w fun t53 => ge (fun K' => gg (isB t48 true) (fun K' => K' a0 w) w K') w fun t54 => ge (fun K' => gg (isB t48 true) (fun K' => K' a1 w) w K') w fun t55 => ge (gg (isB t48 true) (iaT P T.aj t54 t55 w) w) w fun t56 => ge (gg (isB t48 true) (ldT P T.ai t56 w) w) w fun t57 => gg (isB t48 true) (gi P F.dg [t53, t57] w) w fun t58 w => ge (gg (isB t48 true) (unT P .not t58 w) w) w fun t59 => ge (ia t48 t59 (.bool false) w) w fun t60 => gk t60 ( K5 [] w) ( K3 [(gv x4 0)] w)) fun x5 w => gh P .sub T.b (.tmp 61) (.const (.int .i64 1)) (gv x4 0) (.int .i64 1) w fun t62 w => K4 [t62] w
def M.aq.j10 [SD] (x10 x8 : List Value) (a0 a1 : Value) (K9 K10 : KL) : QQ := fun w K =>  gj (fun K11 => iz w fun w => w = w ∧ w = w ∧ ge (gh P .leq T.b (.tmp 99) (.tmp 100) (gv x10 0) (gv x8 1) w) w fun t101 => w = w ∧ ge (fun K' => gg (isB t101 true) (fun K' => K' a0 w) w K') w fun t103 => ge (fun K' => gg (isB t101 true) (fun K' => K' (gv x10 0) w) w K') w fun t104 => ge (gg (isB t101 true) (iaT P T.aj t103 t104 w) w) w fun t105 => ge (gg (isB t101 true) (ldT P T.ai t105 w) w) w fun t106 => ge (fun K' => gg (isB t101 true) (fun K' => K' a0 w) w K') w fun t107 => ge (fun K' => gg (isB t101 true) (fun K' => K' a1 w) w K') w fun t108 => ge (gg (isB t101 true) (iaT P T.aj t107 t108 w) w) w fun t109 => ge (gg (isB t101 true) (ldT P T.ai t109 w) w) w fun t110 => gg (isB t101 true) (gi P F.dg [t106, t110] w) w fun t111 w => ge (ia t101 t111 (.bool false) w) w fun t112 => gk t112 ( K11 [] w) ( K9 [(gv x10 0)] w)) fun x11 w => gh P .add T.b (.tmp 113) (.const (.int .i64 1)) (gv x10 0) (.int .i64 1) w fun t114 w => K10 [t114] w
def M.aq.j13 [SD] (x9 x13 : List Value) (a0 a1 : Value) (K12 K13 : KL) : QQ := fun w K =>  gj (fun K14 => iz w fun w => w = w ∧ w = w ∧ ge (gh P .leq T.b (.tmp 115) (.tmp 116) (gv x9 0) (gv x13 0) w) w fun t117 => w = w ∧ ge (fun K' => gg (isB t117 true) (fun K' => K' a0 w) w K') w fun t119 => ge (fun K' => gg (isB t117 true) (fun K' => K' (gv x13 0) w) w K') w fun t120 => ge (gg (isB t117 true) (iaT P T.aj t119 t120 w) w) w fun t121 => ge (gg (isB t117 true) (ldT P T.ai t121 w) w) w fun t122 => ge (fun K' => gg (isB t117 true) (fun K' => K' a0 w) w K') w fun t123 => ge (fun K' => gg (isB t117 true) (fun K' => K' a1 w) w K') w fun t124 => ge (gg (isB t117 true) (iaT P T.aj t123 t124 w) w) w fun t125 => ge (gg (isB t117 true) (ldT P T.ai t125 w) w) w fun t126 => gg (isB t117 true) (gi P F.dg [t122, t126] w) w fun t127 w => ge (gg (isB t117 true) (unT P .not t127 w) w) w fun t128 => ge (ia t117 t128 (.bool false) w) w fun t129 => gk t129 ( K14 [] w) ( K12 [(gv x13 0)] w)) fun x14 w => gh P .sub T.b (.tmp 130) (.const (.int .i64 1)) (gv x13 0) (.int .i64 1) w fun t131 w => K13 [t131] w
def M.aq.j15 [SD] (a0 : Value) (x12 x9 : List Value) (K8 : KL) : QQ := fun w K =>  iz w fun w => w = w ∧ w = w ∧ w = w ∧ w = w ∧ w = w ∧ w = w ∧ ge (iaT P T.aj a0 (gv x12 0) w) w fun t141 => ge (ldT P T.ai t141 w) w fun t142 => w = w ∧ w = w ∧ ge (iaT P T.aj a0 (gv x9 0) w) w fun t145 => ge (ldT P T.ai t145 w) w fun t146 => ge (iaT P T.aj a0 (gv x9 0) w) w fun t147 => stT P T.ai t147 t142 w fun _ w => gp (fun K' => K' (gv x12 0) w) w (gv x12 0) ∧ gp (fun K' => K' a0 w) w a0 ∧ ge (iaT P T.aj a0 (gv x12 0) w) w fun t148 => stT P T.ai t148 t146 w fun _ w => gh P .add T.b (.tmp 149) (.const (.int .i64 1)) (gv x9 0) (.int .i64 1) w fun t150 w => gh P .sub T.b (.tmp 151) (.const (.int .i64 1)) (gv x12 0) (.int .i64 1) w fun t152 w => K8 [t150, t152] w
def M.aq.j9 [SD] (x8 x9 : List Value) (a0 a1 : Value) (K7 K8 : KL) : QQ := fun w K =>  gj (fun K12 => jb [(gv x8 1)] w fun K13 x13 w => M.aq.j13 x9 x13 a0 a1 K12 K13 w K) fun x12 w => gj (fun K15 => gh P .gtr T.b (.tmp 132) (.tmp 133) (gv x9 0) (gv x12 0) w fun t134 w => gk t134 ( K7 [(gv x9 0), (gv x12 0)] w) ( K15 [] w)) fun x15 w => M.aq.j15 a0 x12 x9 K8 w K
def M.aq.j7 [SD] (a0 a1 : Value) (x7 : List Value) : QQ := fun w K =>  iz w fun w => w = w ∧ w = w ∧ w = w ∧ w = w ∧ w = w ∧ w = w ∧ ge (iaT P T.aj a0 a1 w) w fun t159 => ge (ldT P T.ai t159 w) w fun t160 => w = w ∧ w = w ∧ ge (iaT P T.aj a0 (gv x7 1) w) w fun t163 => ge (ldT P T.ai t163 w) w fun t164 => ge (iaT P T.aj a0 (gv x7 1) w) w fun t165 => stT P T.ai t165 t160 w fun _ w => gp (fun K' => K' a1 w) w a1 ∧ gp (fun K' => K' a0 w) w a0 ∧ ge (iaT P T.aj a0 a1 w) w fun t166 => stT P T.ai t166 t164 w fun _ w => K (.tuple #[(gv x7 1), (.bool false)]) w
def M.aq.j6 [SD] (a0 : Value) (x3 x0 : List Value) (a1 : Value) : QQ := fun w K =>  iz w fun w => w = w ∧ w = w ∧ w = w ∧ w = w ∧ w = w ∧ w = w ∧ ge (iaT P T.aj a0 (gv x3 0) w) w fun t87 => ge (ldT P T.ai t87 w) w fun t88 => w = w ∧ w = w ∧ ge (iaT P T.aj a0 (gv x0 0) w) w fun t91 => ge (ldT P T.ai t91 w) w fun t92 => ge (iaT P T.aj a0 (gv x0 0) w) w fun t93 => stT P T.ai t93 t88 w fun _ w => gp (fun K' => K' (gv x3 0) w) w (gv x3 0) ∧ gp (fun K' => K' a0 w) w a0 ∧ ge (iaT P T.aj a0 (gv x3 0) w) w fun t94 => stT P T.ai t94 t92 w fun _ w => gh P .add T.b (.tmp 95) (.const (.int .i64 1)) (gv x0 0) (.int .i64 1) w fun t96 w => gh P .sub T.b (.tmp 97) (.const (.int .i64 1)) (gv x3 0) (.int .i64 1) w fun t98 w => gj (fun K7 => jb [t96, t98] w fun K8 x8 w => gj (fun K9 => jb [(gv x8 0)] w fun K10 x10 w => M.aq.j10 x10 x8 a0 a1 K9 K10 w K) fun x9 w => M.aq.j9 x8 x9 a0 a1 K7 K8 w K) fun x7 w => M.aq.j7 a0 a1 x7 w K
def M.aq.j3 [SD] (x0 x3 : List Value) (a0 a1 : Value) : QQ := fun w K =>  gj (fun K6 => gh P .gtr T.b (.tmp 63) (.tmp 64) (gv x0 0) (gv x3 0) w fun t65 w => gk t65 ( iz w fun w => w = w ∧ w = w ∧ w = w ∧ w = w ∧ w = w ∧ w = w ∧ ge (iaT P T.aj a0 a1 w) w fun t72 => ge (ldT P T.ai t72 w) w fun t73 => w = w ∧ w = w ∧ ge (iaT P T.aj a0 (gv x3 0) w) w fun t76 => ge (ldT P T.ai t76 w) w fun t77 => ge (iaT P T.aj a0 (gv x3 0) w) w fun t78 => stT P T.ai t78 t73 w fun _ w => gp (fun K' => K' a1 w) w a1 ∧ gp (fun K' => K' a0 w) w a0 ∧ ge (iaT P T.aj a0 a1 w) w fun t79 => stT P T.ai t79 t77 w fun _ w => K (.tuple #[(gv x3 0), (.bool true)]) w) ( K6 [(.int .i64 0), (.bool false)] w)) fun x6 w => M.aq.j6 a0 x3 x0 a1 w K
def M.aq [SD] (a0 a1 a2 a3 : Value) : QQ := fun w K =>  iz w fun w => w = w ∧ w = w ∧ w = w ∧ w = w ∧ w = w ∧ w = w ∧ ge (iaT P T.aj a0 a3 w) w fun t18 => ge (ldT P T.ai t18 w) w fun t19 => w = w ∧ w = w ∧ ge (iaT P T.aj a0 a1 w) w fun t22 => ge (ldT P T.ai t22 w) w fun t23 => ge (iaT P T.aj a0 a1 w) w fun t24 => stT P T.ai t24 t19 w fun _ w => gp (fun K' => K' a3 w) w a3 ∧ gp (fun K' => K' a0 w) w a0 ∧ ge (iaT P T.aj a0 a3 w) w fun t25 => stT P T.ai t25 t23 w fun _ w => gh P .add T.b (.tmp 26) (.const (.int .i64 1)) a1 (.int .i64 1) w fun t27 w => gh P .sub T.b (.tmp 28) (.const (.int .i64 1)) a2 (.int .i64 1) w fun t29 w => gj (fun K0 => jb [t27] w fun K1 x1 w => M.aq.j1 x1 t29 a0 a1 K0 K1 w K) fun x0 w => gj (fun K3 => jb [t29] w fun K4 x4 w => M.aq.j4 x0 x4 a0 a1 K3 K4 w K) fun x3 w => M.aq.j3 x0 x3 a0 a1 w K
def M.cn.j3 [SD] (x3 x1 : List Value) (a0 a1 : Value) (K2 K3 : KL) : QQ := fun w K =>  gj (fun K4 => iz w fun w => w = w ∧ w = w ∧ ge (gh P .leq T.b (.tmp 29) (.tmp 30) (gv x3 0) (gv x1 1) w) w fun t31 => w = w ∧ ge (fun K' => gg (isB t31 true) (fun K' => K' a0 w) w K') w fun t33 => ge (fun K' => gg (isB t31 true) (fun K' => K' a1 w) w K') w fun t34 => ge (gg (isB t31 true) (iaT P T.aj t33 t34 w) w) w fun t35 => ge (gg (isB t31 true) (ldT P T.ai t35 w) w) w fun t36 => ge (fun K' => gg (isB t31 true) (fun K' => K' a0 w) w K') w fun t37 => ge (fun K' => gg (isB t31 true) (fun K' => K' (gv x3 0) w) w K') w fun t38 => ge (gg (isB t31 true) (iaT P T.aj t37 t38 w) w) w fun t39 => ge (gg (isB t31 true) (ldT P T.ai t39 w) w) w fun t40 => gg (isB t31 true) (gi P F.dg [t36, t40] w) w fun t41 w => ge (gg (isB t31 true) (unT P .not t41 w) w) w fun t42 => ge (ia t31 t42 (.bool false) w) w fun t43 => gk t43 ( K4 [] w) ( K2 [(gv x3 0)] w)) fun x4 w => gh P .add T.b (.tmp 44) (.const (.int .i64 1)) (gv x3 0) (.int .i64 1) w fun t45 w => K3 [t45] w
def M.cn.j6 [SD] (x2 x6 : List Value) (a0 a1 : Value) (K5 K6 : KL) : QQ := fun w K =>  gj (fun K7 => iz w fun w => w = w ∧ w = w ∧ ge (gh P .leq T.b (.tmp 46) (.tmp 47) (gv x2 0) (gv x6 0) w) w fun t48 => w = w ∧ ge (fun K' => gg (isB t48 true) (fun K' => K' a0 w) w K') w fun t50 => ge (fun K' => gg (isB t48 true) (fun K' => K' a1 w) w K') w fun t51 => ge (gg (isB t48 true) (iaT P T.aj t50 t51 w) w) w fun t52 => ge (gg (isB t48 true) (ldT P T.ai t52 w) w) w fun t53 => ge (fun K' => gg (isB t48 true) (fun K' => K' a0 w) w K') w fun t54 => ge (fun K' => gg (isB t48 true) (fun K' => K' (gv x6 0) w) w K') w fun t55 => ge (gg (isB t48 true) (iaT P T.aj t54 t55 w) w) w fun t56 => ge (gg (isB t48 true) (ldT P T.ai t56 w) w) w fun t57 => gg (isB t48 true) (gi P F.dg [t53, t57] w) w fun t58 w => ge (ia t48 t58 (.bool false) w) w fun t59 => gk t59 ( K7 [] w) ( K5 [(gv x6 0)] w)) fun x7 w => gh P .sub T.b (.tmp 60) (.const (.int .i64 1)) (gv x6 0) (.int .i64 1) w fun t61 w => K6 [t61] w
def M.cn.j8 [SD] (a0 : Value) (x5 x2 : List Value) (K1 : KL) : QQ := fun w K =>  iz w fun w => w = w ∧ w = w ∧ w = w ∧ w = w ∧ w = w ∧ w = w ∧ ge (iaT P T.aj a0 (gv x5 0) w) w fun t71 => ge (ldT P T.ai t71 w) w fun t72 => w = w ∧ w = w ∧ ge (iaT P T.aj a0 (gv x2 0) w) w fun t75 => ge (ldT P T.ai t75 w) w fun t76 => ge (iaT P T.aj a0 (gv x2 0) w) w fun t77 => stT P T.ai t77 t72 w fun _ w => gp (fun K' => K' (gv x5 0) w) w (gv x5 0) ∧ gp (fun K' => K' a0 w) w a0 ∧ ge (iaT P T.aj a0 (gv x5 0) w) w fun t78 => stT P T.ai t78 t76 w fun _ w => gh P .add T.b (.tmp 79) (.const (.int .i64 1)) (gv x2 0) (.int .i64 1) w fun t80 w => gh P .sub T.b (.tmp 81) (.const (.int .i64 1)) (gv x5 0) (.int .i64 1) w fun t82 w => K1 [t80, t82] w
def M.cn.j2 [SD] (x1 x2 : List Value) (a0 a1 : Value) (K0 K1 : KL) : QQ := fun w K =>  gj (fun K5 => jb [(gv x1 1)] w fun K6 x6 w => M.cn.j6 x2 x6 a0 a1 K5 K6 w K) fun x5 w => gj (fun K8 => gh P .gtr T.b (.tmp 62) (.tmp 63) (gv x2 0) (gv x5 0) w fun t64 w => gk t64 ( K0 [(gv x2 0), (gv x5 0)] w) ( K8 [] w)) fun x8 w => M.cn.j8 a0 x5 x2 K1 w K
def M.cn [SD] (a0 a1 a2 a3 : Value) : QQ := fun w K =>  iz w fun w => w = w ∧ w = w ∧ w = w ∧ w = w ∧ w = w ∧ w = w ∧ ge (iaT P T.aj a0 a3 w) w fun t17 => ge (ldT P T.ai t17 w) w fun t18 => w = w ∧ w = w ∧ ge (iaT P T.aj a0 a1 w) w fun t21 => ge (ldT P T.ai t21 w) w fun t22 => ge (iaT P T.aj a0 a1 w) w fun t23 => stT P T.ai t23 t18 w fun _ w => gp (fun K' => K' a3 w) w a3 ∧ gp (fun K' => K' a0 w) w a0 ∧ ge (iaT P T.aj a0 a3 w) w fun t24 => stT P T.ai t24 t22 w fun _ w => gh P .add T.b (.tmp 25) (.const (.int .i64 1)) a1 (.int .i64 1) w fun t26 w => gh P .sub T.b (.tmp 27) (.const (.int .i64 1)) a2 (.int .i64 1) w fun t28 w => gj (fun K0 => jb [t26, t28] w fun K1 x1 w => gj (fun K2 => jb [(gv x1 0)] w fun K3 x3 w => M.cn.j3 x3 x1 a0 a1 K2 K3 w K) fun x2 w => M.cn.j2 x1 x2 a0 a1 K0 K1 w K) fun x0 w => K (gv x0 0) w
def M.aj.j5 [SD] (x5 : List Value) (a2 a0 : Value) (K4 K5 : KL) : QQ := fun w K =>  gj (fun K6 => iz w fun w => w = w ∧ w = w ∧ ge (gh P .lss T.b (.tmp 17) (.tmp 18) (gv x5 0) a2 w) w fun t19 => w = w ∧ ge (fun K' => gg (isB t19 true) (fun K' => K' a0 w) w K') w fun t21 => ge (fun K' => gg (isB t19 true) (fun K' => K' (gv x5 0) w) w K') w fun t22 => ge (gg (isB t19 true) (iaT P T.aj t21 t22 w) w) w fun t23 => ge (gg (isB t19 true) (ldT P T.ai t23 w) w) w fun t24 => ge (fun K' => gg (isB t19 true) (fun K' => K' a0 w) w K') w fun t25 => ge (fun K' => gg (isB t19 true) (fun K' => K' (gv x5 0) w) w K') w fun t26 => ge (gg (isB t19 true) (gh P .sub T.b (.tmp 26) (.const (.int .i64 1)) t26 (.int .i64 1) w) w) w fun t27 => ge (gg (isB t19 true) (iaT P T.aj t25 t27 w) w) w fun t28 => ge (gg (isB t19 true) (ldT P T.ai t28 w) w) w fun t29 => gg (isB t19 true) (gi P F.dg [t24, t29] w) w fun t30 w => ge (gg (isB t19 true) (unT P .not t30 w) w) w fun t31 => ge (ia t19 t31 (.bool false) w) w fun t32 => gk t32 ( K6 [] w) ( K4 [(gv x5 0)] w)) fun x6 w => gh P .add T.b (.tmp 33) (.const (.int .i64 1)) (gv x5 0) (.int .i64 1) w fun t34 w => K5 [t34] w
def M.aj.j13 [SD] (x10 : List Value) (a0 : Value) (K12 : KL) : QQ := fun w K =>  iz w fun w => w = w ∧ w = w ∧ w = w ∧ w = w ∧ ge (gh P .sub T.b (.tmp 82) (.const (.int .i64 1)) (gv x10 0) (.int .i64 1) w) w fun t83 => w = w ∧ w = w ∧ ge (gh P .sub T.b (.tmp 85) (.const (.int .i64 1)) (gv x10 0) (.int .i64 1) w) w fun t86 => ge (iaT P T.aj a0 t86 w) w fun t87 => ge (ldT P T.ai t87 w) w fun t88 => w = w ∧ w = w ∧ ge (iaT P T.aj a0 (gv x10 0) w) w fun t91 => ge (ldT P T.ai t91 w) w fun t92 => ge (iaT P T.aj a0 (gv x10 0) w) w fun t93 => stT P T.ai t93 t88 w fun _ w => gp (gh P .sub T.b (.tmp 82) (.const (.int .i64 1)) (gv x10 0) (.int .i64 1) w) w t83 ∧ gp (fun K' => K' (gv x10 0) w) w (gv x10 0) ∧ gp (fun K' => K' a0 w) w a0 ∧ ge (iaT P T.aj a0 t83 w) w fun t94 => stT P T.ai t94 t92 w fun _ w => K12 [] w
def M.aj.j11 [SD] (a0 : Value) (x10 : List Value) (K9 K10 : KL) : QQ := fun w K =>  gj (fun K12 => gj (fun K13 => iz w fun w => w = w ∧ w = w ∧ ge (iaT P T.aj a0 (gv x10 0) w) w fun t70 => ge (ldT P T.ai t70 w) w fun t71 => w = w ∧ w = w ∧ ge (gh P .sub T.b (.tmp 73) (.const (.int .i64 1)) (gv x10 0) (.int .i64 1) w) w fun t74 => ge (iaT P T.aj a0 t74 w) w fun t75 => ge (ldT P T.ai t75 w) w fun t76 => gi P F.dg [t71, t76] w fun t77 w => ge (unT P .not t77 w) w fun t78 => gk t78 ( K9 [(gv x10 0)] w) ( K13 [] w)) fun x13 w => M.aj.j13 x10 a0 K12 w K) fun x12 w => gh P .sub T.b (.tmp 66) (.const (.int .i64 1)) (gv x10 0) (.int .i64 1) w fun t67 w => K10 [t67] w
def M.aj.j17 [SD] (x14 : List Value) (a0 : Value) (K16 : KL) : QQ := fun w K =>  iz w fun w => w = w ∧ w = w ∧ w = w ∧ w = w ∧ ge (gh P .sub T.b (.tmp 120) (.const (.int .i64 1)) (gv x14 0) (.int .i64 1) w) w fun t121 => w = w ∧ w = w ∧ ge (gh P .sub T.b (.tmp 123) (.const (.int .i64 1)) (gv x14 0) (.int .i64 1) w) w fun t124 => ge (iaT P T.aj a0 t124 w) w fun t125 => ge (ldT P T.ai t125 w) w fun t126 => w = w ∧ w = w ∧ ge (iaT P T.aj a0 (gv x14 0) w) w fun t129 => ge (ldT P T.ai t129 w) w fun t130 => ge (iaT P T.aj a0 (gv x14 0) w) w fun t131 => stT P T.ai t131 t126 w fun _ w => gp (gh P .sub T.b (.tmp 120) (.const (.int .i64 1)) (gv x14 0) (.int .i64 1) w) w t121 ∧ gp (fun K' => K' (gv x14 0) w) w (gv x14 0) ∧ gp (fun K' => K' a0 w) w a0 ∧ ge (iaT P T.aj a0 t121 w) w fun t132 => stT P T.ai t132 t130 w fun _ w => K16 [] w
def M.aj.j15 [SD] (a0 : Value) (x14 : List Value) (K3 : KL) (x4 x8 x9 : List Value) (K14 : KL) : QQ := fun w K =>  gj (fun K16 => gj (fun K17 => iz w fun w => w = w ∧ w = w ∧ ge (iaT P T.aj a0 (gv x14 0) w) w fun t108 => ge (ldT P T.ai t108 w) w fun t109 => w = w ∧ w = w ∧ ge (gh P .sub T.b (.tmp 111) (.const (.int .i64 1)) (gv x14 0) (.int .i64 1) w) w fun t112 => ge (iaT P T.aj a0 t112 w) w fun t113 => ge (ldT P T.ai t113 w) w fun t114 => gi P F.dg [t109, t114] w fun t115 w => ge (unT P .not t115 w) w fun t116 => gk t116 ( K3 [(gv x4 0), (gv x8 0), (gv x9 0), (gv x14 0)] w) ( K17 [] w)) fun x17 w => M.aj.j17 x14 a0 K16 w K) fun x16 w => gh P .add T.b (.tmp 104) (.const (.int .i64 1)) (gv x14 0) (.int .i64 1) w fun t105 w => K14 [t105] w
def M.aj.j14 [SD] (x14 : List Value) (a2 : Value) (K3 : KL) (x4 x8 x9 : List Value) (a0 : Value) (K14 : KL) : QQ := fun w K =>  gj (fun K15 => gh P .lss T.b (.tmp 101) (.tmp 102) (gv x14 0) a2 w fun t103 w => gk t103 ( K15 [] w) ( K3 [(gv x4 0), (gv x8 0), (gv x9 0), (gv x14 0)] w)) fun x15 w => M.aj.j15 a0 x14 K3 x4 x8 x9 K14 w K
def M.aj.j9 [SD] (a2 : Value) (x4 : List Value) (K3 : KL) (x8 x9 : List Value) (a0 : Value) (x1 : List Value) : QQ := fun w K =>  gh P .sub T.b (.tmp 95) (.tmp 96) a2 (gv x4 0) w fun t97 w => gh P .geq T.b (.tmp 97) (.const (.int .i64 2)) t97 (.int .i64 2) w fun t98 w => gk t98 ( gh P .add T.b (.tmp 99) (.const (.int .i64 1)) (gv x4 0) (.int .i64 1) w fun t100 w => jb [t100] w fun K14 x14 w => M.aj.j14 x14 a2 K3 x4 x8 x9 a0 K14 w K) ( K3 [(gv x4 0), (gv x8 0), (gv x9 0), (gv x1 3)] w)
def M.aj.j8 [SD] (x4 : List Value) (a0 a1 : Value) (x1 : List Value) (a2 : Value) (K3 : KL) (x8 : List Value) : QQ := fun w K =>  iz w fun w => w = w ∧ w = w ∧ w = w ∧ w = w ∧ ge (gh P .sub T.b (.tmp 45) (.const (.int .i64 1)) (gv x4 0) (.int .i64 1) w) w fun t46 => w = w ∧ w = w ∧ ge (gh P .sub T.b (.tmp 48) (.const (.int .i64 1)) (gv x4 0) (.int .i64 1) w) w fun t49 => ge (iaT P T.aj a0 t49 w) w fun t50 => ge (ldT P T.ai t50 w) w fun t51 => w = w ∧ w = w ∧ ge (iaT P T.aj a0 (gv x4 0) w) w fun t54 => ge (ldT P T.ai t54 w) w fun t55 => ge (iaT P T.aj a0 (gv x4 0) w) w fun t56 => stT P T.ai t56 t51 w fun _ w => gp (gh P .sub T.b (.tmp 45) (.const (.int .i64 1)) (gv x4 0) (.int .i64 1) w) w t46 ∧ gp (fun K' => K' (gv x4 0) w) w (gv x4 0) ∧ gp (fun K' => K' a0 w) w a0 ∧ ge (iaT P T.aj a0 t46 w) w fun t57 => stT P T.ai t57 t55 w fun _ w => gj (fun K9 => gh P .sub T.b (.tmp 58) (.tmp 59) (gv x4 0) a1 w fun t60 w => gh P .geq T.b (.tmp 60) (.const (.int .i64 2)) t60 (.int .i64 2) w fun t61 w => gk t61 ( gh P .sub T.b (.tmp 62) (.const (.int .i64 1)) (gv x4 0) (.int .i64 1) w fun t63 w => jb [t63] w fun K10 x10 w => gj (fun K11 => gh P .geq T.b (.tmp 64) (.const (.int .i64 1)) (gv x10 0) (.int .i64 1) w fun t65 w => gk t65 ( K11 [] w) ( K9 [(gv x10 0)] w)) fun x11 w => M.aj.j11 a0 x10 K9 K10 w K) ( K9 [(gv x1 2)] w)) fun x9 w => M.aj.j9 a2 x4 K3 x8 x9 a0 x1 w K
def M.aj.j7 [SD] (a2 a1 : Value) (x7 x4 : List Value) (a0 : Value) (x1 : List Value) (K3 : KL) : QQ := fun w K =>  gj (fun K8 => gh P .sub T.b (.tmp 38) (.tmp 39) a2 a1 w fun t40 w => gh P .lss T.b (.tmp 40) (.const (.int .i64 50)) t40 (.int .i64 50) w fun t41 w => gk t41 ( K (.bool false) w) ( K8 [(gv x7 0)] w)) fun x8 w => M.aj.j8 x4 a0 a1 x1 a2 K3 x8 w K
def M.aj.j2 [SD] (x1 : List Value) (a2 a0 a1 : Value) (K1 : KL) : QQ := fun w K =>  gj (fun K3 => gj (fun K4 => jb [(gv x1 0)] w fun K5 x5 w => M.aj.j5 x5 a2 a0 K4 K5 w K) fun x4 w => gj (fun K7 => gh P .eql T.b (.tmp 35) (.tmp 36) (gv x4 0) a2 w fun t37 w => gk t37 ( K (.bool true) w) ( K7 [(gv x1 1)] w)) fun x7 w => M.aj.j7 a2 a1 x7 x4 a0 x1 K3 w K) fun x3 w => gh P .add T.b (.tmp 15) (.const (.int .i64 1)) (gv x1 4) (.int .i64 1) w fun t16 w => K1 [(gv x3 0), (gv x3 1), (gv x3 2), (gv x3 3), t16] w
def M.aj.j1 [SD] (x1 : List Value) (K0 : KL) (a2 a0 a1 : Value) (K1 : KL) : QQ := fun w K =>  gj (fun K2 => gh P .lss T.b (.tmp 13) (.const (.int .i64 5)) (gv x1 4) (.int .i64 5) w fun t14 w => gk t14 ( K2 [] w) ( K0 [(gv x1 4), (gv x1 0), (gv x1 1), (gv x1 2), (gv x1 3)] w)) fun x2 w => M.aj.j2 x1 a2 a0 a1 K1 w K
def M.aj [SD] (a0 a1 a2 : Value) : QQ := fun w K =>  gh P .add T.b (.tmp 11) (.const (.int .i64 1)) a1 (.int .i64 1) w fun t12 w => gj (fun K0 => jb [t12, (.bool false), undef, undef, (.int .i64 0)] w fun K1 x1 w => M.aj.j1 x1 K0 a2 a0 a1 K1 w K) fun x0 w => K (.bool false) w
def M.cv.j3 [SD] (a1 : Value) (x3 : List Value) (a0 : Value) (x0 : List Value) (K2 : KL) : QQ := fun w K =>  iz w fun w => w = w ∧ w = w ∧ w = w ∧ w = w ∧ w = w ∧ ge (gh P .add T.b (.tmp 50) (.tmp 51) a1 (gv x3 0) w) w fun t52 => w = w ∧ w = w ∧ w = w ∧ ge (gh P .add T.b (.tmp 54) (.tmp 55) a1 (gv x3 0) w) w fun t56 => ge (iaT P T.aj a0 t56 w) w fun t57 => ge (ldT P T.ai t57 w) w fun t58 => w = w ∧ w = w ∧ ge (iaT P T.aj a0 (gv x0 1) w) w fun t61 => ge (ldT P T.ai t61 w) w fun t62 => ge (iaT P T.aj a0 (gv x0 1) w) w fun t63 => stT P T.ai t63 t58 w fun _ w => gp (gh P .add T.b (.tmp 50) (.tmp 51) a1 (gv x3 0) w) w t52 ∧ gp (fun K' => K' (gv x3 0) w) w (gv x3 0) ∧ gp (fun K' => K' a1 w) w a1 ∧ gp (fun K' => K' a0 w) w a0 ∧ ge (iaT P T.aj a0 t52 w) w fun t64 => stT P T.ai t64 t62 w fun _ w => K2 [(gv x3 0)] w
def M.cv.j1 [SD] (t7 t19 t13 a1 a0 : Value) (x0 : List Value) (K0 : KL) : QQ := fun w K =>  gj (fun K2 => gi P F.cm [t7] w fun t36 w => gh P .sub T.av (.tmp 37) (.const (.int .u64 1)) t19 (.int .u64 1) w fun t38 w => gh P .and T.av (.tmp 36) (.tmp 38) t36 t38 w fun t39 w => cvT P T.av T.b t39 w fun t40 w => gj (fun K3 => gh P .geq T.b (.tmp 41) (.tmp 42) t40 t13 w fun t43 w => gk t43 ( gh P .sub T.b (.tmp 44) (.tmp 45) t40 t13 w fun t46 w => K3 [t46] w) ( K3 [t40] w)) fun x3 w => M.cv.j3 a1 x3 a0 x0 K2 w K) fun x2 w => gh P .add T.b (.tmp 34) (.const (.int .i64 1)) (gv x0 1) (.int .i64 1) w fun t35 w => K0 [(gv x2 0), t35] w
def M.cv.j0 [SD] (t13 a1 : Value) (x0 : List Value) (t7 t19 a0 : Value) (K0 : KL) : QQ := fun w K =>  gj (fun K1 => gh P .quo T.b (.tmp 28) (.const (.int .i64 4)) t13 (.int .i64 4) w fun t29 w => gh P .mul T.b (.tmp 29) (.const (.int .i64 2)) t29 (.int .i64 2) w fun t30 w => gh P .add T.b (.tmp 27) (.tmp 30) a1 t30 w fun t31 w => gh P .add T.b (.tmp 31) (.const (.int .i64 1)) t31 (.int .i64 1) w fun t32 w => gh P .leq T.b (.tmp 26) (.tmp 32) (gv x0 1) t32 w fun t33 w => gk t33 ( K1 [] w) ( K (.tuple #[]) w)) fun x1 w => M.cv.j1 t7 t19 t13 a1 a0 x0 K0 w K
def M.cv [SD] (a0 a1 a2 : Value) : QQ := fun w K =>  gh P .sub T.b (.tmp 11) (.tmp 12) a2 a1 w fun t13 w => gh P .geq T.b (.tmp 14) (.const (.int .i64 8)) t13 (.int .i64 8) w fun t15 w => gk t15 ( cvT P T.b T.w t13 w fun t17 w => alT P T.w w fun t7 w => stT P T.w t7 t17 w fun _ w => gi P F.cl [t13] w fun t19 w => gh P .quo T.b (.tmp 21) (.const (.int .i64 4)) t13 (.int .i64 4) w fun t22 w => gh P .mul T.b (.tmp 22) (.const (.int .i64 2)) t22 (.int .i64 2) w fun t23 w => gh P .add T.b (.tmp 20) (.tmp 23) a1 t23 w fun t24 w => gh P .sub T.b (.tmp 24) (.const (.int .i64 1)) t24 (.int .i64 1) w fun t25 w => jb [undef, t25] w fun K0 x0 w => M.cv.j0 t13 a1 x0 t7 t19 a0 K0 w K) ( K (.tuple #[]) w)
def M.ej [SD] (a0 a1 a2 a3 : Value) : QQ := fun w K =>  gj (fun K0 => iz w fun w => w = w ∧ w = w ∧ ge (iaT P T.aj a0 a2 w) w fun t12 => ge (ldT P T.ai t12 w) w fun t13 => w = w ∧ w = w ∧ ge (iaT P T.aj a0 a1 w) w fun t16 => ge (ldT P T.ai t16 w) w fun t17 => gi P F.dg [t13, t17] w fun t18 w => gk t18 ( iq a3 w fun t20 w => ldT P T.b t20 w fun t21 w => gh P .add T.b (.tmp 21) (.const (.int .i64 1)) t21 (.int .i64 1) w fun t22 w => iq a3 w fun t23 w => stT P T.b t23 t22 w fun _ w => K (.tuple #[a2, a1]) w) ( K0 [(.int .i64 0), (.int .i64 0)] w)) fun x0 w => K (.tuple #[a1, a2]) w
def M.ek [SD] (a0 a1 a2 a3 a4 : Value) : QQ := fun w K =>  gi P F.fq [a0, a1, a2, a4] w fun t16 w => exT P t16 0 w fun t17 w => exT P t16 1 w fun t18 w => gi P F.fq [a0, t18, a3, a4] w fun t24 w => exT P t24 0 w fun t25 w => exT P t24 1 w fun t26 w => gi P F.fq [a0, t17, t25, a4] w fun t32 w => exT P t32 0 w fun t33 w => exT P t32 1 w fun t34 w => K t34 w
def M.dq [SD] (a0 a1 a2 : Value) : QQ := fun w K =>  gh P .sub T.b (.tmp 8) (.const (.int .i64 1)) a1 (.int .i64 1) w fun t9 w => gh P .add T.b (.tmp 11) (.const (.int .i64 1)) a1 (.int .i64 1) w fun t12 w => gi P F.fr [a0, t9, a1, t12, a2] w fun t14 w => K t14 w
def M.dr.j0 [SD] (t9 : Value) (x0 : List Value) : QQ := fun w K =>  ldT P T.b t9 w fun t49 w => gh P .eql T.b (.tmp 49) (.const (.int .i64 0)) t49 (.int .i64 0) w fun t52 w => gk t52 ( K (.tuple #[(gv x0 1), (.int .i64 1)]) w) ( gh P .eql T.b (.tmp 49) (.const (.int .i64 12)) t49 (.int .i64 12) w fun t55 w => gk t55 ( K (.tuple #[(gv x0 1), (.int .i64 2)]) w) ( K (.tuple #[(gv x0 1), (.int .i64 0)]) w))
def M.dr [SD] (a0 a1 a2 : Value) : QQ := fun w K =>  gh P .sub T.b (.tmp 13) (.tmp 14) a2 a1 w fun t15 w => alT P T.b w fun t9 w => gh P .quo T.b (.tmp 17) (.const (.int .i64 4)) t15 (.int .i64 4) w fun t18 w => gh P .mul T.b (.tmp 18) (.const (.int .i64 1)) t18 (.int .i64 1) w fun t19 w => gh P .add T.b (.tmp 16) (.tmp 19) a1 t19 w fun t20 w => gh P .quo T.b (.tmp 22) (.const (.int .i64 4)) t15 (.int .i64 4) w fun t23 w => gh P .mul T.b (.tmp 23) (.const (.int .i64 2)) t23 (.int .i64 2) w fun t24 w => gh P .add T.b (.tmp 21) (.tmp 24) a1 t24 w fun t25 w => gh P .quo T.b (.tmp 27) (.const (.int .i64 4)) t15 (.int .i64 4) w fun t28 w => gh P .mul T.b (.tmp 28) (.const (.int .i64 3)) t28 (.int .i64 3) w fun t29 w => gh P .add T.b (.tmp 26) (.tmp 29) a1 t29 w fun t30 w => gj (fun K0 => gh P .geq T.b (.tmp 31) (.const (.int .i64 8)) t15 (.int .i64 8) w fun t32 w => gk t32 ( gj (fun K1 => gh P .geq T.b (.tmp 33) (.const (.int .i64 50)) t15 (.int .i64 50) w fun t34 w => gk t34 ( gi P F.fm [a0, t20, t9] w fun t37 w => gi P F.fm [a0, t25, t9] w fun t40 w => gi P F.fm [a0, t30, t9] w fun t43 w => K1 [t37, t40, t43] w) ( K1 [t20, t25, t30] w)) fun x1 w => gi P F.fr [a0, (gv x1 0), (gv x1 1), (gv x1 2), t9] w fun t48 w => K0 [(gv x1 0), t48, (gv x1 2)] w) ( K0 [t20, t25, t30] w)) fun x0 w => M.dr.j0 t9 x0 w K
def M.dw.j1 [SD] (a0 : Value) (x0 : List Value) (K0 : KL) : QQ := fun w K =>  iz w fun w => w = w ∧ w = w ∧ w = w ∧ w = w ∧ w = w ∧ w = w ∧ ge (iaT P T.aj a0 (gv x0 1) w) w fun t20 => ge (ldT P T.ai t20 w) w fun t21 => w = w ∧ w = w ∧ ge (iaT P T.aj a0 (gv x0 0) w) w fun t24 => ge (ldT P T.ai t24 w) w fun t25 => ge (iaT P T.aj a0 (gv x0 0) w) w fun t26 => stT P T.ai t26 t21 w fun _ w => gp (fun K' => K' (gv x0 1) w) w (gv x0 1) ∧ gp (fun K' => K' a0 w) w a0 ∧ ge (iaT P T.aj a0 (gv x0 1) w) w fun t27 => stT P T.ai t27 t25 w fun _ w => gh P .add T.b (.tmp 28) (.const (.int .i64 1)) (gv x0 0) (.int .i64 1) w fun t29 w => gh P .sub T.b (.tmp 30) (.const (.int .i64 1)) (gv x0 1) (.int .i64 1) w fun t31 w => K0 [t29, t31] w
def M.dw [SD] (a0 a1 a2 : Value) : QQ := fun w K =>  gh P .sub T.b (.tmp 9) (.const (.int .i64 1)) a2 (.int .i64 1) w fun t10 w => jb [a1, t10] w fun K0 x0 w => gj (fun K1 => gh P .lss T.b (.tmp 11) (.tmp 12) (gv x0 0) (gv x0 1) w fun t13 w => gk t13 ( K1 [] w) ( K (.tuple #[]) w)) fun x1 w => M.dw.j1 a0 x0 K0 w K
def M.be.j6 [SD] (a0 : Value) (x6 x0 x4 : List Value) (t21 : Value) (x3 : List Value) (K0 : KL) : QQ := fun w K =>  gi P F.fu [a0, (gv x6 1), (gv x0 13), (gv x4 0)] w fun t99 w => exT P t99 0 w fun t100 w => exT P t99 1 w fun t101 w => gh P .sub T.b (.tmp 103) (.tmp 104) t100 (gv x6 1) w fun t105 w => gh P .sub T.b (.tmp 106) (.tmp 107) (gv x0 13) t100 w fun t108 w => gh P .quo T.b (.tmp 109) (.const (.int .i64 8)) t21 (.int .i64 8) w fun t110 w => gh P .lss T.b (.tmp 111) (.tmp 112) t105 t108 w fun t113 w => gk t113 ( gh P .geq T.b (.tmp 114) (.tmp 115) t105 t110 w fun t116 w => gi P F.fs [a0, (gv x6 1), t100, (gv x3 0)] w fun t121 w => gh P .add T.b (.tmp 122) (.const (.int .i64 1)) t100 (.int .i64 1) w fun t123 w => K0 [t21, (gv x3 0), (gv x4 0), (gv x4 1), (gv x6 0), t123, t100, t101, t101, t105, t108, t110, t116, (gv x0 13)] w) ( gh P .geq T.b (.tmp 124) (.tmp 125) t108 t110 w fun t126 w => gh P .add T.b (.tmp 128) (.const (.int .i64 1)) t100 (.int .i64 1) w fun t129 w => gi P F.fs [a0, t129, (gv x0 13), (gv x3 0)] w fun t132 w => K0 [t21, (gv x3 0), (gv x4 0), (gv x4 1), (gv x6 0), (gv x6 1), t100, t101, t101, t105, t108, t110, t126, t100] w)
def M.be.j5 [SD] (x0 : List Value) (a0 : Value) (x4 : List Value) (K0 : KL) (t21 : Value) (x3 : List Value) : QQ := fun w K =>  gj (fun K6 => iz w fun w => w = w ∧ ge (gh P .gtr T.b (.tmp 73) (.const (.int .i64 0)) (gv x0 5) (.int .i64 0) w) w fun t74 => w = w ∧ ge (fun K' => gg (isB t74 true) (fun K' => K' a0 w) w K') w fun t76 => ge (fun K' => gg (isB t74 true) (fun K' => K' (gv x0 5) w) w K') w fun t77 => ge (gg (isB t74 true) (gh P .sub T.b (.tmp 77) (.const (.int .i64 1)) t77 (.int .i64 1) w) w) w fun t78 => ge (gg (isB t74 true) (iaT P T.aj t76 t78 w) w) w fun t79 => ge (gg (isB t74 true) (ldT P T.ai t79 w) w) w fun t80 => ge (fun K' => gg (isB t74 true) (fun K' => K' a0 w) w K') w fun t81 => ge (fun K' => gg (isB t74 true) (fun K' => K' (gv x4 0) w) w K') w fun t82 => ge (gg (isB t74 true) (iaT P T.aj t81 t82 w) w) w fun t83 => ge (gg (isB t74 true) (ldT P T.ai t83 w) w) w fun t84 => gg (isB t74 true) (gi P F.dg [t80, t84] w) w fun t85 w => ge (gg (isB t74 true) (unT P .not t85 w) w) w fun t86 => ge (ia t74 t86 (.bool false) w) w fun t87 => gk t87 ( gi P F.fy [a0, (gv x0 5), (gv x0 13), (gv x4 0)] w fun t92 w => K0 [t21, (gv x3 0), (gv x4 0), (gv x4 1), t92, t92, (gv x0 6), (gv x0 7), (gv x0 8), (gv x0 9), (gv x0 10), (gv x0 11), (gv x0 12), (gv x0 13)] w) ( K6 [(gv x0 4), (gv x0 5)] w)) fun x6 w => M.be.j6 a0 x6 x0 x4 t21 x3 K0 w K
def M.be.j4 [SD] (x0 x4 : List Value) (a0 : Value) (K0 : KL) (t21 : Value) (x3 : List Value) : QQ := fun w K =>  gj (fun K5 => gg (isB (gv x0 12) true) (fun K' => K' (gv x0 8) w) w fun t63 w => ia (gv x0 12) t63 (.bool false) w fun t64 w => gg (isB t64 true) (fun K' => K' (gv x4 1) w) w fun t66 w => gg (isB t64 true) (gh P .eql T.bf (.tmp 66) (.const (.int .i64 1)) t66 (.int .i64 1) w) w fun t67 w => ia t64 t67 (.bool false) w fun t68 w => gk t68 ( gi P F.fv [a0, (gv x0 5), (gv x0 13)] w fun t72 w => gk t72 ( K (.tuple #[]) w) ( K5 [] w)) ( K5 [] w)) fun x5 w => M.be.j5 x0 a0 x4 K0 t21 x3 w K
def M.be.j3 [SD] (a0 : Value) (x0 : List Value) (K0 : KL) (t21 : Value) (x3 : List Value) : QQ := fun w K =>  gi P F.ga [a0, (gv x0 5), (gv x0 13)] w fun t46 w => exT P t46 0 w fun t47 w => exT P t46 1 w fun t48 w => gj (fun K4 => gh P .eql T.bf (.tmp 49) (.const (.int .i64 2)) t48 (.int .i64 2) w fun t50 w => gk t50 ( gi P F.gb [a0, (gv x0 5), (gv x0 13)] w fun t54 w => gh P .sub T.b (.tmp 55) (.const (.int .i64 1)) (gv x0 13) (.int .i64 1) w fun t56 w => gh P .sub T.b (.tmp 57) (.tmp 58) t47 (gv x0 5) w fun t59 w => gh P .sub T.b (.tmp 56) (.tmp 59) t56 t59 w fun t60 w => K4 [t60, (.int .i64 1)] w) ( K4 [t47, t48] w)) fun x4 w => M.be.j4 x0 x4 a0 K0 t21 x3 w K
def M.be.j2 [SD] (x0 : List Value) (a0 : Value) (K0 : KL) (t21 : Value) : QQ := fun w K =>  gj (fun K3 => unT P .not (gv x0 12) w fun t35 w => gk t35 ( gi P F.fz [a0, (gv x0 5), (gv x0 13)] w fun t39 w => gh P .sub T.b (.tmp 40) (.const (.int .i64 1)) (gv x0 1) (.int .i64 1) w fun t41 w => K3 [t41] w) ( K3 [(gv x0 1)] w)) fun x3 w => M.be.j3 a0 x0 K0 t21 x3 w K
def M.be.j1 [SD] (x0 : List Value) (a0 : Value) (K0 : KL) (t21 : Value) : QQ := fun w K =>  gj (fun K2 => gh P .eql T.b (.tmp 28) (.const (.int .i64 0)) (gv x0 1) (.int .i64 0) w fun t29 w => gk t29 ( gi P F.ft [a0, (gv x0 5), (gv x0 13)] w fun t33 w => K (.tuple #[]) w) ( K2 [] w)) fun x2 w => M.be.j2 x0 a0 K0 t21 w K
def M.be.j0 [SD] (x0 : List Value) (a0 : Value) (K0 : KL) : QQ := fun w K =>  gh P .sub T.b (.tmp 19) (.tmp 20) (gv x0 13) (gv x0 5) w fun t21 w => gj (fun K1 => gh P .leq T.b (.tmp 22) (.const (.int .i64 12)) t21 (.int .i64 12) w fun t23 w => gk t23 ( gi P F.fx [a0, (gv x0 5), (gv x0 13)] w fun t27 w => K (.tuple #[]) w) ( K1 [] w)) fun x1 w => M.be.j1 x0 a0 K0 t21 w K
def M.be [SD] (a0 a1 a2 a3 : Value) : QQ := fun w K =>  jb [undef, a3, undef, undef, undef, a1, undef, undef, (.bool true), undef, undef, undef, (.bool true), a2] w fun K0 x0 w => M.be.j0 x0 a0 K0 w K
def M.ds [SD] (a0 : Value) : QQ := fun w K =>  biT P .len #[T.aj] T.b [false] [a0] w fun t4 w => cvT P T.b T.av t4 w fun t8 w => gi P F.ed [t8] w fun t9 w => gi P F.fs [a0, (.int .i64 0), t4, t9] w fun t10 w => K (.tuple #[]) w
def M.dp.L : List Nat := [0, 1, 4]
def M.dp.pl : Nat → pp := fun id => ⟨.nil, [], false, []⟩
def M.ei.L : List Nat := [0, 2]
def M.ei.pl : Nat → pp := fun id => ⟨.nil, [], false, []⟩
def M.cm.L : List Nat := [0, 1, 2, 6, 7]
def M.cm.pl : Nat → pp := fun id => cond (Nat.beq id 4) ⟨(gS 0 13 (.eff 13 (.go 14 .nil) .ie)), [13], false, [0, 0, 3, 7, 15, 15, 63, 127, 15, 15, 527, 1807, 3855, 8191, 16383]⟩ (cond (Nat.beq id 6) ⟨(gS 0 15 (.eff 15 (.go 16 (.eff 17 .nil .ie)) .ie)), [15, 17], false, [0, 0, 0, 0, 8, 0, 0, 64, 224, 480, 0, 0, 3072, 7168, 16355, 32739, 65535, 131071]⟩ (⟨.nil, [], false, []⟩))
def M.bt.L : List Nat := [0, 1, 2, 3, 8, 9]
def M.bt.pl : Nat → pp := fun id => cond (Nat.beq id 3) ⟨(gS 0 18 (.eff 18 (.go 19 .nil) .ie)), [18], false, [0, 1, 0, 7, 15, 31, 31, 31, 223, 511, 1023, 31, 31, 31, 12319, 28703, 63519, 129055, 262143, 524287]⟩ (cond (Nat.beq id 5) ⟨(gS 0 12 (.eff 12 (.go 13 .nil) .ie)), [12], false, [0, 0, 0, 6, 15, 31, 0, 0, 0, 384, 960, 1984, 4095, 8191]⟩ (cond (Nat.beq id 6) ⟨(gS 0 21 (.eff 21 (.go 22 (.eff 23 .nil .ie)) .ie)), [21, 23], false, [0, 0, 0, 6, 0, 0, 0, 96, 0, 0, 0, 1536, 3840, 7936, 0, 0, 0, 98304, 245760, 507904, 1048335, 2096911, 4194303, 8388607]⟩ (⟨.nil, [], false, []⟩)))
def M.cj.L : List Nat := [0, 1, 2, 6, 7, 8, 9, 10]
def M.cj.pl : Nat → pp := fun id => cond (Nat.beq id 10) ⟨(gS 0 17 (.eff 17 (.go 18 (.eff 19 .nil .ie)) .ie)), [17, 19], false, [0, 0, 0, 0, 0, 24, 0, 0, 0, 384, 960, 1984, 0, 0, 12288, 28672, 65475, 131011, 262143, 524287]⟩ (⟨.nil, [], false, []⟩)
def M.aq.L : List Nat := [0, 1, 2, 3, 8, 9, 10, 11]
def M.aq.pl : Nat → pp := fun id => cond (Nat.beq id 1) ⟨(gS 0 13 (.eff 13 (.go 14 (.eff 15 .nil .ie)) .ie)), [13, 15], false, [0, 0, 0, 0, 0, 0, 48, 112, 0, 0, 768, 1792, 4083, 8179, 16383, 32767]⟩ (cond (Nat.beq id 3) ⟨(gS 0 12 (.eff 12 (.go 13 .nil) .ie)), [12], false, [0, 0, 3, 7, 15, 15, 63, 127, 15, 15, 783, 1807, 4095, 8191]⟩ (cond (Nat.beq id 5) ⟨(gS 0 12 (.eff 12 (.go 13 (.go 14 .nil)) .ie)), [12], false, [0, 0, 3, 7, 15, 15, 63, 127, 15, 15, 783, 1807, 4095, 8191, 16383]⟩ (cond (Nat.beq id 8) ⟨(gS 0 13 (.eff 13 (.go 14 (.eff 15 .nil .ie)) .ie)), [13, 15], false, [0, 0, 0, 0, 0, 0, 48, 112, 0, 0, 768, 1792, 4083, 8179, 16383, 32767]⟩ (cond (Nat.beq id 10) ⟨(gS 0 13 (.eff 13 (.go 14 (.eff 15 .nil .ie)) .ie)), [13, 15], false, [0, 0, 0, 0, 0, 0, 48, 112, 0, 0, 768, 1792, 4083, 8179, 16383, 32767]⟩ (cond (Nat.beq id 13) ⟨(gS 0 12 (.eff 12 (.go 13 .nil) .ie)), [12], false, [0, 0, 3, 7, 15, 15, 63, 127, 15, 15, 783, 1807, 4095, 8191]⟩ (cond (Nat.beq id 15) ⟨(gS 0 12 (.eff 12 (.go 13 (.go 14 .nil)) .ie)), [12], false, [0, 0, 3, 7, 15, 15, 63, 127, 15, 15, 783, 1807, 4095, 8191, 16383]⟩ (cond (Nat.beq id 18) ⟨(gS 0 13 (.eff 13 (.go 14 (.eff 15 .nil .ie)) .ie)), [13, 15], false, [0, 0, 0, 0, 0, 0, 48, 112, 0, 0, 768, 1792, 4083, 8179, 16383, 32767]⟩ (cond (Nat.beq id 21) ⟨(gS 0 13 (.eff 13 (.go 14 (.eff 15 .nil .ie)) .ie)), [13, 15], false, [0, 0, 0, 0, 0, 0, 48, 112, 0, 0, 768, 1792, 4083, 8179, 16383, 32767]⟩ (⟨.nil, [], false, []⟩)))))))))
def M.cn.L : List Nat := [0, 1, 2, 3, 8, 9, 10]
def M.cn.pl : Nat → pp := fun id => cond (Nat.beq id 1) ⟨(gS 0 13 (.eff 13 (.go 14 (.eff 15 .nil .ie)) .ie)), [13, 15], false, [0, 0, 0, 0, 0, 0, 48, 112, 0, 0, 768, 1792, 4083, 8179, 16383, 32767]⟩ (cond (Nat.beq id 3) ⟨(gS 0 12 (.eff 12 (.go 13 (.go 14 .nil)) .ie)), [12], false, [0, 0, 3, 7, 15, 15, 63, 127, 15, 15, 783, 1807, 4095, 8191, 16383]⟩ (cond (Nat.beq id 5) ⟨(gS 0 12 (.eff 12 (.go 13 .nil) .ie)), [12], false, [0, 0, 3, 7, 15, 15, 63, 127, 15, 15, 783, 1807, 4095, 8191]⟩ (cond (Nat.beq id 8) ⟨(gS 0 13 (.eff 13 (.go 14 (.eff 15 .nil .ie)) .ie)), [13, 15], false, [0, 0, 0, 0, 0, 0, 48, 112, 0, 0, 768, 1792, 4083, 8179, 16383, 32767]⟩ (⟨.nil, [], false, []⟩))))
def M.aj.L : List Nat := [0, 1, 2, 6, 7, 8, 9, 10]
def M.aj.pl : Nat → pp := fun id => cond (Nat.beq id 5) ⟨(gS 0 13 (.eff 13 (.go 14 (.go 15 .nil)) .ie)), [13], false, [0, 0, 3, 7, 15, 15, 63, 127, 15, 15, 527, 1807, 3855, 8191, 16383, 32767]⟩ (cond (Nat.beq id 11) ⟨(gS 0 15 (.eff 15 (.go 16 (.eff 17 .nil .ie)) .ie)), [15, 17], false, [0, 0, 0, 0, 8, 0, 0, 64, 224, 480, 0, 0, 3072, 7168, 16355, 32739, 65535, 131071]⟩ (cond (Nat.beq id 16) ⟨(gS 0 9 (.eff 9 (.go 10 .nil) .ie)), [9], false, [0, 0, 3, 7, 0, 0, 32, 112, 240, 511, 1023]⟩ (cond (Nat.beq id 17) ⟨(gS 0 15 (.eff 15 (.go 16 (.eff 17 .nil .ie)) .ie)), [15, 17], false, [0, 0, 0, 0, 8, 0, 0, 64, 224, 480, 0, 0, 3072, 7168, 16355, 32739, 65535, 131071]⟩ (cond (Nat.beq id 22) ⟨(gS 0 9 (.eff 9 (.go 10 .nil) .ie)), [9], false, [0, 0, 3, 7, 0, 0, 32, 112, 240, 511, 1023]⟩ (cond (Nat.beq id 23) ⟨(gS 0 15 (.eff 15 (.go 16 (.eff 17 .nil .ie)) .ie)), [15, 17], false, [0, 0, 0, 0, 8, 0, 0, 64, 224, 480, 0, 0, 3072, 7168, 16355, 32739, 65535, 131071]⟩ (⟨.nil, [], false, []⟩))))))
def M.cv.L : List Nat := [0, 1, 2, 6, 8, 9, 10, 7]
def M.cv.pl : Nat → pp := fun id => cond (Nat.beq id 10) ⟨(gS 0 17 (.eff 17 (.go 18 (.eff 19 .nil .ie)) .ie)), [17, 19], false, [0, 0, 0, 0, 0, 24, 0, 0, 0, 384, 960, 1984, 0, 0, 12288, 28672, 65475, 131011, 262143, 524287]⟩ (⟨.nil, [], false, []⟩)
def M.ej.L : List Nat := [0, 1, 2, 3, 8, 9]
def M.ej.pl : Nat → pp := fun id => cond (Nat.beq id 1) ⟨(gS 0 8 (.eff 8 .nil .ie)), [8], false, [0, 0, 3, 7, 0, 0, 48, 112, 255]⟩ (⟨.nil, [], false, []⟩)
def M.ek.L : List Nat := [0, 1, 2, 3, 4, 10]
def M.ek.pl : Nat → pp := fun id => ⟨.nil, [], false, []⟩
def M.dq.L : List Nat := [0, 1, 2, 6]
def M.dq.pl : Nat → pp := fun id => ⟨.nil, [], false, []⟩
def M.dr.L : List Nat := [0, 1, 2, 6, 7, 8, 10, 11, 12, 51, 54, 9]
def M.dr.pl : Nat → pp := fun id => ⟨.nil, [], false, []⟩
def M.dw.L : List Nat := [0, 1, 2, 6, 7]
def M.dw.pl : Nat → pp := fun id => cond (Nat.beq id 3) ⟨(gS 0 13 (.eff 13 (.go 14 (.eff 15 .nil .ie)) .ie)), [13, 15], false, [0, 0, 0, 0, 0, 0, 48, 112, 0, 0, 768, 1792, 4083, 8179, 16383, 32767]⟩ (⟨.nil, [], false, []⟩)
def M.be.L : List Nat := [0, 1, 2, 3, 8, 9, 10, 11, 12, 13, 14, 15, 16, 17, 18]
def M.be.pl : Nat → pp := fun id => cond (Nat.beq id 17) ⟨(gS 0 12 (.eff 12 (.go 13 (.go 14 .nil)) .ie)), [12], false, [0, 1, 3, 7, 7, 23, 63, 127, 7, 7, 775, 1799, 4095, 8191, 16383]⟩ (⟨.nil, [], false, []⟩)
def M.ds.L : List Nat := [0, 2]
def M.ds.pl : Nat → pp := fun id => ⟨.nil, [], false, []⟩
class SE extends SD where
 bfr : ni P sl = true
 sz : szE P sl = 1
 ld : ∀ (b i : Nat) (w : World) (K : KV), ldT P el (.pointer (some ⟨b, i, none⟩)) w K = ld1 P b i w K
 st : ∀ (b i : Nat) (x : Int) (w : World) (K : KV), stT P el (.pointer (some ⟨b, i, none⟩)) (.int k x) w K = st1 P b i (.int k x) w K
 asi : C2 awn M.dp
 ata : fC awn
 ayz : C1 bei M.ei
 axn : fC bei
 axm : C3 bcs M.cm
 ayl : fC bcs
 apa : C4 axk M.bt
 aqx : fC axk
 apj : C3 axr M.cj
 apw : fC axr
 arr : C4 axf M.aq
 arh : fC axf
 axd : C4 bfp M.cn
 ayh : fC bfp
 asc : C3 awg M.aj
 apz : fC awg
 awf : C3 bdr M.cv
 awy : fC bdr
 aye : C4 bdz M.ej
 ayg : fC bdz
 awm : C5 beg M.ek
 ayv : fC beg
 arv : C3 awq M.dq
 asu : fC awq
 azd : C3 bdn M.dr
 awu : fC bdn
 aze : C3 bfa M.dw
 awr : fC bfa
 ayx : C4 bcx M.be
 awv : fC bcx
 ate : C1 axa M.ds
 bbt : fC axa
section
variable [SE]
@[simp] theorem SE.bwk : ni P T.aj = true := SE.bfr
@[simp] theorem SE.sz' : szE P T.aj = 1 := SE.sz
@[simp] theorem SE.ld' (b i : Nat) (w : World) (K : KV) : ldT P T.ai (.pointer (some ⟨b, i, none⟩)) w K = ld1 P b i w K := SE.ld b i w K
@[simp] theorem SE.st' (b i : Nat) (x : Int) (w : World) (K : KV) : stT P T.ai (.pointer (some ⟨b, i, none⟩)) (.int SD.k x) w K = st1 P b i (.int SD.k x) w K := SE.st b i x w K
theorem M.dp.calls : C2 F.dg M.dp := SE.asi
theorem M.dp.fcall : fC F.dg := SE.ata
theorem M.ei.calls : C1 F.fw M.ei := SE.ayz
theorem M.ei.fcall : fC F.fw := SE.axn
theorem M.cm.calls : C3 F.fx M.cm := SE.axm
theorem M.cm.fcall : fC F.fx := SE.ayl
theorem M.bt.calls : C4 F.fp M.bt := SE.apa
theorem M.bt.fcall : fC F.fp := SE.aqx
theorem M.cj.calls : C3 F.ft M.cj := SE.apj
theorem M.cj.fcall : fC F.ft := SE.apw
theorem M.aq.calls : C4 F.fu M.aq := SE.arr
theorem M.aq.fcall : fC F.fu := SE.arh
theorem M.cn.calls : C4 F.fy M.cn := SE.axd
theorem M.cn.fcall : fC F.fy := SE.ayh
theorem M.aj.calls : C3 F.fv M.aj := SE.asc
theorem M.aj.fcall : fC F.fv := SE.apz
theorem M.cv.calls : C3 F.fz M.cv := SE.awf
theorem M.cv.fcall : fC F.fz := SE.awy
theorem M.ej.calls : C4 F.fq M.ej := SE.aye
theorem M.ej.fcall : fC F.fq := SE.ayg
theorem M.ek.calls : C5 F.fr M.ek := SE.awm
theorem M.ek.fcall : fC F.fr := SE.ayv
theorem M.dq.calls : C3 F.fm M.dq := SE.arv
theorem M.dq.fcall : fC F.fm := SE.asu
theorem M.dr.calls : C3 F.ga M.dr := SE.azd
theorem M.dr.fcall : fC F.ga := SE.awu
theorem M.dw.calls : C3 F.gb M.dw := SE.aze
theorem M.dw.fcall : fC F.gb := SE.awr
theorem M.be.calls : C4 F.fs M.be := SE.ayx
theorem M.be.fcall : fC F.fs := SE.awv
theorem M.ds.calls : C1 F.gc M.ds := SE.ate
end
abbrev sdI : SD := ⟨.i64, T.b, T.ac, F.ci, F.ce, F.s, F.aj, F.ai, F.ad, F.q, F.f, F.t, F.ap, F.ao, F.r, F.y, F.v, F.ak, F.ab⟩
theorem M.dp.callsI : C2 F.ci (@M.dp sdI) := @mk2 _ _ M.dp.L M.dp.pl _ FN.ci.at (by kernel_rfl)
theorem M.ei.callsI : C1 F.ce (@M.ei sdI) := @mk1 _ _ M.ei.L M.ei.pl _ FN.ce.at (by kernel_rfl)
theorem M.cm.callsI : C3 F.s (@M.cm sdI) := @mk3 _ _ M.cm.L M.cm.pl _ FN.s.at (by kernel_rfl)
theorem M.bt.callsI : C4 F.aj (@M.bt sdI) := @mk4 _ _ M.bt.L M.bt.pl _ FN.aj.at (by kernel_rfl)
theorem M.cj.callsI : C3 F.ai (@M.cj sdI) := @mk3 _ _ M.cj.L M.cj.pl _ FN.ai.at (by kernel_rfl)
theorem M.aq.callsI : C4 F.ad (@M.aq sdI) := @mk4 _ _ M.aq.L M.aq.pl _ FN.ad.at (by kernel_rfl)
theorem M.cn.callsI : C4 F.q (@M.cn sdI) := @mk4 _ _ M.cn.L M.cn.pl _ FN.q.at (by kernel_rfl)
theorem M.aj.callsI : C3 F.f (@M.aj sdI) := @mk3 _ _ M.aj.L M.aj.pl _ FN.f.at (by kernel_rfl)
theorem M.cv.callsI : C3 F.t (@M.cv sdI) := @mk3 _ _ M.cv.L M.cv.pl _ FN.t.at (by kernel_rfl)
theorem M.ej.callsI : C4 F.ap (@M.ej sdI) := @mk4 _ _ M.ej.L M.ej.pl _ FN.ap.at (by kernel_rfl)
theorem M.ek.callsI : C5 F.ao (@M.ek sdI) := @mk5 _ _ M.ek.L M.ek.pl _ FN.ao.at (by kernel_rfl)
theorem M.dq.callsI : C3 F.r (@M.dq sdI) := @mk3 _ _ M.dq.L M.dq.pl _ FN.r.at (by kernel_rfl)
theorem M.dr.callsI : C3 F.y (@M.dr sdI) := @mk3 _ _ M.dr.L M.dr.pl _ FN.y.at (by kernel_rfl)
theorem M.dw.callsI : C3 F.v (@M.dw sdI) := @mk3 _ _ M.dw.L M.dw.pl _ FN.v.at (by kernel_rfl)
theorem M.be.callsI : C4 F.ak (@M.be sdI) := @mk4 _ _ M.be.L M.be.pl _ FN.ak.at (by kernel_rfl)
theorem M.ds.callsI : C1 F.ab (@M.ds sdI) := @mk1 _ _ M.ds.L M.ds.pl _ FN.ab.at (by kernel_rfl)
abbrev seI : SE where
 toSD := sdI
 bfr := by kernel_rfl
 sz := by kernel_rfl
 ld := fun b i w K => Eq.trans (by kernel_rfl) rfl
 st := fun b i x w K => Eq.trans (by kernel_rfl) rfl
 asi := M.dp.callsI
 ata := fcN FN.ci.at (by kernel_rfl)
 ayz := M.ei.callsI
 axn := fcN FN.ce.at (by kernel_rfl)
 axm := M.cm.callsI
 ayl := fcN FN.s.at (by kernel_rfl)
 apa := M.bt.callsI
 aqx := fcN FN.aj.at (by kernel_rfl)
 apj := M.cj.callsI
 apw := fcN FN.ai.at (by kernel_rfl)
 arr := M.aq.callsI
 arh := fcN FN.ad.at (by kernel_rfl)
 axd := M.cn.callsI
 ayh := fcN FN.q.at (by kernel_rfl)
 asc := M.aj.callsI
 apz := fcN FN.f.at (by kernel_rfl)
 awf := M.cv.callsI
 awy := fcN FN.t.at (by kernel_rfl)
 aye := M.ej.callsI
 ayg := fcN FN.ap.at (by kernel_rfl)
 awm := M.ek.callsI
 ayv := fcN FN.ao.at (by kernel_rfl)
 arv := M.dq.callsI
 asu := fcN FN.r.at (by kernel_rfl)
 azd := M.dr.callsI
 awu := fcN FN.y.at (by kernel_rfl)
 aze := M.dw.callsI
 awr := fcN FN.v.at (by kernel_rfl)
 ayx := M.be.callsI
 awv := fcN FN.ak.at (by kernel_rfl)
 ate := M.ds.callsI
 bbt := fcN FN.ab.at (by kernel_rfl)
abbrev sdU : SD := ⟨.u64, T.g, T.j, F.bo, F.al, F.l, F.x, F.w, F.u, F.i, F.e, F.m, F.ae, F.ac, F.j, F.p, F.o, F.aa, F.d⟩
theorem M.dp.callsU : C2 F.bo (@M.dp sdU) := @mk2 _ _ M.dp.L M.dp.pl _ FN.bo.at (by kernel_rfl)
theorem M.ei.callsU : C1 F.al (@M.ei sdU) := @mk1 _ _ M.ei.L M.ei.pl _ FN.al.at (by kernel_rfl)
theorem M.cm.callsU : C3 F.l (@M.cm sdU) := @mk3 _ _ M.cm.L M.cm.pl _ FN.l.at (by kernel_rfl)
theorem M.bt.callsU : C4 F.x (@M.bt sdU) := @mk4 _ _ M.bt.L M.bt.pl _ FN.x.at (by kernel_rfl)
theorem M.cj.callsU : C3 F.w (@M.cj sdU) := @mk3 _ _ M.cj.L M.cj.pl _ FN.w.at (by kernel_rfl)
theorem M.aq.callsU : C4 F.u (@M.aq sdU) := @mk4 _ _ M.aq.L M.aq.pl _ FN.u.at (by kernel_rfl)
theorem M.cn.callsU : C4 F.i (@M.cn sdU) := @mk4 _ _ M.cn.L M.cn.pl _ FN.i.at (by kernel_rfl)
theorem M.aj.callsU : C3 F.e (@M.aj sdU) := @mk3 _ _ M.aj.L M.aj.pl _ FN.e.at (by kernel_rfl)
theorem M.cv.callsU : C3 F.m (@M.cv sdU) := @mk3 _ _ M.cv.L M.cv.pl _ FN.m.at (by kernel_rfl)
theorem M.ej.callsU : C4 F.ae (@M.ej sdU) := @mk4 _ _ M.ej.L M.ej.pl _ FN.ae.at (by kernel_rfl)
theorem M.ek.callsU : C5 F.ac (@M.ek sdU) := @mk5 _ _ M.ek.L M.ek.pl _ FN.ac.at (by kernel_rfl)
theorem M.dq.callsU : C3 F.j (@M.dq sdU) := @mk3 _ _ M.dq.L M.dq.pl _ FN.j.at (by kernel_rfl)
theorem M.dr.callsU : C3 F.p (@M.dr sdU) := @mk3 _ _ M.dr.L M.dr.pl _ FN.p.at (by kernel_rfl)
theorem M.dw.callsU : C3 F.o (@M.dw sdU) := @mk3 _ _ M.dw.L M.dw.pl _ FN.o.at (by kernel_rfl)
theorem M.be.callsU : C4 F.aa (@M.be sdU) := @mk4 _ _ M.be.L M.be.pl _ FN.aa.at (by kernel_rfl)
theorem M.ds.callsU : C1 F.d (@M.ds sdU) := @mk1 _ _ M.ds.L M.ds.pl _ FN.d.at (by kernel_rfl)
abbrev seU : SE where
 toSD := sdU
 bfr := by kernel_rfl
 sz := by kernel_rfl
 ld := fun b i w K => Eq.trans (by kernel_rfl) rfl
 st := fun b i x w K => Eq.trans (by kernel_rfl) rfl
 asi := M.dp.callsU
 ata := fcN FN.bo.at (by kernel_rfl)
 ayz := M.ei.callsU
 axn := fcN FN.al.at (by kernel_rfl)
 axm := M.cm.callsU
 ayl := fcN FN.l.at (by kernel_rfl)
 apa := M.bt.callsU
 aqx := fcN FN.x.at (by kernel_rfl)
 apj := M.cj.callsU
 apw := fcN FN.w.at (by kernel_rfl)
 arr := M.aq.callsU
 arh := fcN FN.u.at (by kernel_rfl)
 axd := M.cn.callsU
 ayh := fcN FN.i.at (by kernel_rfl)
 asc := M.aj.callsU
 apz := fcN FN.e.at (by kernel_rfl)
 awf := M.cv.callsU
 awy := fcN FN.m.at (by kernel_rfl)
 aye := M.ej.callsU
 ayg := fcN FN.ae.at (by kernel_rfl)
 awm := M.ek.callsU
 ayv := fcN FN.ac.at (by kernel_rfl)
 arv := M.dq.callsU
 asu := fcN FN.j.at (by kernel_rfl)
 azd := M.dr.callsU
 awu := fcN FN.p.at (by kernel_rfl)
 aze := M.dw.callsU
 awr := fcN FN.o.at (by kernel_rfl)
 ayx := M.be.callsU
 awv := fcN FN.aa.at (by kernel_rfl)
 ate := M.ds.callsU
 bbt := fcN FN.d.at (by kernel_rfl)
end Go.Proofs.YtfnhoaemapheoaaGreat
set_option maxRecDepth 100000
namespace Go.Proofs.YtfnhoaemapheoaaGreat.SG
open Go.Eng Go.Sort
variable [SE]
def Rw (w : World) (g : Nat) (e : TypeId) (cap : Nat) (d : Array Int) : Prop := ∃ cur : Array Value, w.heap[g]? = some (.cells cur e (0, 0)) ∧ cur.size = cap ∧ d.size ≤ cap ∧ ∀ j, j < d.size → cur[j]? = some (.int SD.k d[j]!)
section
variable {w w' : World} {g cap : Nat} {e : TypeId} {d : Array Int} {S : Nat → Prop}
theorem Rw.at (h : Rw w g e cap d) {j : Nat} (hj : j < d.size) : gr w g j = some (.int SD.k d[j]!) := by
 obtain ⟨cur, h1, _, _, h4⟩ := h
 rw [gq h1]; exact h4 j hj
theorem Rw.frz (h : Rw w g e cap d) (j : Nat) : qg w g j = false := by
 obtain ⟨cur, h1, _⟩ := h
 exact nl h1 j
theorem Rw.lt (h : Rw w g e cap d) : g < w.heap.size := by
 obtain ⟨cur, h1, _⟩ := h
 exact oh h1
theorem Rw.heap (h : Rw w g e cap d) (he : w'.heap[g]? = w.heap[g]?) : Rw w' g e cap d := by
 obtain ⟨cur, h1, h2⟩ := h
 exact ⟨cur, he.trans h1, h2⟩
theorem Rw.fr (h : Rw w g e cap d) (hf : Fr S w w') (hn : ¬ S g) : Rw w' g e cap d := h.heap (hf.ju g h.lt hn)
omit [SE] in
theorem bjq (d : Array Int) {i : Nat} (hi : i < d.size) (x : Int) (j : Nat) : (d.setIfInBounds i x)[j]! = if i = j then x else d[j]! := by
 by_cases h : i = j
 ·subst h; simp [hi]
 ·simp [h, getElem!_def, Array.getElem?_setIfInBounds]
theorem Rw.set (h : Rw w g e cap d) {i : Nat} (hi : i < d.size) (x : Int) : Rw (w.setCell ⟨g, i, none⟩ (.int SD.k x)) g e cap (d.setIfInBounds i x) := by
 obtain ⟨cur, h1, h2, h3, h4⟩ := h
 refine ⟨cur.setIfInBounds i (.int SD.k x), mi h1, by simpa using h2, by simpa using h3, fun j hj => ?_⟩
 have hj' : j < d.size := by simpa using hj
 rw [bjq d hi, Array.getElem?_setIfInBounds]
 by_cases hij : i = j
 ·subst hij; simp [h2]; omega
 ·rw [if_neg hij, if_neg hij]; exact h4 j hj'
theorem Rw.swp (h : Rw w g e cap d) {i j : Nat} (hi : i < d.size) (hj : j < d.size) : Rw ((w.setCell ⟨g, i, none⟩ (.int SD.k d[j]!)).setCell ⟨g, j, none⟩ (.int SD.k d[i]!)) g e cap (Sort.swp d i j) := by
 have := (h.set hi d[j]!).set (i := j) (by simpa using hj) d[i]!
 exact this
theorem Rw.dr (h : Rw w g e cap d) (n : Nat) : Rw (Eng.dr w n) g e cap d := h.heap rfl
structure Rf (w w' : World) (g : Nat) (e : TypeId) (cap : Nat) (d : Array Int) : Prop where
 row : Rw w' g e cap d
 fr : Fr (fun b => b = g) w w'
theorem Rw.wh (h : Rw w g e cap d) : Rf w w g e cap d := ⟨h, Fr.refl _ _⟩
theorem Rf.dr (h : Rf w w' g e cap d) (n : Nat) : Rf w (Eng.dr w' n) g e cap d := ⟨h.row.dr n, h.fr.dr n⟩
theorem Rf.swp (h : Rf w w' g e cap d) {i j : Nat} (hi : i < d.size) (hj : j < d.size) : Rf w ((w'.setCell ⟨g, i, none⟩ (.int SD.k d[j]!)).setCell ⟨g, j, none⟩ (.int SD.k d[i]!)) g e cap (Sort.swp d i j) :=
 ⟨h.row.swp hi hj, (h.fr.setCell (.inl rfl) _ _).setCell (.inl rfl) _ _⟩
theorem Rf.trans {w'' : World} {d' : Array Int} (h : Rf w w' g e cap d) (h' : Rf w' w'' g e cap d') : Rf w w'' g e cap d' := ⟨h'.row, h.fr.trans h'.fr⟩
end
theorem qz {w : World} (x y : Int) {K : KV} (h : K (.bool (ltInt x y)) w) : gi P F.dg [.int SD.k x, .int SD.k y] w K := by
 have nan : ∀ (z : Int) {K : KV}, K (.bool false) w → gi P F.fw [.int SD.k z] w K := fun z K hK => by
  rw [M.ei.fcall]
  apply M.ei.calls
  unfold M.ei
  simp
  exact hK
 rw [M.dp.fcall]
 apply M.dp.calls
 unfold M.dp
 refine nan x ?_
 simp
 exact h
omit [SE] in
theorem bls {x : Nat} (h : x < 1000000) : IntKind.i64.wrap (x : Int) = x := gy (by omega) (by omega)
omit [SE] in
theorem pz {x : Nat} (h : x < 1000000) : IntKind.i64.wrap ((x : Int) + 1) = ((x + 1 : Nat) : Int) := by rw [gy (by omega) (by omega)]; rfl
omit [SE] in
theorem xt {x y : Nat} (h : y ≤ x) (hx : x < 1000000) : IntKind.i64.wrap ((x : Int) - y) = ((x - y : Nat) : Int) := by rw [gy (by omega) (by omega)]; omega
def InI (w : World) (g : Nat) (e : TypeId) (cap n a : Nat) (R : Array Int) : KL := fun x w1 => ∃ (j : Nat) (d : Array Int), x = [.int .i64 (j : Int)] ∧ Rf w w1 g e cap d ∧ d.size = n ∧ j < n ∧ insInner ltInt a j d = R
def InO (w : World) (g : Nat) (e : TypeId) (cap n a b : Nat) (R : Array Int) : KL := fun x w1 => ∃ (u : Value) (i : Nat) (d : Array Int), x = [u, .int .i64 (i : Int)] ∧ Rf w w1 g e cap d ∧ d.size = n ∧ insOuter ltInt a b i d = R
theorem agl {w : World} {g cap n : Nat} {e : TypeId} {d : Array Int} (H : Rw w g e cap d) (hn : d.size = n) (h6 : n < 100000) {a b : Nat} (hb : b ≤ n) (ha : a ≤ n) {K : KV}
  (h : ∀ w', Rf w w' g e cap (insertionSort ltInt d a b) → K (.tuple #[]) w') : jy P F.fx [.slice (some ⟨g, 0, none⟩) n cap, .int .i64 a, .int .i64 b] w K := by
 apply M.cm.calls
 unfold M.cm
 simp only [kq, pz (show a < 1000000 by omega)]
 refine ⟨InO w g e cap n a b (insertionSort ltInt d a b), fun x _ => b - ms x 1, ⟨_, a + 1, d, rfl, H.wh, hn, rfl⟩, ?_⟩
 rintro x w1 ⟨u, i, d1, rfl, H1, hn1, hR⟩
 have g1 : ∀ u v : Value, gv [u, v] 1 = v := fun _ _ => rfl
 have g0 : ∀ u : Value, gv [u] 0 = u := fun _ => rfl
 unfold M.cm.j0
 simp only [gm, g1]
 unfold insOuter at hR
 by_cases hi : i < b
 ·simp [hi] at hR ⊢
  generalize hT : insInner ltInt a i d1 = T at *
  refine ⟨InI w g e cap n a T, fun x _ => ms x 0, ⟨i, d1, rfl, H1, hn1, by omega, hT⟩, ?_⟩
  rintro x w2 ⟨j, d2, rfl, H2, hn2, hj, hR2⟩
  have done : d2 = T → ∀ v w2, Rf w w2 g e cap d2 → InO w g e cap n a b (insertionSort ltInt d a b) [v, .int .i64 (IntKind.i64.wrap ((i : Int) + 1))] w2 ∧ b - ms [v, .int .i64 (IntKind.i64.wrap ((i : Int) + 1))] 1 < b - ms [u, .int .i64 (i : Int)] 1 := by
   intro hd v w2 H2
   rw [pz (by omega)]
   refine ⟨⟨v, i + 1, d2, rfl, H2, hn2, by rw [hd]; exact hR⟩, ?_⟩
   simp [ms, gv]; omega
  unfold M.cm.j3
  simp only [gm, g0]
  cases j with
  | zero =>
   simp [insInner] at hR2
   have := done hR2 (.int .i64 0) _ (H2.dr 1)
   have hz : ¬ (a : Int) < 0 := by omega
   simp [hz]
   simpa using this
  | succ j =>
   unfold insInner at hR2
   have hw := bls (show j < 1000000 by omega)
   by_cases hja : a < j + 1
   ·have hja' : (a : Int) < (j : Int) + 1 := by omega
    have c1 := H2.row.at (show j + 1 < d2.size by omega)
    have c0 := H2.row.at (show j < d2.size by omega)
    have hjn : (j : Int) < n := by omega
    have hjn' : (j : Int) + 1 < n := by omega
    have z1 : (0 : Int) ≤ (j : Int) + 1 := by omega
    simp [hja, hja', hw, c0, c1, hjn, hjn', z1] at hR2 ⊢
    refine qz _ _ ?_
    cases hl : ltInt d2[j + 1]! d2[j]! with
    | true =>
     simp [hl] at hR2 ⊢
     unfold M.cm.j4
     have f1 := H2.row.frz (j + 1)
     have f0 := H2.row.frz j
     simp [hw, c0, c1, hjn, hjn', z1, f0, f1, jr, jx]
     refine ⟨⟨j, _, rfl, ((H2.dr 1).dr 1).swp (by omega) (by omega), by rw [size_swp]; exact hn2, by omega, hR2⟩, ?_⟩
     simp [ms, gv]
    | false =>
     simp [hl] at hR2 ⊢
     have := done hR2 (.int .i64 ((j : Int) + 1)) _ (H2.dr 1)
     simpa using this
   ·have hja' : ¬ (a : Int) < (j : Int) + 1 := by omega
    simp [hja, hja'] at hR2 ⊢
    have := done hR2 (.int .i64 ((j : Int) + 1)) _ (H2.dr 1)
    simpa using this
 ·simp [hi] at hR ⊢
  subst hR
  exact h w1 H1
end Go.Proofs.YtfnhoaemapheoaaGreat.SG
set_option maxRecDepth 100000
namespace Go.Proofs.YtfnhoaemapheoaaGreat.SG
open Go.Eng Go.Sort
variable [SE]
omit [SE] in
theorem xv (hi first : Nat) : ∀ (n root : Nat) (d : Array Int), hi - root ≤ n → (siftDown ltInt hi first root d).size = d.size
 | 0, root, d, h => by
  unfold siftDown
  rw [dif_pos (by omega)]
 | n + 1, root, d, h => by
  unfold siftDown
  split
  ·rfl
  split
  ·split
   ·rfl
   split
   ·rw [xv hi first n _ _ (by omega), size_swp]
   ·rfl
  ·split
   ·rfl
   ·rw [xv hi first n _ _ (by omega), size_swp]
def SfI (w : World) (g : Nat) (e : TypeId) (cap n hi first : Nat) (R : Array Int) : KL := fun x w1 => ∃ (u : Value) (root : Nat) (d : Array Int), x = [u, .int .i64 (root : Int)] ∧ Rf w w1 g e cap d ∧ d.size = n ∧ root ≤ hi ∧ siftDown ltInt hi first root d = R
theorem avm {w : World} {g cap n : Nat} {e : TypeId} {d : Array Int} (H : Rw w g e cap d) (hn : d.size = n) (h6 : n < 100000) {lo hi first : Nat} (hb : first + hi ≤ n) (hlo : lo ≤ hi) {K : KV}
  (h : ∀ w', Rf w w' g e cap (siftDown ltInt hi first lo d) → K (.tuple #[]) w') : jy P F.fp [.slice (some ⟨g, 0, none⟩) n cap, .int .i64 lo, .int .i64 hi, .int .i64 first] w K := by
 apply M.bt.calls
 unfold M.bt
 generalize hR0 : siftDown ltInt hi first lo d = R0 at *
 refine ⟨SfI w g e cap n hi first R0, fun x _ => hi - ms x 1, ⟨_, lo, d, rfl, H.wh, hn, hlo, hR0⟩, ?_⟩
 clear hR0
 rintro x w1 ⟨u, root, d1, rfl, H1, hn1, hro, hR⟩
 have g1 : ∀ u v : Value, gv [u, v] 1 = v := fun _ _ => rfl
 have g0 : ∀ u : Value, gv [u] 0 = u := fun _ => rfl
 have w2 : IntKind.i64.wrap (2 * (root : Int)) = ((2 * root : Nat) : Int) := by rw [gy (by omega) (by omega)]; omega
 have w3 : IntKind.i64.wrap (((2 * root : Nat) : Int) + 1) = ((2 * root + 1 : Nat) : Int) := pz (by omega)
 have w4 : IntKind.i64.wrap (((2 * root + 1 : Nat) : Int) + 1) = ((2 * root + 2 : Nat) : Int) := pz (by omega)
 unfold M.bt.j0
 simp only [gm, g1, uh, kq, qn, w2, w3]
 unfold siftDown at hR
 by_cases h0 : 2 * root + 1 ≥ hi
 ·have h0' : (hi : Int) ≤ ((2 * root + 1 : Nat) : Int) := by omega
  rw [dif_pos h0] at hR
  subst hR
  simp only [h0', decide_true, Eng.cond_true]
  exact h w1 H1
 rw [dif_neg h0] at hR
 have h0' : ¬ (hi : Int) ≤ ((2 * root + 1 : Nat) : Int) := by omega
 simp only [h0', decide_false, Eng.cond_false]
 unfold M.bt.j1
 have wf : ∀ k : Nat, k < hi → IntKind.i64.wrap ((first : Int) + (k : Int)) = ((first + k : Nat) : Int) := fun k hk => by rw [gy (by omega) (by omega)]; omega
 -- behind the choice of the child
 have tail : ∀ (c : Nat) (w2 : World), Rf w w2 g e cap d1 → c < hi → root < c → (if !ltInt d1[first + root]! d1[first + c]! then d1 else siftDown ltInt hi first c (Sort.swp d1 (first + root) (first + c))) = R0 →
   M.bt.j2 (.int .i64 first) [u, .int .i64 root] (.slice (some ⟨g, 0, none⟩) n cap) [.int .i64 c] (fun x' w' => SfI w g e cap n hi first R0 x' w' ∧ hi - ms x' 1 < hi - ms [u, .int .i64 (root : Int)] 1) w2 K := by
  intro c w2 H2 hc hrc hR
  unfold M.bt.j2
  have a1 := H2.row.at (show first + root < d1.size by omega)
  have a2 := H2.row.at (show first + c < d1.size by omega)
  have b1 : ((first + root : Nat) : Int) < n := by omega
  have b2 : ((first + c : Nat) : Int) < n := by omega
  have wr := wf root (by omega)
  have wc := wf c hc
  simp only [gm, sg, wt, g1, g0, kq, wr, wc, true_and, and_true]
  simp [b1, b2, a1, a2, -Int.natCast_add]
  refine qz _ _ ?_
  cases hl : ltInt d1[first + root]! d1[first + c]! with
  | false =>
   simp [hl] at hR ⊢
   subst hR
   exact h _ (H2.dr 1)
  | true =>
   simp [hl] at hR ⊢
   unfold M.bt.j3
   have f1 := H2.row.frz (first + root)
   have f2 := H2.row.frz (first + c)
   simp only [gm, sg, wt, ach, g1, g0, kq, wr, wc, true_and, and_true]
   simp [b1, b2, a1, a2, f1, f2, jr, jx, -Int.natCast_add]
   refine ⟨⟨_, c, _, rfl, ((H2.dr 1).dr 1).swp (by omega) (by omega), by rw [size_swp]; exact hn1, by omega, hR⟩, ?_⟩
   simp [ms, gv]; omega
 have v1 : IntKind.i64.wrap ((first : Int) + ((2 * root + 1 : Nat) : Int)) = ((first + (2 * root + 1) : Nat) : Int) := wf _ (by omega)
 simp only [gm, sg, wt, kq, kz, w4, true_and, and_true, zy]
 by_cases h1 : 2 * root + 1 + 1 < hi
 ·have h1' : ((2 * root + 2 : Nat) : Int) < hi := by omega
  have v2 : IntKind.i64.wrap (((first + (2 * root + 1) : Nat) : Int) + 1) = ((first + (2 * root + 2) : Nat) : Int) := by rw [gy (by omega) (by omega)]; omega
  have a1 := H1.row.at (show first + (2 * root + 1) < d1.size by omega)
  have a2 := H1.row.at (show first + (2 * root + 2) < d1.size by omega)
  have b1 : ((first + (2 * root + 1) : Nat) : Int) < n := by omega
  have b2 : ((first + (2 * root + 2) : Nat) : Int) < n := by omega
  have e2 : first + (2 * root + 1) + 1 = first + (2 * root + 2) := by omega
  simp only [h1', decide_true, beq_self_eq_true, abg, kq, v1, v2]
  simp [b1, b2, a1, a2, -Int.natCast_add]
  refine qz _ _ ?_
  rw [e2] at hR
  cases hl : ltInt d1[first + (2 * root + 1)]! d1[first + (2 * root + 2)]! with
  | true =>
   simp only [h1, hl, decide_true, Bool.and_self, if_true] at hR
   have hx : 2 * root + 2 < hi := by omega
   simp only [hx, dif_pos] at hR
   simp [-Int.natCast_add]
   exact tail (2 * root + 2) _ (H1.dr 1) (by omega) (by omega) hR
  | false =>
   simp only [hl, Bool.and_false, Bool.false_eq_true, if_false] at hR
   simp [-Int.natCast_add]
   exact tail (2 * root + 1) _ (H1.dr 1) (by omega) (by omega) hR
 ·have h1' : ¬ ((2 * root + 2 : Nat) : Int) < hi := by omega
  simp only [h1, decide_false, Bool.false_and, Bool.false_eq_true, if_false] at hR
  simp only [h1', decide_false]
  simp [-Int.natCast_add]
  exact tail (2 * root + 1) _ (H1.dr 1) (by omega) (by omega) hR
def HbI (w : World) (g : Nat) (e : TypeId) (cap n hi first : Nat) (R : Array Int) : KL := fun x w1 => ∃ (k : Nat) (d : Array Int), x = [.int .i64 ((k : Int) - 1)] ∧ Rf w w1 g e cap d ∧ d.size = n ∧ k ≤ hi + 1 ∧ (k ≤ hi ∨ hi = 0) ∧ heapBuild ltInt hi first k d = R
def HpI (w : World) (g : Nat) (e : TypeId) (cap n hi first : Nat) (R : Array Int) : KL := fun x w1 => ∃ (k : Nat) (d : Array Int), x = [.int .i64 ((k : Int) - 1)] ∧ Rf w w1 g e cap d ∧ d.size = n ∧ k ≤ hi ∧ heapPop ltInt first k d = R
def mp (x : List Value) (i : Nat) : Nat := match gv x i with
 | .int _ k => (k + 1).toNat
 | _ => 0
theorem aua {w : World} {g cap n : Nat} {e : TypeId} {d : Array Int} (H : Rw w g e cap d) (hn : d.size = n) (h6 : n < 100000) {a b : Nat} (hb : b ≤ n) (hab : a < b) {K : KV}
  (h : ∀ w', Rf w w' g e cap (heapSort ltInt d a b) → K (.tuple #[]) w') : jy P F.ft [.slice (some ⟨g, 0, none⟩) n cap, .int .i64 a, .int .i64 b] w K := by
 apply M.cj.calls
 unfold M.cj
 have hw0 : IntKind.i64.wrap ((b : Int) - a) = ((b - a : Nat) : Int) := xt (by omega) (by omega)
 generalize hhi : b - a = hi at *
 have hw1 : IntKind.i64.wrap ((hi : Int) - 1) = ((hi - 1 : Nat) : Int) := by rw [gy (by omega) (by omega)]; omega
 have hw2 : IntKind.i64.wrap (((hi - 1 : Nat) : Int).tdiv 2) = (((hi - 1) / 2 : Nat) : Int) := by
  rw [Int.tdiv_eq_ediv_of_nonneg (by omega), gy (by omega) (by omega)]; omega
 have hw3 : (((hi - 1) / 2 : Nat) : Int) = (((hi - 1) / 2 + 1 : Nat) : Int) - 1 := by omega
 simp only [la, hw0, gm, hw1, arx, hw2]
 have g0 : ∀ u : Value, gv [u] 0 = u := fun _ => rfl
 generalize hZ : heapBuild ltInt hi a ((hi - 1) / 2 + 1) d = Z
 refine ⟨HbI w g e cap n hi a Z, fun x _ => mp x 0, ⟨(hi - 1) / 2 + 1, d, by rw [hw3], H.wh, hn, by omega, by omega, hZ⟩, ?_⟩
 rintro x w1 ⟨k, d1, rfl, H1, hn1, hk, hk2, hR⟩
 unfold M.cj.j1
 simp only [gm, g0, qn]
 cases k with
 | succ k =>
  have hk0 : (0 : Int) ≤ ((k + 1 : Nat) : Int) - 1 := by omega
  have hk1 : ((k + 1 : Nat) : Int) - 1 = (k : Int) := by omega
  simp only [hk0, decide_true, Eng.cond_true, hk1]
  rw [M.bt.fcall]
  refine avm H1.row hn1 h6 (by omega) (by omega) fun w2 H2 => ?_
  have hw4 : IntKind.i64.wrap ((k : Int) - 1) = (k : Int) - 1 := gy (by omega) (by omega)
  simp only [la, hw4]
  refine ⟨⟨k, _, rfl, H1.trans H2, by rw [xv _ _ _ _ _ (Nat.le_refl _)]; exact hn1, by omega, by omega, hR⟩, ?_⟩
  simp [mp, gv]
 | zero =>
  have hk0 : ¬ (0 : Int) ≤ ((0 : Nat) : Int) - 1 := by omega
  simp only [hk0, decide_false, Eng.cond_false]
  unfold heapBuild at hR
  unfold M.cj.j0
  have hw5 : ((hi - 1 : Nat) : Int) = (hi : Int) - 1 := by omega
  simp only [la, hw1, hw5]
  have hR2 : heapPop ltInt a hi d1 = heapSort ltInt d a b := by
   unfold heapSort
   rw [hhi, hZ, ← hR]
  refine ⟨HpI w g e cap n hi a (heapSort ltInt d a b), fun x _ => mp x 0, ⟨hi, d1, rfl, H1, hn1, Nat.le_refl _, hR2⟩, ?_⟩
  rintro x w2 ⟨k, d2, rfl, H2, hn2, hk, hR3⟩
  simp only [gm, g0, qn]
  cases k with
  | zero =>
   have hk0 : ¬ (0 : Int) ≤ ((0 : Nat) : Int) - 1 := by omega
   simp only [hk0, decide_false, Eng.cond_false]
   unfold heapPop at hR3
   subst hR3
   exact h w2 H2
  | succ k =>
   have hk0 : (0 : Int) ≤ ((k + 1 : Nat) : Int) - 1 := by omega
   have hk1 : ((k + 1 : Nat) : Int) - 1 = (k : Int) := by omega
   simp only [hk0, decide_true, Eng.cond_true, hk1]
   unfold heapPop at hR3
   unfold M.cj.j5
   have wr : IntKind.i64.wrap ((a : Int) + (k : Int)) = ((a + k : Nat) : Int) := by rw [gy (by omega) (by omega)]; omega
   have a1 := H2.row.at (show a < d2.size by omega)
   have a2 := H2.row.at (show a + k < d2.size by omega)
   have b1 : (a : Int) < n := by omega
   have b2 : ((a + k : Nat) : Int) < n := by omega
   have f1 := H2.row.frz a
   have f2 := H2.row.frz (a + k)
   have hw4 : IntKind.i64.wrap ((k : Int) - 1) = (k : Int) - 1 := gy (by omega) (by omega)
   simp only [gm, sg, wt, ach, g0, kq, la, wr, hw4, true_and, and_true]
   simp [b1, b2, a1, a2, f1, f2, jr, jx, -Int.natCast_add]
   have H3 := (H2.dr 1).swp (i := a) (j := a + k) (by omega) (by omega)
   rw [M.bt.fcall]
   refine avm (lo := 0) H3.row (by rw [size_swp]; exact hn2) h6 (by omega) (by omega) fun w4 H4 => ?_
   refine ⟨⟨k, _, rfl, H3.trans H4, by rw [xv _ _ _ _ _ (Nat.le_refl _), size_swp]; exact hn2, by omega, hR3⟩, ?_⟩
   simp [mp, gv]
end Go.Proofs.YtfnhoaemapheoaaGreat.SG
set_option maxRecDepth 100000
namespace Go.Proofs.YtfnhoaemapheoaaGreat.SG
open Go.Eng Go.Sort
variable [SE]
section
variable {w : World} {g cap n : Nat} {e : TypeId} {d : Array Int}
def UpI (w : World) (g : Nat) (e : TypeId) (cap : Nat) (d : Array Int) (p : Int → Bool) (j r : Nat) : KL := fun x w1 => ∃ i : Nat, x = [.int .i64 (i : Int)] ∧ Rf w w1 g e cap d ∧ i ≤ j + 2 ∧ scanUp p d j i = r
def DnI (w : World) (g : Nat) (e : TypeId) (cap : Nat) (d : Array Int) (p : Int → Bool) (i n r : Nat) : KL := fun x w1 => ∃ j : Nat, x = [.int .i64 (j : Int)] ∧ Rf w w1 g e cap d ∧ j < n ∧ scanDown p d i j = r
theorem alu {p : Int → Bool} {i j : Nat} (H : Rw w g e cap d) (hi : i ≤ j + 2) {K0 : KL} {body : KL → KL → KL}
  (hB : ∀ (k : Nat) w1 (Kn : KL), k ≤ j + 2 → Rf w w1 g e cap d → ((k ≤ j ∧ p d[k]! = true) → ∀ w2, Rf w w2 g e cap d → Kn [.int .i64 ((k + 1 : Nat) : Int)] w2) → (¬ (k ≤ j ∧ p d[k]! = true) → ∀ w2, Rf w w2 g e cap d → K0 [.int .i64 (k : Int)] w2) → body K0 Kn [.int .i64 (k : Int)] w1)
  (h : ∀ w', Rf w w' g e cap d → K0 [.int .i64 (scanUp p d j i : Nat)] w') : gj (fun K0 => jb [.int .i64 (i : Int)] w (body K0)) K0 := by
 rw [gm]
 generalize hr : scanUp p d j i = r at *
 refine ⟨UpI w g e cap d p j r, fun x _ => j + 2 - ms x 0, ⟨i, rfl, H.wh, hi, hr⟩, ?_⟩
 clear hr
 rintro x w1 ⟨k, rfl, H1, hk, hR⟩
 unfold scanUp at hR
 refine hB k w1 _ hk H1 (fun hc w2 H2 => ?_) fun hc w2 H2 => ?_
 ·rw [if_pos (by simpa using hc)] at hR
  refine ⟨⟨k + 1, rfl, H2, by omega, hR⟩, ?_⟩
  simp [ms, gv]; omega
 ·rw [if_neg (by simpa using hc)] at hR
  rw [← hR] at h
  exact h w2 H2
theorem agd {p : Int → Bool} {i j : Nat} (H : Rw w g e cap d) (hj : j < n) (hi : 1 ≤ i) {K0 : KL} {body : KL → KL → KL}
  (hB : ∀ (k : Nat) w1 (Kn : KL), k < n → Rf w w1 g e cap d → ((i ≤ k ∧ p d[k]! = true) → ∀ w2, Rf w w2 g e cap d → Kn [.int .i64 ((k - 1 : Nat) : Int)] w2) → (¬ (i ≤ k ∧ p d[k]! = true) → ∀ w2, Rf w w2 g e cap d → K0 [.int .i64 (k : Int)] w2) → body K0 Kn [.int .i64 (k : Int)] w1)
  (h : ∀ w', Rf w w' g e cap d → K0 [.int .i64 (scanDown p d i j : Nat)] w') : gj (fun K0 => jb [.int .i64 (j : Int)] w (body K0)) K0 := by
 rw [gm]
 generalize hr : scanDown p d i j = r at *
 refine ⟨DnI w g e cap d p i n r, fun x _ => ms x 0, ⟨j, rfl, H.wh, hj, hr⟩, ?_⟩
 clear hr
 rintro x w1 ⟨k, rfl, H1, hk, hR⟩
 refine hB k w1 _ hk H1 (fun hc w2 H2 => ?_) fun hc w2 H2 => ?_
 ·cases k with
  | zero => omega
  | succ k =>
   unfold scanDown at hR
   rw [if_pos (by simpa using hc)] at hR
   refine ⟨⟨k, rfl, H2, by omega, hR⟩, ?_⟩
   simp [ms, gv]
 ·have : scanDown p d i k = k := by
   cases k with
   | zero => rfl
   | succ k => unfold scanDown; rw [if_neg (by simpa using hc)]
  rw [this] at hR
  rw [← hR] at h
  exact h w2 H2
omit [SE] in
theorem agc (p : Int → Bool) (d : Array Int) (j i : Nat) : scanUp p d j i ≤ max i (j + 1) := by
 by_cases h : i ≤ j + 1
 ·have := (scanUp_spec p d j _ i rfl).2.1 h
  omega
 ·unfold scanUp
  rw [if_neg (by simp; omega)]
  omega
omit [SE] in
theorem g0 (u : Value) : gv [u] 0 = u := rfl
omit [SE] in
theorem g20 (u v : Value) : gv [u, v] 0 = u := rfl
omit [SE] in
theorem g21 (u v : Value) : gv [u, v] 1 = v := rfl
theorem bic {w0 w1 : World} {a k j : Nat} {K0 Kn : KL} {K : KV} (H1 : Rf w0 w1 g e cap d) (hn : d.size = n) (h6 : n < 100000) (ha : a < n) (hj : j < n) (hk : k ≤ j + 2)
  (k1 : (k ≤ j ∧ ltInt d[k]! d[a]! = true) → ∀ w2, Rf w0 w2 g e cap d → Kn [.int .i64 ((k + 1 : Nat) : Int)] w2) (k2 : ¬ (k ≤ j ∧ ltInt d[k]! d[a]! = true) → ∀ w2, Rf w0 w2 g e cap d → K0 [.int .i64 (k : Int)] w2) :
  M.aq.j1 [.int .i64 (k : Int)] (.int .i64 (j : Int)) (.slice (some ⟨g, 0, none⟩) n cap) (.int .i64 (a : Int)) K0 Kn w1 K := by
 unfold M.aq.j1
 by_cases hkj : k ≤ j
 ·have a1 := H1.row.at (show k < d.size by omega)
  have a2 := H1.row.at (show a < d.size by omega)
  have b1 : (k : Int) < n := by omega
  have b2 : (a : Int) < n := by omega
  have b3 : (k : Int) ≤ j := by omega
  simp [g0, g21, b1, b2, b3, a1, a2]
  refine qz _ _ ?_
  cases hl : ltInt d[k]! d[a]! with
  | true =>
   simp [pz (show k < 1000000 by omega)]
   have := k1 ⟨hkj, hl⟩ _ (H1.dr 1)
   simpa using this
  | false =>
   simp [pz (show k < 1000000 by omega)]
   have := k2 (fun h => by simp [hl] at h) _ (H1.dr 1)
   simpa using this
 ·have b3 : ¬ (k : Int) ≤ j := by omega
  simp [g0, g21, b3]
  have := k2 (fun h => hkj h.1) _ (H1.dr 1)
  simpa using this
theorem big {w0 w1 : World} {a k i : Nat} {K0 Kn : KL} {K : KV} (H1 : Rf w0 w1 g e cap d) (hn : d.size = n) (h6 : n < 100000) (hai : a < n ∧ 1 ≤ i) (hk : k < n)
  (k1 : (i ≤ k ∧ (!ltInt d[k]! d[a]!) = true) → ∀ w2, Rf w0 w2 g e cap d → Kn [.int .i64 ((k - 1 : Nat) : Int)] w2) (k2 : ¬ (i ≤ k ∧ (!ltInt d[k]! d[a]!) = true) → ∀ w2, Rf w0 w2 g e cap d → K0 [.int .i64 (k : Int)] w2) :
  M.aq.j4 [.int .i64 (i : Int)] [.int .i64 (k : Int)] (.slice (some ⟨g, 0, none⟩) n cap) (.int .i64 (a : Int)) K0 Kn w1 K := by
 unfold M.aq.j4
 by_cases hik : i ≤ k
 ·have a1 := H1.row.at (show k < d.size by omega)
  have a2 := H1.row.at (show a < d.size by omega)
  have b1 : (k : Int) < n := by omega
  have b2 : (a : Int) < n := by omega
  have b3 : (i : Int) ≤ k := by omega
  have hw : IntKind.i64.wrap ((k : Int) - 1) = ((k - 1 : Nat) : Int) := by rw [gy (by omega) (by omega)]; omega
  simp [g0, b1, b2, b3, a1, a2]
  refine qz _ _ ?_
  cases hl : ltInt d[k]! d[a]! with
  | true =>
   simp [hw]
   have := k2 (fun h => by simp [hl] at h) _ (H1.dr 1)
   simpa using this
  | false =>
   simp [hw]
   have := k1 ⟨hik, by simp [hl]⟩ _ (H1.dr 1)
   simpa using this
 ·have b3 : ¬ (i : Int) ≤ k := by omega
  simp [g0, b3]
  have := k2 (fun h => hik h.1) _ (H1.dr 1)
  simpa using this
theorem bfb {w0 w1 : World} {vi : Value} {a k j : Nat} {K0 Kn : KL} {K : KV} (H1 : Rf w0 w1 g e cap d) (hn : d.size = n) (h6 : n < 100000) (ha : a < n) (hj : j < n) (hk : k ≤ j + 2)
  (k1 : (k ≤ j ∧ ltInt d[k]! d[a]! = true) → ∀ w2, Rf w0 w2 g e cap d → Kn [.int .i64 ((k + 1 : Nat) : Int)] w2) (k2 : ¬ (k ≤ j ∧ ltInt d[k]! d[a]! = true) → ∀ w2, Rf w0 w2 g e cap d → K0 [.int .i64 (k : Int)] w2) :
  M.aq.j10 [.int .i64 (k : Int)] [vi, .int .i64 (j : Int)] (.slice (some ⟨g, 0, none⟩) n cap) (.int .i64 (a : Int)) K0 Kn w1 K := by
 unfold M.aq.j10
 by_cases hkj : k ≤ j
 ·have a1 := H1.row.at (show k < d.size by omega)
  have a2 := H1.row.at (show a < d.size by omega)
  have b1 : (k : Int) < n := by omega
  have b2 : (a : Int) < n := by omega
  have b3 : (k : Int) ≤ j := by omega
  simp [g0, g21, b1, b2, b3, a1, a2]
  refine qz _ _ ?_
  cases hl : ltInt d[k]! d[a]! with
  | true =>
   simp [pz (show k < 1000000 by omega)]
   have := k1 ⟨hkj, hl⟩ _ (H1.dr 1)
   simpa using this
  | false =>
   simp [pz (show k < 1000000 by omega)]
   have := k2 (fun h => by simp [hl] at h) _ (H1.dr 1)
   simpa using this
 ·have b3 : ¬ (k : Int) ≤ j := by omega
  simp [g0, g21, b3]
  have := k2 (fun h => hkj h.1) _ (H1.dr 1)
  simpa using this
theorem bez {w0 w1 : World} {a k i : Nat} {K0 Kn : KL} {K : KV} (H1 : Rf w0 w1 g e cap d) (hn : d.size = n) (h6 : n < 100000) (hai : a < n ∧ 1 ≤ i) (hk : k < n)
  (k1 : (i ≤ k ∧ (!ltInt d[k]! d[a]!) = true) → ∀ w2, Rf w0 w2 g e cap d → Kn [.int .i64 ((k - 1 : Nat) : Int)] w2) (k2 : ¬ (i ≤ k ∧ (!ltInt d[k]! d[a]!) = true) → ∀ w2, Rf w0 w2 g e cap d → K0 [.int .i64 (k : Int)] w2) :
  M.aq.j13 [.int .i64 (i : Int)] [.int .i64 (k : Int)] (.slice (some ⟨g, 0, none⟩) n cap) (.int .i64 (a : Int)) K0 Kn w1 K := by
 unfold M.aq.j13
 by_cases hik : i ≤ k
 ·have a1 := H1.row.at (show k < d.size by omega)
  have a2 := H1.row.at (show a < d.size by omega)
  have b1 : (k : Int) < n := by omega
  have b2 : (a : Int) < n := by omega
  have b3 : (i : Int) ≤ k := by omega
  have hw : IntKind.i64.wrap ((k : Int) - 1) = ((k - 1 : Nat) : Int) := by rw [gy (by omega) (by omega)]; omega
  simp [g0, b1, b2, b3, a1, a2]
  refine qz _ _ ?_
  cases hl : ltInt d[k]! d[a]! with
  | true =>
   simp [hw]
   have := k2 (fun h => by simp [hl] at h) _ (H1.dr 1)
   simpa using this
  | false =>
   simp [hw]
   have := k1 ⟨hik, by simp [hl]⟩ _ (H1.dr 1)
   simpa using this
 ·have b3 : ¬ (i : Int) ≤ k := by omega
  simp [g0, b3]
  have := k2 (fun h => hik h.1) _ (H1.dr 1)
  simpa using this
theorem bia {w0 w1 : World} {vi : Value} {a k j : Nat} {K0 Kn : KL} {K : KV} (H1 : Rf w0 w1 g e cap d) (hn : d.size = n) (h6 : n < 100000) (ha : a < n) (hj : j < n) (hk : k ≤ j + 2)
  (k1 : (k ≤ j ∧ (!ltInt d[a]! d[k]!) = true) → ∀ w2, Rf w0 w2 g e cap d → Kn [.int .i64 ((k + 1 : Nat) : Int)] w2) (k2 : ¬ (k ≤ j ∧ (!ltInt d[a]! d[k]!) = true) → ∀ w2, Rf w0 w2 g e cap d → K0 [.int .i64 (k : Int)] w2) :
  M.cn.j3 [.int .i64 (k : Int)] [vi, .int .i64 (j : Int)] (.slice (some ⟨g, 0, none⟩) n cap) (.int .i64 (a : Int)) K0 Kn w1 K := by
 unfold M.cn.j3
 by_cases hkj : k ≤ j
 ·have a1 := H1.row.at (show k < d.size by omega)
  have a2 := H1.row.at (show a < d.size by omega)
  have b1 : (k : Int) < n := by omega
  have b2 : (a : Int) < n := by omega
  have b3 : (k : Int) ≤ j := by omega
  simp [g0, g21, b1, b2, b3, a1, a2]
  refine qz _ _ ?_
  cases hl : ltInt d[a]! d[k]! with
  | true =>
   simp [pz (show k < 1000000 by omega)]
   have := k2 (fun h => by simp [hl] at h) _ (H1.dr 1)
   simpa using this
  | false =>
   simp [pz (show k < 1000000 by omega)]
   have := k1 ⟨hkj, by simp [hl]⟩ _ (H1.dr 1)
   simpa using this
 ·have b3 : ¬ (k : Int) ≤ j := by omega
  simp [g0, g21, b3]
  have := k2 (fun h => hkj h.1) _ (H1.dr 1)
  simpa using this
theorem bhe {w0 w1 : World} {a k i : Nat} {K0 Kn : KL} {K : KV} (H1 : Rf w0 w1 g e cap d) (hn : d.size = n) (h6 : n < 100000) (hai : a < n ∧ 1 ≤ i) (hk : k < n)
  (k1 : (i ≤ k ∧ ltInt d[a]! d[k]! = true) → ∀ w2, Rf w0 w2 g e cap d → Kn [.int .i64 ((k - 1 : Nat) : Int)] w2) (k2 : ¬ (i ≤ k ∧ ltInt d[a]! d[k]! = true) → ∀ w2, Rf w0 w2 g e cap d → K0 [.int .i64 (k : Int)] w2) :
  M.cn.j6 [.int .i64 (i : Int)] [.int .i64 (k : Int)] (.slice (some ⟨g, 0, none⟩) n cap) (.int .i64 (a : Int)) K0 Kn w1 K := by
 unfold M.cn.j6
 by_cases hik : i ≤ k
 ·have a1 := H1.row.at (show k < d.size by omega)
  have a2 := H1.row.at (show a < d.size by omega)
  have b1 : (k : Int) < n := by omega
  have b2 : (a : Int) < n := by omega
  have b3 : (i : Int) ≤ k := by omega
  have hw : IntKind.i64.wrap ((k : Int) - 1) = ((k - 1 : Nat) : Int) := by rw [gy (by omega) (by omega)]; omega
  simp [g0, b1, b2, b3, a1, a2]
  refine qz _ _ ?_
  cases hl : ltInt d[a]! d[k]! with
  | true =>
   simp [hw]
   have := k1 ⟨hik, hl⟩ _ (H1.dr 1)
   simpa using this
  | false =>
   simp [hw]
   have := k2 (fun h => by simp [hl] at h) _ (H1.dr 1)
   simpa using this
 ·have b3 : ¬ (i : Int) ≤ k := by omega
  simp [g0, b3]
  have := k2 (fun h => hik h.1) _ (H1.dr 1)
  simpa using this
end
def PlI (w : World) (g : Nat) (e : TypeId) (cap n a b : Nat) (R : Nat × Array Int) : KL := fun x w1 => ∃ (i j : Nat) (d : Array Int), x = [.int .i64 (i : Int), .int .i64 (j : Int)] ∧ Rf w w1 g e cap d ∧ d.size = n ∧ a < i ∧ i ≤ j + 2 ∧ j < b ∧ partLoop ltInt a i j d = R
theorem aqk {w : World} {g cap n : Nat} {e : TypeId} {d : Array Int} (H : Rw w g e cap d) (hn : d.size = n) (h6 : n < 100000) {a b pv : Nat} (hb : b ≤ n) (ha : a ≤ pv) (hp : pv < b) {K : KV}
  (h : ∀ w', Rf w w' g e cap (partition ltInt d a b pv).2.2 → K (.tuple #[.int .i64 ((partition ltInt d a b pv).1 : Nat), .bool (partition ltInt d a b pv).2.1]) w') :
  jy P F.fu [.slice (some ⟨g, 0, none⟩) n cap, .int .i64 a, .int .i64 b, .int .i64 pv] w K := by
 apply M.aq.calls
 unfold M.aq
 have a1 := H.at (show a < d.size by omega)
 have a2 := H.at (show pv < d.size by omega)
 have b1 : (a : Int) < n := by omega
 have b2 : (pv : Int) < n := by omega
 have f1 := H.frz a
 have f2 := H.frz pv
 have hw1 : IntKind.i64.wrap ((a : Int) + 1) = ((a + 1 : Nat) : Int) := pz (by omega)
 have hw2 : IntKind.i64.wrap ((b : Int) - 1) = ((b - 1 : Nat) : Int) := by rw [gy (by omega) (by omega)]; omega
 simp [b1, b2, a1, a2, f1, f2, jr, jx, hw1, hw2, -Int.natCast_add, -gm]
 have H1 := (H.wh.dr 1).swp (i := a) (j := pv) (by omega) (by omega)
 generalize ((dr w 1).setCell ⟨g, a, none⟩ (.int SD.k d[pv]!)).setCell ⟨g, pv, none⟩ (.int SD.k d[a]!) = w1 at *
 clear a1 a2 f1 f2
 unfold partition at h
 have hn1 : (Sort.swp d a pv).size = n := by rw [size_swp]; exact hn
 generalize Sort.swp d a pv = d1 at *
 try simp only at h
 refine alu (p := fun x => ltInt x d1[a]!) (i := a + 1) (j := b - 1) H1.row (by omega) (fun k w2 Kn hk H2 k1 k2 => by refine bic H2 hn1 h6 (by omega) (by omega) hk ?_ ?_ <;> first | exact k1 | exact k2) fun w2 H2 => ?_
 have hge := scanUp_ge (fun x => ltInt x d1[a]!) d1 (b - 1) (a + 1)
 have hle := agc (fun x => ltInt x d1[a]!) d1 (b - 1) (a + 1)
 generalize scanUp (fun x => ltInt x d1[a]!) d1 (b - 1) (a + 1) = i at *
 refine agd (n := n) (p := fun x => !ltInt x d1[a]!) H2.row (by omega) (i := i) (j := b - 1) (by omega) (fun k w3 Kn hk H3 k1 k2 => by refine big H3 hn1 h6 (by omega) hk ?_ ?_ <;> first | exact k1 | exact k2) fun w3 H3 => ?_
 have hdl := scanDown_le (fun x => !ltInt x d1[a]!) d1 i (b - 1)
 generalize scanDown (fun x => !ltInt x d1[a]!) d1 i (b - 1) = j at *
 have H3' := H1.trans (H2.trans H3)
 unfold M.aq.j3
 have c1 := H3.row.at (show a < d1.size by omega)
 have c2 := H3.row.at (show j < d1.size by omega)
 have e1 : (j : Int) < n := by omega
 have f1 := H3.row.frz a
 have f2 := H3.row.frz j
 simp only [gm, g0]
 by_cases hij : i > j
 ·have hij' : (j : Int) < i := by omega
  rw [if_pos hij] at h
  simp [hij', b1, e1, c1, c2, f1, f2, jr, jx, -Int.natCast_add]
  exact h _ ((H3'.dr 1).swp (by omega) (by omega))
 ·have hij' : ¬ (j : Int) < i := by omega
  rw [if_neg hij] at h
  simp only [qj, hij', decide_false, Eng.cond_false]
  unfold M.aq.j6
  have c3 := H3.row.at (show i < d1.size by omega)
  have e2 : (i : Int) < n := by omega
  have f3 := H3.row.frz i
  have hw3 : IntKind.i64.wrap ((i : Int) + 1) = ((i + 1 : Nat) : Int) := pz (by omega)
  have hw4 : IntKind.i64.wrap ((j : Int) - 1) = ((j - 1 : Nat) : Int) := by rw [gy (by omega) (by omega)]; omega
  simp [g0, e1, e2, c2, c3, f2, f3, jr, jx, hw3, hw4, -Int.natCast_add, -gm]
  rw [gm]
  have H4 := (H3'.dr 1).swp (i := i) (j := j) (by omega) (by omega)
  generalize ((dr w3 1).setCell ⟨g, i, none⟩ (.int SD.k d1[j]!)).setCell ⟨g, j, none⟩ (.int SD.k d1[i]!) = w4 at *
  have hn2 : (Sort.swp d1 i j).size = n := by rw [size_swp]; exact hn1
  generalize Sort.swp d1 i j = d2 at *
  generalize hr : partLoop ltInt a (i + 1) (j - 1) d2 = r at *
  refine ⟨PlI w g e cap n a b r, fun x _ => ms x 1 + 2 - ms x 0, ⟨i + 1, j - 1, d2, rfl, H4, hn2, by omega, by omega, by omega, hr⟩, ?_⟩
  rintro x w5 ⟨i5, j5, d5, rfl, H5, hn5, ha5, hij5, hj5, hR⟩
  rw [partLoop_eq] at hR
  refine alu (p := fun x => ltInt x d5[a]!) (i := i5) (j := j5) H5.row hij5 (fun k w6 Kn hk H6 k1 k2 => by refine bfb H6 hn5 h6 (by omega) (by omega) hk ?_ ?_ <;> first | exact k1 | exact k2) fun w6 H6 => ?_
  have hge := scanUp_ge (fun x => ltInt x d5[a]!) d5 j5 i5
  have hle := agc (fun x => ltInt x d5[a]!) d5 j5 i5
  generalize scanUp (fun x => ltInt x d5[a]!) d5 j5 i5 = i6 at *
  unfold M.aq.j9
  simp only [g21]
  refine agd (n := n) (p := fun x => !ltInt x d5[a]!) H6.row (by omega) (i := i6) (j := j5) (by omega) (fun k w7 Kn hk H7 k1 k2 => by refine bez H7 hn5 h6 (by omega) hk ?_ ?_ <;> first | exact k1 | exact k2) fun w7 H7 => ?_
  have hdl := scanDown_le (fun x => !ltInt x d5[a]!) d5 i6 j5
  generalize scanDown (fun x => !ltInt x d5[a]!) d5 i6 j5 = j6 at *
  have H7' := H5.trans (H6.trans H7)
  try simp only at hR
  simp only [g0, gm]
  by_cases hgt : i6 > j6
  ·have hgt' : (j6 : Int) < i6 := by omega
   rw [if_pos hgt] at hR
   simp only [qj, hgt', decide_true, Eng.cond_true]
   unfold M.aq.j7
   have c1 := H7.row.at (show a < d5.size by omega)
   have c2 := H7.row.at (show j6 < d5.size by omega)
   have e1 : (j6 : Int) < n := by omega
   have f1 := H7.row.frz a
   have f2 := H7.row.frz j6
   simp [g21, b1, e1, c1, c2, f1, f2, jr, jx, -Int.natCast_add]
   subst hR
   exact h _ ((H7'.dr 1).swp (by omega) (by omega))
  ·have hgt' : ¬ (j6 : Int) < i6 := by omega
   rw [if_neg hgt] at hR
   simp only [qj, hgt', decide_false, Eng.cond_false]
   unfold M.aq.j15
   have c1 := H7.row.at (show i6 < d5.size by omega)
   have c2 := H7.row.at (show j6 < d5.size by omega)
   have e1 : (j6 : Int) < n := by omega
   have e2 : (i6 : Int) < n := by omega
   have f1 := H7.row.frz i6
   have f2 := H7.row.frz j6
   have hw3 : IntKind.i64.wrap ((i6 : Int) + 1) = ((i6 + 1 : Nat) : Int) := pz (by omega)
   have hw4 : IntKind.i64.wrap ((j6 : Int) - 1) = ((j6 - 1 : Nat) : Int) := by rw [gy (by omega) (by omega)]; omega
   simp [g0, e1, e2, c1, c2, f1, f2, jr, jx, hw3, hw4, -Int.natCast_add]
   refine ⟨⟨i6 + 1, j6 - 1, _, rfl, (H7'.dr 1).swp (by omega) (by omega), by rw [size_swp]; exact hn5, by omega, by omega, by omega, hR⟩, ?_⟩
   simp [ms, gv]; omega
def PeI (w : World) (g : Nat) (e : TypeId) (cap n a b : Nat) (R : Nat × Array Int) : KL := fun x w1 => ∃ (i j : Nat) (d : Array Int), x = [.int .i64 (i : Int), .int .i64 (j : Int)] ∧ Rf w w1 g e cap d ∧ d.size = n ∧ a < i ∧ i ≤ j + 2 ∧ j < b ∧ partEqLoop ltInt a i j d = R
theorem aie {w : World} {g cap n : Nat} {e : TypeId} {d : Array Int} (H : Rw w g e cap d) (hn : d.size = n) (h6 : n < 100000) {a b pv : Nat} (hb : b ≤ n) (ha : a ≤ pv) (hp : pv < b) {K : KV}
  (h : ∀ w', Rf w w' g e cap (partitionEqual ltInt d a b pv).2 → K (.int .i64 ((partitionEqual ltInt d a b pv).1 : Nat)) w') :
  jy P F.fy [.slice (some ⟨g, 0, none⟩) n cap, .int .i64 a, .int .i64 b, .int .i64 pv] w K := by
 apply M.cn.calls
 unfold M.cn
 have a1 := H.at (show a < d.size by omega)
 have a2 := H.at (show pv < d.size by omega)
 have b1 : (a : Int) < n := by omega
 have b2 : (pv : Int) < n := by omega
 have f1 := H.frz a
 have f2 := H.frz pv
 have hw1 : IntKind.i64.wrap ((a : Int) + 1) = ((a + 1 : Nat) : Int) := pz (by omega)
 have hw2 : IntKind.i64.wrap ((b : Int) - 1) = ((b - 1 : Nat) : Int) := by rw [gy (by omega) (by omega)]; omega
 simp [b1, b2, a1, a2, f1, f2, jr, jx, hw1, hw2, -Int.natCast_add, -gm]
 have H1 := (H.wh.dr 1).swp (i := a) (j := pv) (by omega) (by omega)
 generalize ((dr w 1).setCell ⟨g, a, none⟩ (.int SD.k d[pv]!)).setCell ⟨g, pv, none⟩ (.int SD.k d[a]!) = w1 at *
 clear a1 a2 f1 f2
 unfold partitionEqual at h
 have hn1 : (Sort.swp d a pv).size = n := by rw [size_swp]; exact hn
 generalize Sort.swp d a pv = d1 at *
 generalize hr : partEqLoop ltInt a (a + 1) (b - 1) d1 = r at *
 rw [gm]
 refine ⟨PeI w g e cap n a b r, fun x _ => ms x 1 + 2 - ms x 0, ⟨a + 1, b - 1, d1, rfl, H1, hn1, by omega, by omega, by omega, hr⟩, ?_⟩
 rintro x w5 ⟨i5, j5, d5, rfl, H5, hn5, ha5, hij5, hj5, hR⟩
 rw [partEqLoop_eq] at hR
 simp only [g20]
 refine alu (p := fun x => !ltInt d5[a]! x) (i := i5) (j := j5) H5.row hij5 (fun k w6 Kn hk H6 k1 k2 => by refine bia H6 hn5 h6 (by omega) (by omega) hk ?_ ?_ <;> first | exact k1 | exact k2) fun w6 H6 => ?_
 have hge := scanUp_ge (fun x => !ltInt d5[a]! x) d5 j5 i5
 have hle := agc (fun x => !ltInt d5[a]! x) d5 j5 i5
 generalize scanUp (fun x => !ltInt d5[a]! x) d5 j5 i5 = i6 at *
 unfold M.cn.j2
 simp only [g21]
 refine agd (n := n) (p := fun x => ltInt d5[a]! x) H6.row (by omega) (i := i6) (j := j5) (by omega) (fun k w7 Kn hk H7 k1 k2 => by refine bhe H7 hn5 h6 (by omega) hk ?_ ?_ <;> first | exact k1 | exact k2) fun w7 H7 => ?_
 have hdl := scanDown_le (fun x => ltInt d5[a]! x) d5 i6 j5
 generalize scanDown (fun x => ltInt d5[a]! x) d5 i6 j5 = j6 at *
 have H7' := H5.trans (H6.trans H7)
 try simp only at hR
 simp only [g0, gm]
 by_cases hgt : i6 > j6
 ·have hgt' : (j6 : Int) < i6 := by omega
  rw [if_pos hgt] at hR
  simp only [qj, hgt', decide_true, Eng.cond_true, g20]
  subst hR
  exact h _ H7'
 ·have hgt' : ¬ (j6 : Int) < i6 := by omega
  rw [if_neg hgt] at hR
  simp only [qj, hgt', decide_false, Eng.cond_false]
  unfold M.cn.j8
  have c1 := H7.row.at (show i6 < d5.size by omega)
  have c2 := H7.row.at (show j6 < d5.size by omega)
  have e1 : (j6 : Int) < n := by omega
  have e2 : (i6 : Int) < n := by omega
  have f1 := H7.row.frz i6
  have f2 := H7.row.frz j6
  have hw3 : IntKind.i64.wrap ((i6 : Int) + 1) = ((i6 + 1 : Nat) : Int) := pz (by omega)
  have hw4 : IntKind.i64.wrap ((j6 : Int) - 1) = ((j6 - 1 : Nat) : Int) := by rw [gy (by omega) (by omega)]; omega
  simp [g0, e1, e2, c1, c2, f1, f2, jr, jx, hw3, hw4, -Int.natCast_add]
  refine ⟨⟨i6 + 1, j6 - 1, _, rfl, (H7'.dr 1).swp (by omega) (by omega), by rw [size_swp]; exact hn5, by omega, by omega, by omega, hR⟩, ?_⟩
  simp [ms, gv]; omega
end Go.Proofs.YtfnhoaemapheoaaGreat.SG
