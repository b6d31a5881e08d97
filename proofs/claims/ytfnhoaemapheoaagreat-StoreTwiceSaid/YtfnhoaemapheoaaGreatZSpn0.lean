/-
  Names of spans: which are right. No condition.
-/
import Derived.Test.YtfnhoaemapheoaaGreatM
import Derived.Test.YtfnhoaemapheoaaGreatFacts
import Derived.Test.YtfnhoaemapheoaaGreatZEngSl
import Derived.Test.YtfnhoaemapheoaaGreatRows
import Derived.Laws.StructEq
import Derived.Test.YtfnhoaemapheoaaGreatZMs0
import Derived.Sort.AssemblyPlain
set_option maxRecDepth 100000
namespace Go.Proofs.YtfnhoaemapheoaaGreat
open Go.Eng
@[simp] theorem ale : aaa P T.ad = true := .trans (by kernel_rfl) rfl
@[simp] theorem bjx (ty : TypeId) (cs : List Bool) (s : ByteArray) (w : World) (K : KV) : biT P .len #[T.ad] ty cs [.string s] w K = K (.int .i64 s.size) w := avh ale cs s w K
theorem asn (s : ByteArray) : s.toList.isEmpty = decide (s.size = 0) := by
 have h : s.size = s.data.toList.length := Array.length_toList.symm
 rw [ByteArray.toList_eq, h]
 cases s.data.toList <;> simp
def wd (s p : ByteArray) : Bool := decide (p.size ≤ s.size) && ((s.extract 0 p.size).toList == p.toList)
theorem ara {w : World} (s p : ByteArray) {K : KV} (h : K (.bool (wd s p)) w) : jr P F.di [.string s, .string p] w K := by
 apply M.cu.calls
 unfold M.cu
 rw [M.bc.fcall]
 apply M.bc.calls
 unfold M.bc
 unfold wd at h
 by_cases hl : p.size ≤ s.size
 ·have hl' : (p.size : Int) ≤ s.size := by omega
  have hsl : ∀ K, slT P T.ad (.string s) none (some (.int .i64 (p.size : Int))) none w K = K (.string (s.extract 0 p.size)) w := fun K => ape ale (.inl ⟨rfl, rfl⟩) (.inr ⟨_, rfl⟩) (Nat.zero_le _) hl w K
  simp [hl, hsl, aec] at h ⊢
  exact h
 ·have hl' : ¬ (p.size : Int) ≤ s.size := by omega
  simp [hl] at h ⊢
  exact h
def wx : ByteArray := ⟨#[239, 191, 189]⟩
def abo (s : ByteArray) (i : Nat) : Bool := decide ((Utf8.decode s i).1 < 32) || ((decide (127 ≤ (Utf8.decode s i).1) && decide ((Utf8.decode s i).1 ≤ 159)) || (decide ((Utf8.decode s i).1 = 65533) && !wd (s.extract i s.size) wx))
def tf (s : ByteArray) (i : Nat) : Bool :=
 if h : i < s.size then !abo s i && tf s (i + (Utf8.decode s i).2) else true
termination_by s.size - i
decreasing_by have := agy s i; omega
def ou (s : ByteArray) : Int := if s.size = 0 ∨ 32 < s.size then 5 else if tf s 0 = true then 0 else 5
def axm (w : World) (s : ByteArray) : KL := fun x w1 => ∃ (pos : Nat), w1.heap[w.heap.size]? = some (.stringIter s pos) ∧ Fr (fun _ => False) w w1 ∧ tf s pos = tf s 0
def ahm (s : ByteArray) (it : Nat) (w : World) : Nat := match w.heap[it]? with
 | some (.stringIter _ pos) => s.size - pos
 | _ => 0
theorem auj {w : World} (s : ByteArray) {K : KV} (h : ∀ w', Fr (fun _ => False) w w' → K (.int .i64 (ou s)) w') : jr P F.en [.string s] w K := by
 apply M.bq.calls
 unfold M.bq
 simp only [gg]
 have hemp : s.toList.isEmpty = decide (s.size = 0) := asn s
 unfold ou at h
 by_cases h0 : s.size = 0
 ·simp [aec, hemp, h0] at h ⊢
  exact h w (Fr.refl _ _)
 ·by_cases h1 : 32 < s.size
  ·have h1' : (32 : Int) < s.size := by omega
   simp [aec, hemp, h0, h1, h1'] at h ⊢
   exact h w (Fr.refl _ _)
  ·have h1' : ¬ (32 : Int) < s.size := by omega
   simp [aec, hemp, h0, h1, h1'] at h ⊢
   unfold M.bq.j0
   simp only [gg]
   rw [bjz (vg ale)]
   refine ⟨axm w s, fun _ w1 => ahm s w.heap.size w1, ⟨0, by rw [ie, if_pos rfl], (Fr.refl _ w).alloc _, rfl⟩, ?_⟩
   rintro x w1 ⟨pos, hit, hf, hp⟩
   refine bja hit _ (fun he => ?_) fun hlt w2 hit2 hf2 => ?_
   ·have hr : tf s 0 = true := by rw [← hp]; unfold tf; rw [dif_neg he]
    have e0 : ∀ w K, exT P (.tuple #[.bool false]) 0 w K = K (.bool false) w := fun _ _ => rfl
    simp [e0]
    have := h w1 hf
    simpa [hr] using this
   ·simp
    unfold M.bq.j3
    simp
    have hr : tf s pos = (!abo s pos && tf s (pos + (Utf8.decode s pos).2)) := by
     conv => lhs; unfold tf
     rw [dif_pos hlt]
    have F2 : Fr (fun _ => False) w w2 := hf.me hf2 fun g hg h' => by omega
    have hbad : abo s pos = true → K (.int .i64 5) w2 := fun hb => by
     rw [hb, hp] at hr
     have := h w2 F2
     simpa [hr] using this
    have hgood : abo s pos = false → ∀ xs, axm w s xs w2 ∧ ahm s w.heap.size w2 < ahm s w.heap.size w1 := fun hb xs => by
     rw [hb, hp] at hr
     refine ⟨⟨_, hit2, F2, by rw [hr]; rfl⟩, ?_⟩
     have := agy s pos
     simp only [ahm, hit, hit2]; omega
    unfold abo at hbad hgood
    generalize hc : (Utf8.decode s pos).1 = c at *
    clear hc
    have hsl : ∀ K, slT P T.ad (.string s) (some (.int .i64 (pos : Int))) none none w2 K = K (.string (s.extract pos s.size)) w2 := fun K => ape ale (.inr ⟨_, rfl⟩) (.inl ⟨rfl, rfl⟩) (by omega) (Nat.le_refl _) w2 K
    have j4 : ∀ (b : Bool) (t14 : Value), b = (decide (c < 32) || (decide (127 ≤ c) && decide (c ≤ 159))) → M.bq.j4 [.bool b] (.int .i32 c) (.string s) (.int .i64 pos) (fun x' w' => axm w s x' w' ∧ ahm s w.heap.size w' < ahm s w.heap.size w1) t14 x w2 K := by
     intro b t14 hb
     unfold M.bq.j4
     cases b with
     | true => simp at hb ⊢; exact hbad (by simp; omega)
     | false =>
      by_cases he : c = 65533
      ·have he' : (c : Int) = 65533 := by omega
       simp [he', hsl]
       rw [M.cu.fcall]
       refine ara _ _ ?_
       have hx : wd (s.extract pos s.size) ⟨#[239, 191, 189]⟩ = wd (s.extract pos s.size) wx := rfl
       rw [hx]
       cases hq : wd (s.extract pos s.size) wx with
       | true => simp; exact hgood (by simp [he, hq]) _
       | false => simp; exact hbad (by simp [he, hq])
      ·have he' : ¬ (c : Int) = 65533 := by omega
       simp [he']
       refine hgood ?_ _
       have : (decide (c < 32) || (decide (127 ≤ c) && decide (c ≤ 159))) = false := hb.symm
       simp [he] at this ⊢
       exact this
    by_cases h32 : c < 32
    ·have h32' : (c : Int) < 32 := by omega
     simp [h32']
     exact j4 true _ (by simp [h32])
    ·have h32' : ¬ (c : Int) < 32 := by omega
     by_cases h127 : 127 ≤ c
     ·have h127' : (127 : Int) ≤ c := by omega
      by_cases h159 : c ≤ 159
      ·have h159' : (c : Int) ≤ 159 := by omega
       simp [h32', h127', h159']
       exact j4 true _ (by simp [h32, h127, h159])
      ·have h159' : ¬ (c : Int) ≤ 159 := by omega
       simp [h32', h127', h159']
       exact j4 false _ (by simp [h32, h127, h159])
     ·have h127' : ¬ (127 : Int) ≤ c := by omega
      simp [h32', h127']
      exact j4 false _ (by simp [h32, h127])
set_option maxRecDepth 100000
structure Spn where
 il : Int
 id : Int
 ph : Int
 jh : Int
 len : Int
 jn : ByteArray
 name : ByteArray
 tc : Bool
def gy (s : Spn) : List Value := [.int .u64 s.il, .int .u64 s.id, .int .u64 s.ph, .int .u64 s.jh, .int .u64 s.len, .string s.jn, .string s.name, .bool s.tc]
def jx (s : Spn) : Value := .agg #[.int .u64 s.il, .int .u64 s.id, .int .u64 s.ph, .int .u64 s.jh, .int .u64 s.len, .string s.jn, .string s.name, .bool s.tc]
theorem lk (s : Spn) : (gy s).length = 8 := rfl
theorem nq (s : Spn) : ∀ u ∈ gy s, jz u = true := fun u hu => by
 simp only [gy, List.mem_cons, List.not_mem_nil, or_false] at hu
 rcases hu with rfl | rfl | rfl | rfl | rfl | rfl | rfl | rfl <;> rfl
@[simp] theorem bod (t1 t2 ty : TypeId) (cs : List Bool) (k : IntKind) (x y : Int) (w : World) (K : KV) : biT P .max #[t1, t2] ty cs [.int k x, .int k y] w K = K (.int k (max x y)) w := by
 have : (if x < y then y else x) = max x y := by split <;> omega
 simp [biT, lh, builtin, Builtin.max_, Builtin.max2, Sem.run_bind, Result.andThen, Sem.run_pure, this]
def xw (k : Int) : List Value := [.int .i64 k]
def orK (l : List Int) : Int := (l.find? fun k => !decide (k = 0)).getD 0
def OrI (w : World) (l : List Int) : KL := fun x w1 => ∃ (a b : Value) (i : Nat), x = [a, b, .int .i64 (i : Nat)] ∧ w1 = w ∧ i ≤ l.length ∧ ∀ (j : Nat) k, l[j]? = some k → j < i → k = 0
theorem bkx {w : World} {v : Value} {l : List Int} (hs : Sl w 1 xw v l) (hlen : l.length ≤ 1000) {K : KV} (h : K (.int .i64 (orK l)) w) : jr P F.eb [v] w K := by
 apply M.cb.calls
 unfold M.cb
 simp only [gg]
 rw [hs.im (by simp)]
 refine ⟨OrI w l, fun x _ => l.length - ms x 2, ⟨_, _, 0, rfl, rfl, Nat.zero_le _, fun j k _ h => by omega⟩, ?_⟩
 rintro x w1 ⟨a, b, i, rfl, rfl, hi, hz⟩
 have gv2 : gv [a, b, .int .i64 (i : Int)] 2 = .int .i64 (i : Int) := rfl
 simp only [gv2]
 by_cases hil : i < l.length
 ·obtain ⟨bb, o, cap, rfl, hb, _, hr⟩ := hs.at hil
  have e0 := hr 0 _ rfl
  simp only [Nat.mul_one, Nat.add_zero] at e0
  have hw : IntKind.i64.wrap ((i : Int) + 1) = ((i + 1 : Nat) : Int) := by rw [gm (by omega) (by omega)]; rfl
  simp [hil]
  unfold M.cb.j2
  simp only [gg, gv2]
  by_cases hk : l[i] = 0
  ·simp [hil, e0, hk, hw]
   refine ⟨⟨_, _, i + 1, rfl, rfl, by omega, fun j k hj hlt => ?_⟩, by simp [ms, gv]; omega⟩
   by_cases hji : j = i
   ·subst hji
    rw [List.getElem?_eq_getElem hil] at hj
    cases hj; exact hk
   ·exact hz j k hj (by omega)
  ·simp [hil, e0, hk]
   have : orK l = l[i] := by
    unfold orK
    have : l.find? (fun k => !decide (k = 0)) = some l[i] := by
     rw [List.find?_eq_some_iff_getElem]
     refine ⟨by simpa using hk, i, hil, rfl, fun j hj => ?_⟩
     have := hz j _ (List.getElem?_eq_getElem (by omega)) hj
     simp [this]
    rw [this]; rfl
   rw [this] at h; exact h
 ·simp [hil]
  have : orK l = 0 := by
   unfold orK
   have : l.find? (fun k => !decide (k = 0)) = none := by
    rw [List.find?_eq_none]
    intro k hk
    obtain ⟨j, hj, rfl⟩ := List.mem_iff_getElem.1 hk
    have := hz j _ (List.getElem?_eq_getElem hj) (by omega)
    simp [this]
   rw [this]; rfl
  rw [this] at h; exact h
def ku (s : Spn) : Int := if s.il = 0 ∨ s.id = 0 ∨ 1099511627776 < max s.jh s.len then 1 else orK [ou s.jn, ou s.name]
theorem aiw {w : World} (s : Spn) {K : KV} (h : ∀ w', Fr (fun _ => False) w w' → K (.int .i64 (ku s)) w') : jr P F.eg [jx s] w K := by
 apply M.co.calls
 unfold M.co jx
 simp only [gg, xc, azh]
 generalize hwa : w.alloc (.cells #[.int .u64 s.il, .int .u64 s.id, .int .u64 s.ph, .int .u64 s.jh, .int .u64 s.len, .string s.jn, .string s.name, .bool s.tc] T.e) = wa
 have hb : wa.heap[w.heap.size]? = some (.cells #[.int .u64 s.il, .int .u64 s.id, .int .u64 s.ph, .int .u64 s.jh, .int .u64 s.len, .string s.jn, .string s.name, .bool s.tc] T.e (0, 0)) := by rw [← hwa, ie, if_pos rfl]
 have hf : Fr (fun _ => False) w wa := by rw [← hwa]; exact (Fr.refl _ w).alloc _
 have c0 := gj hb 0
 have c1 := gj hb 1
 have c3 := gj hb 3
 have c4 := gj hb 4
 have c5 := gj hb 5
 have c6 := gj hb 6
 simp at c0 c1 c3 c4 c5 c6
 unfold ku at h
 by_cases h0 : s.il = 0
 ·simp [c0, h0] at h ⊢
  exact h wa hf
 ·by_cases h1 : s.id = 0
  ·simp [c0, c1, h0, h1] at h ⊢
   exact h wa hf
  ·by_cases h2 : 1099511627776 < max s.jh s.len
   ·simp [c0, c1, c3, c4, h0, h1, h2] at h ⊢
    exact h wa hf
   ·simp [c0, c1, c3, c4, h0, h1, h2] at h ⊢
    unfold M.co.j0
    simp [c5, c6]
    rw [M.bq.fcall]
    refine auj _ fun w2 f2 => ?_
    have f2' : Fr (fun _ => False) wa w2 := ⟨f2.size, f2.jy, f2.tape, f2.os, f2.output⟩
    have d6 : gi w2 w.heap.size 6 = some (.string s.name) := by rw [xg (f2'.jy _ (oh hb) fun h => h)]; exact c6
    simp [d6]
    rw [M.bq.fcall]
    refine auj _ fun w3 f3 => ?_
    simp
    rw [M.cb.fcall]
    have hsl : Sl (w3.alloc (.cells #[.int .i64 (ou s.jn), .int .i64 (ou s.name)] T.u)) 1 xw (.slice (some ⟨w3.heap.size, 0, none⟩) 2 2) [ou s.jn, ou s.name] := by
     refine ⟨_, 2, rfl, Nat.le_refl _, by decide, fun i x hi => ⟨_, 0, rfl, by simp, fun j u hu => ?_⟩⟩
     rw [ajz rfl]
     match i with
     | 0 => simp at hi; subst hi; match j with
      | 0 => simpa [xw] using hu
      | j + 1 => simp [xw] at hu
     | 1 => simp at hi; subst hi; match j with
      | 0 => simpa [xw] using hu
      | j + 1 => simp [xw] at hu
     | i + 2 => simp at hi
    exact bkx hsl (by simp) (h _ (((hf.trans f2').trans f3).alloc _))
theorem bgh {t : TypeId} (h : adc P t = false) {xs : Array Value} {i : Nat} {v : Value} (hv : xs[i]? = some v) (w : World) : (part t xs i).run P w = .ok v w := by
 unfold part
 rw [Sem.run_bind, bar h]
 simp [Result.andThen, hv, Sem.run_pure]
theorem eqF {d : Nat} {xs ys : Array Value} {f : Field} {fs : List Field} {w : World} {u v : Value} {b c : Bool} (hn : f.name ≠ "_") (h : adc P f.type = false) (hx : xs[f.offset]? = some u) (hy : ys[f.offset]? = some v) (he : (Op.equalIn d f.type u v).run P w = .ok b w) (hr : (Op.eqFields d xs ys fs).run P w = .ok c w) : (Op.eqFields d xs ys (f :: fs)).run P w = .ok (b && c) w := by
 simp only [Op.eqFields]
 rw [if_pos hn]
 simp only [Sem.run_bind, bgh h hx, bgh h hy, he, Result.andThen]
 cases b
 ·rfl
 ·simpa using hr
def qm (m : Mem) : Value := .agg #[.int .u64 m.id, .int .u64 m.inc, .int .i64 m.st]
abbrev SlM (w : World) (v : Value) (l : List Mem) : Prop := Sl w 3 ach v l
theorem ldM {w : World} {b i : Nat} {m : Mem} (h : ∀ k v, (ach m)[k]? = some v → gi w b (i + k) = some v) (K : KV) : ldN P 3 b i w K = K (qm m) w := rh (ach m) 3 rfl h K
def ro : Int → List Mem → Bool
 | _, [] => true
 | ky, m :: l => decide (ky < m.id) && ro m.id l
def RsI (W : World) (l : List Mem) : KL := fun x w1 => ∃ (u0 u1 : Value) (ky : Int) (i : Nat), x = [u0, u1, .int .u64 ky, .int .i64 (i : Nat)] ∧ i ≤ l.length ∧ ro 0 l = ro ky (l.drop i) ∧ Fr (fun _ => False) W w1
theorem bbf {w : World} (m : Mem) {K : KV} (h : ∀ w', Fr (fun _ => False) w w' → K (.int .u64 m.id) w') : mh P (.func (.func F.da) #[] #[]) [qm m] w K := by
 rw [M.de.rcall]
 apply M.de.calls
 unfold M.de qm
 simp
 have c0 : gi (w.alloc (.cells #[.int .u64 m.id, .int .u64 m.inc, .int .i64 m.st] T.p)) w.heap.size 0 = some (.int .u64 m.id) := by rw [gj (by rw [ie, if_pos rfl])]; rfl
 simp [c0]
 exact h _ ((Fr.refl _ w).alloc _)
theorem bhu {w : World} {v : Value} {l : List Mem} (hs : SlM w v l) (hlen : l.length ≤ 1000000) {K : KV} (h : ∀ w', Fr (fun _ => False) w w' → K (.bool (ro 0 l && (decide (0 < l.length) && decide (l.length ≤ 16)))) w') :
  gb P F.cb [v, .int .i64 16, .func (.func F.da) #[] #[]] w K := by
 rw [M.ac.fcall]
 apply M.ac.calls
 unfold M.ac
 simp only [gg]
 rw [hs.im (by kernel_rfl)]
 refine ⟨RsI w l, fun x _ => l.length - ms x 3, ⟨_, _, 0, 0, rfl, Nat.zero_le _, rfl, Fr.refl _ _⟩, ?_⟩
 rintro x w1 ⟨u0, u1, ky, i, rfl, hi, hr, f1⟩
 have q2 : gv [u0, u1, .int .u64 ky, .int .i64 (i : Nat)] 2 = .int .u64 ky := rfl
 have q3 : gv [u0, u1, .int .u64 ky, .int .i64 (i : Nat)] 3 = .int .i64 (i : Nat) := rfl
 have hs1 := hs.fr f1 fun _ _ _ h => h
 simp only [q3]
 by_cases hil : i < l.length
 ·have hil' : (i : Int) < l.length := by omega
  simp [hil']
  unfold M.ac.j2
  obtain ⟨b, o, cap, hv, hb, _, hc⟩ := hs1.at hil
  have hld : ∀ K, ldN P 3 b (o + i * 3) w1 K = K (qm l[i]) w1 := fun K => ldM hc K
  have hwi : IntKind.i64.wrap ((i : Int) + 1) = ((i + 1 : Nat) : Int) := by rw [gm (by omega) (by omega)]; rfl
  have hdrop : l.drop i = l[i] :: l.drop (i + 1) := List.drop_eq_getElem_cons hil
  rw [hdrop] at hr
  generalize l[i] = m at *
  subst hv
  simp [q2, q3, hil, hld]
  have e1 : qm m = .agg #[.int .u64 m.id, .int .u64 m.inc, .int .i64 m.st] := rfl
  rw [e1]
  simp
  have hba : (w1.alloc (.cells #[.int .u64 0, .int .u64 0, .int .i64 0] T.p)).heap[w1.heap.size]? = some (.cells #[.int .u64 0, .int .u64 0, .int .i64 0] T.p (0, 0)) := by rw [ie, if_pos rfl]
  refine jm (vs := [.int .u64 m.id, .int .u64 m.inc, .int .i64 m.st]) hba rfl (by simp) fun w2 b2 f2 => ?_
  have f2' : Fr (fun _ => False) w1 w2 := ((Fr.refl _ w1).alloc _).me f2 fun y hy he => by subst he; omega
  have hld2 : ∀ {w'}, Fr (fun _ => False) w2 w' → ∀ K, ldN P 3 w1.heap.size 0 w' K = K (qm m) w' := fun f K => by
   have b3 := f.heap b2 fun h => h
   exact ldM (m := m) (i := 0) (fun k v hk => by rw [gj b3, Nat.zero_add, List.getElem?_toArray]; exact hk) K
  rw [hld2 (Fr.refl _ _)]
  refine bbf m fun w3 f3 => ?_
  simp
  by_cases hle : m.id ≤ ky
  ·have hlt : ¬ ky < m.id := by omega
   simp [hle]
   have hf : ro 0 l = false := by rw [hr]; unfold ro; simp [hlt]
   rw [hf] at h
   exact h w3 ((f1.trans f2').trans f3)
  ·have hlt : ky < m.id := by omega
   simp [hle]
   rw [hld2 f3]
   refine bbf m fun w4 f4 => ?_
   simp [hwi]
   refine ⟨⟨_, _, m.id, i + 1, rfl, by omega, ?_, ((f1.trans f2').trans f3).trans f4⟩, by simp [ms, gv]; omega⟩
   rw [hr]
   show (decide (ky < m.id) && ro m.id (l.drop (i + 1))) = _
   simp [hlt]
 ·have hil' : ¬ (i : Int) < l.length := by omega
  have hr1 : ro 0 l = true := by rw [hr, List.drop_of_length_le (by omega)]; rfl
  simp [hil']
  unfold M.ac.j0
  rw [hs1.im (by kernel_rfl)]
  rw [hr1] at h
  by_cases h0 : 0 < l.length
  ·have h0' : (0 : Int) < l.length := by omega
   have hx : decide ((l.length : Int) ≤ 16) = decide (l.length ≤ 16) := by
    by_cases h16 : l.length ≤ 16
    ·rw [decide_eq_true h16, decide_eq_true (by omega)]
    ·rw [decide_eq_false h16, decide_eq_false (by omega)]
   simp [h0]
   rw [hs1.im (by kernel_rfl)]
   simp
   rw [hx]
   have := h w1 f1
   simpa [h0] using this
  ·simp [h0]
   have := h w1 f1
   simpa [h0] using this
def bmk (W : World) (p : Mem → Bool) (l : List Mem) : KL := fun x w1 => ∃ (u0 u1 : Value) (i : Nat), x = [u0, u1, .int .i64 (i : Nat)] ∧ i ≤ l.length ∧ (∀ j (h : j < l.length), j < i → p l[j] = false) ∧ Fr (fun _ => False) W w1
theorem beg {w : World} {v fv : Value} {l : List Mem} {p : Mem → Bool} (hs : SlM w v l) (hlen : l.length ≤ 1000000) (hp : ∀ m w1, Fr (fun _ => False) w w1 → ∀ {K : KV}, (∀ w', Fr (fun _ => False) w1 w' → K (.bool (p m)) w') → mh P fv [qm m] w1 K) {K : KV}
  (h1 : ∀ w' i (hi : i < l.length), p l[i] = true → (∀ j (h : j < l.length), j < i → p l[j] = false) → Fr (fun _ => False) w w' → K (.int .i64 (i : Nat)) w')
  (h0 : ∀ w', (∀ m ∈ l, p m = false) → Fr (fun _ => False) w w' → K (.int .i64 (-1)) w') : gb P F.av [v, fv] w K := by
 rw [M.o.fcall]
 apply M.o.calls
 unfold M.o
 simp only [gg]
 rw [hs.im (by kernel_rfl)]
 refine ⟨bmk w p l, fun x _ => l.length - ms x 2, ⟨_, _, 0, rfl, Nat.zero_le _, fun _ _ h => by omega, Fr.refl _ _⟩, ?_⟩
 rintro x w1 ⟨u0, u1, i, rfl, hi, hz, f1⟩
 have q2 : gv [u0, u1, .int .i64 (i : Nat)] 2 = .int .i64 (i : Nat) := rfl
 have hs1 := hs.fr f1 fun _ _ _ h => h
 simp only [q2]
 by_cases hil : i < l.length
 ·have hil' : (i : Int) < l.length := by omega
  simp [hil']
  unfold M.o.j2
  obtain ⟨b, o, cap, hv, hb, _, hc⟩ := hs1.at hil
  have hld : ∀ K, ldN P 3 b (o + i * 3) w1 K = K (qm l[i]) w1 := fun K => ldM hc K
  have hwi : IntKind.i64.wrap ((i : Int) + 1) = ((i + 1 : Nat) : Int) := by rw [gm (by omega) (by omega)]; rfl
  subst hv
  simp [q2, hil, hld]
  refine hp l[i] w1 f1 fun w2 f2 => ?_
  cases hpi : p l[i] with
  | true => simp; exact h1 w2 i hil hpi hz (f1.trans f2)
  | false =>
   simp [hwi]
   refine ⟨⟨_, _, i + 1, rfl, by omega, fun j hj hji => ?_, f1.trans f2⟩, by simp [ms, gv]; omega⟩
   by_cases hje : j = i
   ·subst hje; exact hpi
   ·exact hz j hj (by omega)
 ·have hil' : ¬ (i : Int) < l.length := by omega
  simp [hil']
  refine h0 w1 (fun m hm => ?_) f1
  obtain ⟨j, hj, rfl⟩ := List.getElem_of_mem hm
  exact hz j hj (by omega)
def pt (m : Mem) : Bool := decide (m.inc = 0) || (decide (m.st < 0) || decide (2 < m.st))
theorem bgu {w : World} (m : Mem) {K : KV} (h : ∀ w', Fr (fun _ => False) w w' → K (.bool (pt m)) w') : mh P (.func (.func F.cz) #[] #[]) [qm m] w K := by
 rw [M.dd.rcall]
 apply M.dd.calls
 unfold M.dd qm
 simp
 have hb : (w.alloc (.cells #[.int .u64 m.id, .int .u64 m.inc, .int .i64 m.st] T.p)).heap[w.heap.size]? = some (.cells #[.int .u64 m.id, .int .u64 m.inc, .int .i64 m.st] T.p (0, 0)) := by rw [ie, if_pos rfl]
 have c1 : gi (w.alloc (.cells #[.int .u64 m.id, .int .u64 m.inc, .int .i64 m.st] T.p)) w.heap.size 1 = some (.int .u64 m.inc) := by rw [gj hb]; rfl
 have c2 : gi (w.alloc (.cells #[.int .u64 m.id, .int .u64 m.inc, .int .i64 m.st] T.p)) w.heap.size 2 = some (.int .i64 m.st) := by rw [gj hb]; rfl
 have fin := h _ ((Fr.refl _ w).alloc (.cells #[.int .u64 m.id, .int .u64 m.inc, .int .i64 m.st] T.p))
 unfold pt at fin
 generalize w.alloc (.cells #[.int .u64 m.id, .int .u64 m.inc, .int .i64 m.st] T.p) = w1 at *
 by_cases h1 : m.inc = 0
 ·simp [c1, c2, h1] at fin ⊢; exact fin
 by_cases h2 : m.st < 0
 ·simp [c1, c2, h1, h2] at fin ⊢; exact fin
 simp [c1, c2, h1, h2] at fin ⊢; exact fin
theorem arc {w : World} {v : Value} {l : List Mem} (hs : SlM w v l) (hlen : l.length ≤ 1000000) {K : KV} (h : ∀ w', Fr (fun _ => False) w w' → K (.bool (l.any pt)) w') : gb P F.aq [v, .func (.func F.cz) #[] #[]] w K := by
 rw [M.af.fcall]
 apply M.af.calls
 unfold M.af
 refine beg (p := pt) hs hlen (fun m w1 _ _ hK => bgu m hK) (fun w' i hi hpi _ f => ?_) fun w' hn f => ?_
 ·have : l.any pt = true := List.any_eq_true.2 ⟨l[i], List.getElem_mem hi, hpi⟩
  rw [this] at h
  have h0 : (0 : Int) ≤ (i : Nat) := by omega
  simp [h0]
  exact h w' f
 ·have : l.any pt = false := by
   rw [List.any_eq_false]
   intro m hm; rw [hn m hm]; simp
  rw [this] at h
  simp
  exact h w' f
theorem ani {w : World} {v : Value} {l : List Mem} (hs : SlM w v l) (hlen : l.length ≤ 1000000) {K : KV} (h : ∀ w' v', SlM w' v' l → (∀ x, v'.ownBlock = some x → w.heap.size ≤ x) → Fr (fun _ => False) w w' → K v' w') : gb P F.ar [v] w K := by
 rw [M.av.fcall]
 apply M.av.calls
 unfold M.av
 simp only [gg]
 have hs' := hs
 obtain ⟨a, cap, rfl, _⟩ := hs'
 cases a with
 | none =>
  simp
  have hz : l = [] := by
   obtain ⟨a', cap', hv, _, _, h3⟩ := hs
   cases l with
   | nil => rfl
   | cons x l =>
    obtain ⟨b, o, ha, _⟩ := h3 0 x rfl
    injection hv with h1 _ _
    rw [← h1] at ha; cases ha
  subst hz
  exact h w _ Sl.nil (fun x hx => by simp [Value.ownBlock] at hx) (Fr.refl _ _)
 | some a =>
  simp
  have f0 : Fr (fun _ => False) w (w.alloc (.cells #[] T.p)) := (Fr.refl _ w).alloc _
  refine vv et.i apv bds (base := w.heap.size) (Ow.empty (by rw [ie, if_pos rfl]) (Nat.le_refl _)) (hs.fr f0 fun _ _ _ h => h) (by simp; omega) (by decide) (by simp) _ fun v3 w3 o3 f3 g3 => ?_
  rw [List.nil_append] at o3
  exact h w3 v3 (o3.sl apv) (fun x hx => (o3.lt hx).1) (f0.me f3 fun b hb hv => by simp [Value.ownBlock] at hv; omega)
theorem bcc (x y : Mem) (w : World) : (Op.equalIn 10000 T.p (qm x) (qm y)).run P w = .ok (x.id == y.id && (x.inc == y.inc && (x.st == y.st))) w := by
 have hS : P.underlying T.p = some (.struct (P.fieldsOf T.p)) := by kernel_rfl
 have hp : P.stoodInHeld T.p = false := by kernel_rfl
 unfold qm
 rw [show (10000 : Nat) = 9999 + 1 from rfl, run_equalIn_agg w 9999 T.p _ _ hS hp]
 simp only [Program.fieldsOf, show P.underlying T.p = _ from Tryz.underlying139]
 have u22 : P.underlying T.g = some (.int .u64) := by kernel_rfl
 have u3 : P.underlying T.b = some (.int .i64) := by kernel_rfl
 have a22 : adc P T.g = false := by kernel_rfl
 have a3 : adc P T.b = false := by kernel_rfl
 refine eqF (by decide) a22 rfl rfl (run_equalIn_int w 9998 T.g _ _ _ _ u22) ?_
 refine eqF (by decide) a22 rfl rfl (run_equalIn_int w 9998 T.g _ _ _ _ u22) ?_
 have := eqF (fs := []) (d := 9999) (xs := #[.int .u64 x.id, .int .u64 x.inc, .int .i64 x.st]) (ys := #[.int .u64 y.id, .int .u64 y.inc, .int .i64 y.st]) (f := { name := "State", type := T.b, offset := 2, embedded := false, tag := "", pkgPath := "", byteOffset := 16 }) (w := w) (c := true) (by decide) a3 rfl rfl (run_equalIn_int w 9998 T.b _ _ _ _ u3) rfl
 simpa using this
theorem bkt (x y : Mem) : (x.id == y.id && (x.inc == y.inc && (x.st == y.st))) = decide (x = y) := by
 obtain ⟨a, b, c⟩ := x
 obtain ⟨a', b', c'⟩ := y
 simp only [Mem.mk.injEq]
 by_cases h1 : a = a' <;> by_cases h2 : b = b' <;> by_cases h3 : c = c' <;> simp [h1, h2, h3]
theorem bbj (rx ry : Operand) (x y : Mem) (w : World) (K : KV) : ga P .neq T.p rx ry (qm x) (qm y) w K = K (.bool !(decide (x = y))) w := by
 have hm : P.eqGuardType P.depth T.p = false := by kernel_rfl
 have hg := run_eqGuard_agg (P := P) w .neq T.p rx ry #[.int .u64 x.id, .int .u64 x.inc, .int .i64 x.st] #[.int .u64 y.id, .int .u64 y.inc, .int .i64 y.st] hm
 have he := bcc x y w
 rw [bkt] at he
 unfold ga je
 unfold qm at he ⊢
 rw [Sem.run_bind, hg]
 simp only [Result.andThen]
 rw [run_neq_struct, he]
 rfl
def EmI (W : World) (l1 l2 : List Mem) : KL := fun x w1 => ∃ (u0 u1 : Value) (i : Nat), x = [u0, u1, .int .i64 (i : Nat)] ∧ i ≤ l1.length ∧ (∀ j, j < i → l1[j]? = l2[j]?) ∧ Fr (fun _ => False) W w1
theorem bag {w : World} {v1 v2 : Value} {l1 l2 : List Mem} (s1 : SlM w v1 l1) (s2 : SlM w v2 l2) (hlen : l1.length ≤ 1000000) {K : KV} (h : ∀ w', Fr (fun _ => False) w w' → K (.bool (decide (l1 = l2))) w') : gb P F.ba [v1, v2] w K := by
 rw [M.h.fcall]
 apply M.h.calls
 unfold M.h
 simp only [gg]
 rw [s1.im (by kernel_rfl), s2.im (by kernel_rfl)]
 by_cases hne : l1.length = l2.length
 ·simp [hne]
  unfold M.h.j0
  simp only [gg]
  rw [s1.im (by kernel_rfl)]
  refine ⟨EmI w l1 l2, fun x _ => l1.length - ms x 2, ⟨_, _, 0, rfl, Nat.zero_le _, fun _ h => by omega, Fr.refl _ _⟩, ?_⟩
  rintro x w1 ⟨u0, u1, i, rfl, hi, hz, f1⟩
  have q2 : gv [u0, u1, .int .i64 (i : Nat)] 2 = .int .i64 (i : Nat) := rfl
  have t1 := s1.fr f1 fun _ _ _ h => h
  have t2 := s2.fr f1 fun _ _ _ h => h
  simp only [q2]
  by_cases hil : i < l1.length
  ·have hil' : (i : Int) < l1.length := by omega
   have hil2 : i < l2.length := by omega
   simp [hil']
   unfold M.h.j3
   obtain ⟨b1, o1, cap1, hv1, _, _, e1⟩ := (s1.fr (f1.dr 1) fun _ _ _ h => h).at hil
   obtain ⟨b2, o2, cap2, hv2, _, _, e2⟩ := (s2.fr (f1.dr 1) fun _ _ _ h => h).at hil2
   have hld1 : ∀ K, ldN P 3 b1 (o1 + i * 3) (Eng.dr w1 1) K = K (qm l1[i]) (Eng.dr w1 1) := fun K => ldM e1 K
   have hld2 : ∀ K, ldN P 3 b2 (o2 + i * 3) (Eng.dr w1 1) K = K (qm l2[i]) (Eng.dr w1 1) := fun K => ldM e2 K
   have hwi : IntKind.i64.wrap ((i : Int) + 1) = ((i + 1 : Nat) : Int) := by rw [gm (by omega) (by omega)]; rfl
   subst hv1 hv2
   simp [q2, hil, hil2, hld1, hld2, bbj]
   by_cases heq : l1[i] = l2[i]
   ·simp [heq, hwi]
    refine ⟨⟨_, _, i + 1, rfl, by omega, fun j hj => ?_, f1.dr 1⟩, by simp [ms, gv]; omega⟩
    by_cases hji : j = i
    ·subst hji
     rw [List.getElem?_eq_getElem hil, List.getElem?_eq_getElem hil2, heq]
    ·exact hz j (by omega)
   ·simp [heq]
    have hf : decide (l1 = l2) = false := decide_eq_false fun h => heq (by subst h; rfl)
    rw [hf] at h
    exact h _ (f1.dr 1)
  ·have hil' : ¬ (i : Int) < l1.length := by omega
   simp [hil']
   have hf : decide (l1 = l2) = true := decide_eq_true (List.ext_getElem? fun j => by
    by_cases hj : j < i
    ·exact hz j hj
    ·rw [List.getElem?_eq_none (by omega), List.getElem?_eq_none (by omega)])
   rw [hf] at h
   exact h _ f1
 ·have hf : decide (l1 = l2) = false := decide_eq_false fun h => hne (by rw [h])
  rw [hf] at h
  have hne' : ¬ (l1.length : Int) = l2.length := by omega
  simp [hne']
  exact h w (Fr.refl _ _)
theorem aov (v : Value) (w : World) (K : KV) : taT P (.iface T.s v) T.an T.q true w K = K (.tuple #[.agg #[.int .u64 0, .bool false, .slice none 0 0], .bool false]) w := .trans (by kernel_rfl) rfl
theorem ahg (b : Nat) (w : World) (K : KV) : qg P T.a (.pointer (some ⟨b, 0, none⟩)) w K = ldN P 11 b 0 w K := .trans (by kernel_rfl) rfl
def aew (v : Value) : List Value := [.int .i64 3, .int .u64 0, .int .u64 0, .int .u64 0, .int .u64 0, .int .u64 0, .int .i64 0, .bool false, .slice none 0 0, v, .slice none 0 0]
theorem bgl {w : World} {b : Nat} {v : Value} {f : Nat × Nat} (h : w.heap[b]? = some (.cells (aew v).toArray T.a f)) (K : KV) : ldN P 11 b 0 w K = K (.agg (aew v).toArray) w :=
 rh (aew v) 11 rfl (fun k u hk => by rw [gj h, Nat.zero_add, List.getElem?_toArray]; exact hk) K
def yv (l : List Mem) : Bool := (ro 0 l && (decide (0 < l.length) && decide (l.length ≤ 16))) && !(l.any pt)
theorem azq {w : World} {v : Value} {l : List Mem} (hs : SlM w v l) (hlen : l.length ≤ 1000000) {K : KV} (h : ∀ w', Fr (fun _ => False) w w' → K (.bool (yv l)) w') : gb P F.be [.iface T.s (.agg #[v])] w K := by
 rw [M.p.fcall]
 apply M.p.calls
 unfold M.p
 simp
 have hba : (w.alloc (.cells #[.int .u64 0, .int .u64 0] T.d)).heap[w.heap.size]? = some (.cells #[.int .u64 0, .int .u64 0] T.d (0, 0)) := by rw [ie, if_pos rfl]
 refine jm (vs := [.int .u64 0, .int .u64 0]) hba rfl (by simp) fun w2 b2 f2 => ?_
 have f2' : Fr (fun _ => False) w w2 := ((Fr.refl _ w).alloc _).me f2 fun y hy he => by subst he; omega
 have hs2 := hs.fr f2' fun _ _ _ h => h
 rw [aov]
 obtain ⟨a, c, hv, _⟩ := id hs2
 have hcell : ∀ {w'}, Fr (fun _ => False) w2 w' → SlM w' v l := fun f => hs2.fr f fun _ _ _ h => h
 rw [hv]
 simp
 have hbm : (w2.alloc (.cells #[.slice none 0 0] T.s)).heap[w2.heap.size]? = some (.cells #[.slice none 0 0] T.s (0, 0)) := by rw [ie, if_pos rfl]
 refine jm (vs := [.slice a l.length c]) hbm rfl (by simp) fun w3 b3 f3 => ?_
 have f3' : Fr (fun _ => False) w2 w3 := ((Fr.refl _ w2).alloc _).me f3 fun y hy he => by subst he; omega
 have c0 : gi w3 w2.heap.size 0 = some (.slice a l.length c) := by rw [gj b3]; rfl
 simp [c0]
 rw [← hv]
 refine bhu (hcell f3') hlen fun w4 f4 => ?_
 have c4 : gi w4 w2.heap.size 0 = some (.slice a l.length c) := by rw [gj (f4.heap b3 fun h => h)]; rfl
 unfold yv at h
 generalize (ro 0 l && (decide (0 < l.length) && decide (l.length ≤ 16))) = r at *
 cases r with
 | false =>
  simp
  exact h w4 ((f2'.trans f3').trans f4)
 | true =>
  simp [c4]
  rw [← hv]
  refine arc (hcell (f3'.trans f4)) hlen fun w5 f5 => ?_
  simp
  exact h w5 (((f2'.trans f3').trans f4).trans f5)
theorem ayg {w : World} {v : Value} {l : List Mem} (hs : SlM w v l) (hlen : l.length ≤ 1000000) {K : KV} (h : ∀ w' v', SlM w' v' l → Fr (fun _ => False) w w' → K (.agg (aew v').toArray) w') : gb P F.au [.iface T.s (.agg #[v])] w K := by
 rw [M.l.fcall]
 apply M.l.calls
 unfold M.l
 simp
 rw [aov]
 generalize hw1 : w.alloc (.cells #[.int .i64 0, .int .u64 0, .int .u64 0, .int .u64 0, .int .u64 0, .int .u64 0, .int .i64 0, .bool false, .slice none 0 0, .slice none 0 0, .slice none 0 0] T.a) = w1
 have hb1 : w1.heap[w.heap.size]? = some (.cells #[.int .i64 0, .int .u64 0, .int .u64 0, .int .u64 0, .int .u64 0, .int .u64 0, .int .i64 0, .bool false, .slice none 0 0, .slice none 0 0, .slice none 0 0] T.a (0, 0)) := by rw [← hw1, ie, if_pos rfl]
 have f1 : Fr (fun _ => False) w w1 := by rw [← hw1]; exact (Fr.refl _ w).alloc _
 have hs1 := hs.fr f1 fun _ _ _ h => h
 obtain ⟨a, c, hv, _⟩ := id hs1
 have hcell : ∀ {w'}, Fr (fun _ => False) w1 w' → SlM w' v l := fun f => hs1.fr f fun _ _ _ h => h
 rw [hv]
 simp
 have hbm : (w1.alloc (.cells #[.slice none 0 0] T.s)).heap[w1.heap.size]? = some (.cells #[.slice none 0 0] T.s (0, 0)) := by rw [ie, if_pos rfl]
 refine jm (vs := [.slice a l.length c]) hbm rfl (by simp) fun w3 b3 f3 => ?_
 have f3' : Fr (fun _ => False) w1 w3 := ((Fr.refl _ w1).alloc _).me f3 fun y hy he => by subst he; omega
 have c0 : gi w3 w1.heap.size 0 = some (.slice a l.length c) := by rw [gj b3]; rfl
 simp [c0]
 rw [← hv]
 refine ani (hcell f3') hlen fun w4 v4 s4 n4 f4 => ?_
 obtain ⟨a4, c4, hv4, _⟩ := id s4
 have hb4 := (f3'.trans f4).heap hb1 fun h => h
 rw [hv4]
 simp
 refine jm (vs := aew (.slice a4 l.length c4)) hb4 rfl (by simp [aew]) fun w5 b5 f5 => ?_
 rw [bgl b5]
 have e : Value.agg (aew (.slice a4 l.length c4)).toArray = .agg #[.int .i64 3, .int .u64 0, .int .u64 0, .int .u64 0, .int .u64 0, .int .u64 0, .int .i64 0, .bool false, .slice none 0 0, .slice a4 l.length c4, .slice none 0 0] := rfl
 rw [e]
 simp
 refine jm (vs := aew (.slice a4 l.length c4)) b5 rfl (by simp [aew]) fun w6 b6 f6 => ?_
 rw [ahg, bgl b6]
 simp
 have hlt1 : w.heap.size < w1.heap.size := (Array.getElem?_eq_some_iff.1 hb1).1
 have hs31 := f3'.size
 have hnn : ∀ b, (Value.slice a4 l.length c4).ownBlock = some b → b ≠ w.heap.size := fun b hb => by
  have := n4 b (by rw [hv4]; exact hb)
  omega
 rw [hv4] at s4
 have s6 : SlM w6 (.slice a4 l.length c4) l := (s4.fr f5 fun b hb _ => hnn b hb).fr f6 fun b hb _ => hnn b hb
 have f46 : Fr (fun _ => False) w w6 := (((f1.trans f3').trans f4).me f5 fun y hy he => by subst he; omega).me f6 fun y hy he => by subst he; omega
 exact h w6 _ s6 f46
end Go.Proofs.YtfnhoaemapheoaaGreat
namespace Go.Eng
end Go.Eng
set_option maxRecDepth 100000
namespace Go.Proofs.YtfnhoaemapheoaaGreat
open Go.Eng
set_option maxRecDepth 100000
end Go.Proofs.YtfnhoaemapheoaaGreat
namespace Go.Eng
end Go.Eng
set_option maxRecDepth 100000
namespace Go.Proofs.YtfnhoaemapheoaaGreat
open Go.Eng
set_option maxRecDepth 100000
abbrev SlS (w : World) (v : Value) (l : List Spn) : Prop := Sl w 8 gy v l
def ast (w : World) (b : Nat) (s : Spn) : Prop := w.heap[b]? = some (.cells #[.int .u64 s.il, .int .u64 s.id, .int .u64 s.ph, .int .u64 s.jh, .int .u64 s.len, .string s.jn, .string s.name, .bool s.tc] T.e (0, 0))
theorem bhk (s : Spn) (w : World) (K : KV) : lx P T.e (jx s) w K = K (.pointer (some ⟨w.heap.size, 0, none⟩)) (w.alloc (.cells #[.int .u64 s.il, .int .u64 s.id, .int .u64 s.ph, .int .u64 s.jh, .int .u64 s.len, .string s.jn, .string s.name, .bool s.tc] T.e)) := by
 rw [xc]; rfl
theorem bfj (w : World) (s : Spn) : ast (w.alloc (.cells #[.int .u64 s.il, .int .u64 s.id, .int .u64 s.ph, .int .u64 s.jh, .int .u64 s.len, .string s.jn, .string s.name, .bool s.tc] T.e)) w.heap.size s := by
 unfold ast; rw [ie, if_pos rfl]
theorem ww {w : World} {b : Nat} {s : Spn} (h : ast w b s) : ∀ k v, (gy s)[k]? = some v → gi w b k = some v := fun k v hk => by
 rw [gj h]
 have : (#[.int .u64 s.il, .int .u64 s.id, .int .u64 s.ph, .int .u64 s.jh, .int .u64 s.len, .string s.jn, .string s.name, .bool s.tc] : Array Value) = (gy s).toArray := rfl
 rw [this]; simpa using hk
theorem ldS {w : World} {b i : Nat} {s : Spn} (h : ∀ k v, (gy s)[k]? = some v → gi w b (i + k) = some v) (K : KV) : ldN P 8 b i w K = K (jx s) w := rh (gy s) 8 rfl h K
theorem abq {w : World} {v : Value} {l : List Spn} (hs : SlS w v l) (hlen : l.length ≤ 1000000) {K : KV} (h : ∀ w' v', SlS w' v' l → (∀ x, v'.ownBlock = some x → w.heap.size ≤ x ∧ x < w'.heap.size) → Fr (fun _ => False) w w' → K v' w') : jr P F.g [v] w K := by
 apply M.i.calls
 unfold M.i
 simp only [gg]
 have hs' := hs
 obtain ⟨a, cap, rfl, _⟩ := hs'
 cases a with
 | none =>
  simp
  have hz : l = [] := by
   obtain ⟨a', cap', hv, _, _, h3⟩ := hs
   cases l with
   | nil => rfl
   | cons x l =>
    obtain ⟨b, o, ha, _⟩ := h3 0 x rfl
    injection hv with h1 _ _
    rw [← h1] at ha; cases ha
  subst hz
  exact h w _ Sl.nil (fun x hx => by simp [Value.ownBlock] at hx) (Fr.refl _ _)
 | some a =>
  simp
  have f0 : Fr (fun _ => False) w (w.alloc (.cells #[] T.e)) := (Fr.refl _ w).alloc _
  refine vv et.c lk nq (base := w.heap.size) (Ow.empty (by rw [ie, if_pos rfl]) (Nat.le_refl _)) (hs.fr f0 fun _ _ _ h => h) (by simp; omega) (by decide) (by simp) _ fun v3 w3 o3 f3 g3 => ?_
  rw [List.nil_append] at o3
  exact h w3 v3 (o3.sl lk) (fun x hx => o3.lt hx) (f0.me f3 fun b hb hv => by simp [Value.ownBlock] at hv; omega)
def mw (k : Int) : List Value := [.int .u64 k]
theorem ws (p : Int) : (mw p).length = 1 := rfl
theorem aoy (p : Int) : ∀ u ∈ mw p, jz u = true := fun u hu => by
 simp only [mw, List.mem_cons, List.not_mem_nil, or_false] at hu
 subst hu; rfl
abbrev SlU (w : World) (v : Value) (l : List Int) : Prop := Sl w 1 mw v l
theorem adi {w : World} {v : Value} {l : List Int} (h : SlU w v l) {i : Nat} (hi : i < l.length) : ∃ b o cap, v = .slice (some ⟨b, o, none⟩) l.length cap ∧ b < w.heap.size ∧ gi w b (o + i) = some (.int .u64 l[i]) := by
 obtain ⟨b, o, cap, hv, hb, _, hr⟩ := h.at hi
 have := hr 0 _ rfl
 simp only [Nat.mul_one, Nat.add_zero] at this
 exact ⟨b, o, cap, hv, hb, this⟩
def ub (x y : Spn) : Bool := x.il == y.il && (x.id == y.id && (x.ph == y.ph && (x.jh == y.jh && (x.len == y.len && (x.jn.toList == y.jn.toList && (x.name.toList == y.name.toList && (x.tc == y.tc)))))))
theorem aeb (x : Spn) : ub x x = true := by simp [ub]
theorem ajs (x y : Spn) (w : World) : (Op.equalIn 10000 T.e (jx x) (jx y)).run P w = .ok (ub x y) w := by
 have hS : P.underlying T.e = some (.struct (P.fieldsOf T.e)) := by kernel_rfl
 have hp : P.stoodInHeld T.e = false := by kernel_rfl
 unfold jx
 rw [show (10000 : Nat) = 9999 + 1 from rfl, run_equalIn_agg w 9999 T.e _ _ hS hp]
 have u22 : P.underlying 35 = some (.int .u64) := Tryz.underlying35
 have u9 : P.underlying 9 = some .string := Tryz.underlying9
 have u4 : P.underlying 4 = some .bool := Tryz.underlying4
 simp only [Program.fieldsOf, show P.underlying T.e = _ from Tryz.underlying85]
 have a22 : adc P 35 = false := by kernel_rfl
 have a9 : adc P 9 = false := by kernel_rfl
 have a4 : adc P 4 = false := by kernel_rfl
 unfold ub
 refine eqF (by decide) a22 rfl rfl (run_equalIn_int w 9998 35 _ _ _ _ u22) ?_
 refine eqF (by decide) a22 rfl rfl (run_equalIn_int w 9998 35 _ _ _ _ u22) ?_
 refine eqF (by decide) a22 rfl rfl (run_equalIn_int w 9998 35 _ _ _ _ u22) ?_
 refine eqF (by decide) a22 rfl rfl (run_equalIn_int w 9998 35 _ _ _ _ u22) ?_
 refine eqF (by decide) a22 rfl rfl (run_equalIn_int w 9998 35 _ _ _ _ u22) ?_
 refine eqF (by decide) a9 rfl rfl (run_equalIn_string w 9998 9 _ _ u9) ?_
 refine eqF (by decide) a9 rfl rfl (run_equalIn_string w 9998 9 _ _ u9) ?_
 have := eqF (fs := []) (d := 9999) (xs := #[.int .u64 x.il, .int .u64 x.id, .int .u64 x.ph, .int .u64 x.jh, .int .u64 x.len, .string x.jn, .string x.name, .bool x.tc]) (ys := #[.int .u64 y.il, .int .u64 y.id, .int .u64 y.ph, .int .u64 y.jh, .int .u64 y.len, .string y.jn, .string y.name, .bool y.tc]) (f := { name := "Fail", type := 4, offset := 7, embedded := false, tag := "", pkgPath := "", byteOffset := 72 }) (w := w) (c := true) (by decide) a4 rfl rfl (run_equalIn_bool' w 9998 4 _ _ u4) rfl
 simpa using this
theorem ahx (rx ry : Operand) (x y : Spn) (w : World) (K : KV) : ga P .neq T.e rx ry (jx x) (jx y) w K = K (.bool !(ub x y)) w := by
 have hm : P.eqGuardType P.depth T.e = false := by kernel_rfl
 have hg := run_eqGuard_agg (P := P) w .neq T.e rx ry #[.int .u64 x.il, .int .u64 x.id, .int .u64 x.ph, .int .u64 x.jh, .int .u64 x.len, .string x.jn, .string x.name, .bool x.tc] #[.int .u64 y.il, .int .u64 y.id, .int .u64 y.ph, .int .u64 y.jh, .int .u64 y.len, .string y.jn, .string y.name, .bool y.tc] hm
 have he := ajs x y w
 unfold ga je
 unfold jx at he ⊢
 rw [Sem.run_bind, hg]
 simp only [Result.andThen]
 rw [run_neq_struct, he]
 rfl
def azb (w : World) (l1 l2 : List Spn) : KL := fun x w1 => ∃ (a : Value) (i : Nat), x = [a, .int .i64 (i : Nat)] ∧ i ≤ l1.length ∧ (∀ j (h1 : j < l1.length) (h2 : j < l2.length), j < i → ub l1[j] l2[j] = true) ∧ Fr (fun _ => False) w w1
def bkv (l1 l2 : List Spn) : Prop := l1.length = l2.length ∧ ∀ j (h1 : j < l1.length) (h2 : j < l2.length), ub l1[j] l2[j] = true
theorem bdf {w : World} {v1 v2 : Value} {l1 l2 : List Spn} (h1 : SlS w v1 l1) (h2 : SlS w v2 l2) (hn : l1.length < 1000000) (hs : bkv l1 l2) {K : KV}
  (h : ∀ w', Fr (fun _ => False) w w' → K (.bool true) w') : jr P F.bu [v1, v2] w K := by
 obtain ⟨hne, hall⟩ := hs
 apply M.z.calls
 unfold M.z
 simp only [gg]
 rw [h1.im (by simp), h2.im (by simp)]
 simp [hne]
 unfold M.z.j0
 simp only [gg]
 refine ⟨azb w l1 l2, fun x _ => l1.length - ms x 1, ⟨_, 0, rfl, Nat.zero_le _, fun j _ _ h => by omega, Fr.refl _ _⟩, ?_⟩
 rintro x w1 ⟨a, i, rfl, hin, hpre, hf1⟩
 have g1 : gv [a, .int .i64 (i : Int)] 1 = .int .i64 (i : Int) := rfl
 simp only [g1]
 have hr1 : SlS w1 v1 l1 := h1.fr hf1 fun _ _ _ h => h
 have hr2 : SlS w1 v2 l2 := h2.fr hf1 fun _ _ _ h => h
 rw [hr1.im (by simp)]
 by_cases hlt : i < l1.length
 ·have hlt2 : i < l2.length := by omega
  obtain ⟨b1, o1, c1, rfl, _, _, k1⟩ := hr1.at hlt
  obtain ⟨b2, o2, c2, rfl, _, _, k2⟩ := hr2.at hlt2
  have hw : IntKind.i64.wrap ((i : Int) + 1) = ((i + 1 : Nat) : Int) := by rw [gm (by omega) (by omega)]; rfl
  have d1 : ∀ K, ldN P 8 b1 (o1 + i * 8) (dr w1 1) K = K (jx l1[i]) (dr w1 1) := fun K => ldS (w := dr w1 1) k1 K
  have d2 : ∀ K, ldN P 8 b2 (o2 + i * 8) (dr w1 1) K = K (jx l2[i]) (dr w1 1) := fun K => ldS (w := dr w1 1) k2 K
  simp [hlt]
  unfold M.z.j3
  simp only [gg, g1]
  simp [hlt, hlt2, d1, d2, ahx, hall i hlt hlt2, hw]
  refine ⟨⟨_, i + 1, rfl, by omega, fun j a1 a2 _ => hall j a1 a2, hf1.dr 1⟩, by simp [ms, gv]; omega⟩
 ·simp [hlt]
  exact h _ hf1
end Go.Proofs.YtfnhoaemapheoaaGreat
set_option maxRecDepth 100000
namespace Go.Proofs.YtfnhoaemapheoaaGreat.CB
open Go.Eng
theorem alh {w : World} {n : Nat} (hn : n ≤ 1000000000) {K : KV} (h : ∀ w' v, Ow w' w.heap.size T.ak 1 aep v [] → Fr (fun _ => False) w w' → K v w') :
  jr P F.ce [.slice none 0 0, .int .i64 n] w K := by
 apply M.bb.calls
 unfold M.bb
 have hneg : ¬ (n : Int) < 0 := by omega
 simp [hneg]
 unfold M.bb.j0
 have hsl : nc P T.f = true := by kernel_rfl
 have w0 : IntKind.i64.wrap 0 = 0 := by decide
 have wn : IntKind.i64.wrap (n : Int) = n := gm (by omega) (by omega)
 rw [gg, akn hsl, xd hsl]
 simp only [kt, qp]
 have e1 : IntKind.i64.wrap ((n : Int) - IntKind.i64.wrap (((0 : Nat) : Int) - ((0 : Nat) : Int))) = n := by
  rw [show ((0 : Nat) : Int) - ((0 : Nat) : Int) = 0 from by omega, w0, Int.sub_zero, wn]
 rw [e1]
 by_cases h0 : 0 < n
 ·have h0' : (0 : Int) < n := by omega
  simp only [h0', decide_true, Eng.cond_true]
  rw [akn hsl, yo (i := 0) (j := 0) hsl (.inl ⟨rfl, rfl⟩) (.inr ⟨.i64, rfl⟩) (Nat.le_refl _) (Nat.le_refl _)]
  refine ban (enc := aep) et.f (kn := .i64) (by kernel_rfl) h0 hn (by decide) _ fun w' cap hc o f => ?_
  rw [xd hsl, yo (i := 0) (j := 0) hsl (.inl ⟨rfl, rfl⟩) (.inr ⟨.i64, rfl⟩) (Nat.le_refl _) (Nat.zero_le _)]
  rw [if_neg (by omega)]
  have := h w' _ o f
  simpa [Addr.add, gv] using this
 ·have h0' : ¬ (0 : Int) < n := by omega
  simp only [h0', decide_false, Eng.cond_false]
  exact h w _ Ow.none (Fr.refl _ _)
abbrev Sls (w : World) (v : Value) (l : List Int) : Prop := Sl w 1 aep v l
abbrev Ows (w : World) (base : Nat) (v : Value) (l : List Int) : Prop := Ow w base T.ak 1 aep v l
def tot (L : List (Value × List Int)) : Nat := (L.map fun p => p.2.length).sum
theorem abr {L : List (Value × List Int)} {i : Nat} (hi : i < L.length) : tot (L.take (i + 1)) = tot (L.take i) + L[i].2.length := by
 unfold tot
 rw [List.take_succ_eq_append_getElem hi, List.map_append, List.sum_append]; simp
theorem afp {L : List (Value × List Int)} (i : Nat) : tot (L.take i) ≤ tot L := by
 unfold tot
 conv => rhs; rw [← List.take_append_drop i L, List.map_append, List.sum_append]
 omega
theorem ajd (L : List (Value × List Int)) : (L.flatMap (·.2)).length = tot L := by
 unfold tot
 induction L with
 | nil => rfl
 | cons p L ih => simp [ih]
def CaI (w : World) (L : List (Value × List Int)) : KL := fun x w1 => ∃ (u : Value) (i : Nat), x = [u, .int .i64 (tot (L.take i) : Nat), .int .i64 (i : Nat)] ∧ w1 = w ∧ i ≤ L.length
def CbI (w : World) (L : List (Value × List Int)) : KL := fun x w1 => ∃ (u v : Value) (i : Nat), x = [u, v, .int .i64 (i : Nat)] ∧ i ≤ L.length ∧ Fr (fun _ => False) w w1 ∧ Ows w1 w.heap.size v ((L.take i).flatMap (·.2))
theorem aab {w : World} {b cap : Nat} {L : List (Value × List Int)} {e : TypeId} (hb : w.heap[b]? = some (.cells (L.map (·.1)).toArray e (0, 0))) (hs : ∀ p ∈ L, Sls w p.1 p.2) (ht : tot L ≤ 100000000) (hL : L.length ≤ 1000) {K : KV}
  (h : ∀ w' v, Ows w' w.heap.size v (L.flatMap (·.2)) → Fr (fun _ => False) w w' → K v w') : jr P F.ao [.slice (some ⟨b, 0, none⟩) L.length cap] w K := by
 apply M.j.calls
 unfold M.j
 have hss : nc P T.j = true := by kernel_rfl
 have hsl : nc P T.f = true := by kernel_rfl
 have q0 : ∀ a b c : Value, gv [a, b, c] 0 = a := fun _ _ _ => rfl
 have q1 : ∀ a b c : Value, gv [a, b, c] 1 = b := fun _ _ _ => rfl
 have q2 : ∀ a b c : Value, gv [a, b, c] 2 = c := fun _ _ _ => rfl
 have q4 : ∀ a b c d e : Value, gv [a, b, c, d, e] 4 = e := fun _ _ _ _ _ => rfl
 have cell : ∀ (w' : World), Fr (fun _ => False) w w' → ∀ (i : Nat) (hi : i < L.length), gi w' b i = some L[i].1 := fun w' f i hi => by
  rw [gj (f.heap hb fun h => h)]
  simp [hi]
 rw [gg, xd hss]
 refine ⟨CaI w L, fun x _ => L.length - ms x 2, ⟨_, 0, rfl, rfl, Nat.zero_le _⟩, ?_⟩
 rintro x w1 ⟨u, i, rfl, rfl, hi⟩
 simp only [q0, q1, q2, km, gg]
 by_cases hil : i < L.length
 ·have hil' : (i : Int) < L.length := by omega
  simp only [hil', decide_true, Eng.cond_true]
  unfold M.j.j2
  have hwi : IntKind.i64.wrap ((i : Int) + 1) = ((i + 1 : Nat) : Int) := by rw [gm (by omega) (by omega)]; rfl
  have c0 := cell w1 (Fr.refl _ _) i hil
  have hsi := hs L[i] (List.getElem_mem hil)
  obtain ⟨a', cap', hv', _⟩ := hsi
  have htt := abr hil
  have hle := afp (L := L) (i + 1)
  have hwt : IntKind.i64.wrap ((tot (L.take i) : Int) + (L[i].2.length : Int)) = ((tot (L.take (i + 1)) : Nat) : Int) := by rw [gm (by omega) (by omega)]; omega
  have hng : ¬ ((tot (L.take (i + 1)) : Nat) : Int) < 0 := by omega
  simp only [q0, q1, q2, gg]
  simp [hil, c0, hv', hwt, hwi, -Int.natCast_add]
  refine ⟨⟨_, i + 1, rfl, rfl, by omega⟩, ?_⟩
  simp [ms, gv]; omega
 ·have hie : i = L.length := by omega
  have hil' : ¬ (i : Int) < L.length := by omega
  simp only [hil', decide_false, Eng.cond_false]
  have htk : L.take i = L := List.take_of_length_le (by omega)
  rw [htk]
  unfold M.j.j0
  simp only [q4]
  rw [M.bb.fcall]
  refine alh (by omega) fun w2 v2 o2 f2 => ?_
  rw [gg, xd hss]
  refine ⟨CbI w1 L, fun x _ => L.length - ms x 2, ⟨_, v2, 0, rfl, Nat.zero_le _, f2, o2⟩, ?_⟩
  rintro x w3 ⟨u', v, j, rfl, hj, f3, o3⟩
  simp only [q0, q1, q2, km, gg]
  by_cases hjl : j < L.length
  ·have hjl' : (j : Int) < L.length := by omega
   simp only [hjl', decide_true, Eng.cond_true]
   unfold M.j.j6
   have hwj : IntKind.i64.wrap ((j : Int) + 1) = ((j + 1 : Nat) : Int) := by rw [gm (by omega) (by omega)]; rfl
   have c0 := cell w3 f3 j hjl
   have hsj := (hs L[j] (List.getElem_mem hjl)).fr f3 fun _ _ _ h => h
   have hl1 : ((L.take j).flatMap (·.2)).length = tot (L.take j) := ajd _
   have htt := abr hjl
   have hle := afp (L := L) (j + 1)
   simp only [q0, q1, q2, gg]
   simp [hjl, c0, -List.length_flatMap]
   have hge := f3.size
   refine vv et.f jj vu o3 hsj (by rw [hl1]; omega) (by decide) hge _ fun v' w4 o4 f4 g4 => ?_
   simp only [hwj]
   refine ⟨⟨_, v', j + 1, rfl, by omega, f3.me f4 fun x hx he => by have := (o3.lt he).1; omega, ?_⟩, ?_⟩
   ·rw [List.take_succ_eq_append_getElem hjl, List.flatMap_append]
    simpa using o4
   ·simp [ms, gv]; omega
  ·have hjl' : ¬ (j : Int) < L.length := by omega
   simp only [hjl', decide_false, Eng.cond_false, q4]
   have htj : L.take j = L := List.take_of_length_le (by omega)
   rw [htj] at o3
   exact h w3 v o3 f3
end Go.Proofs.YtfnhoaemapheoaaGreat.CB
set_option maxRecDepth 100000
namespace Go.Proofs.YtfnhoaemapheoaaGreat
open Go.Eng
class SD where
 k : IntKind
 el : TypeId
 sl : TypeId
 ayh : FuncId
 bfm : FuncId
 bdd : FuncId
 awf : FuncId
 aws : FuncId
 axo : FuncId
 bda : FuncId
 axy : FuncId
 bec : FuncId
 bcv : FuncId
 bed : FuncId
 ayy : FuncId
 bev : FuncId
 bct : FuncId
 bdl : FuncId
 ayq : FuncId
abbrev T.ah [SD] : TypeId := SD.el
abbrev T.ai [SD] : TypeId := SD.sl
abbrev F.dc [SD] : FuncId := SD.ayh
abbrev F.fo [SD] : FuncId := SD.bfm
abbrev F.fp [SD] : FuncId := SD.bdd
abbrev F.fh [SD] : FuncId := SD.awf
abbrev F.fl [SD] : FuncId := SD.aws
abbrev F.fm [SD] : FuncId := SD.axo
abbrev F.fq [SD] : FuncId := SD.bda
abbrev F.fn [SD] : FuncId := SD.axy
abbrev F.fr [SD] : FuncId := SD.bec
abbrev F.fi [SD] : FuncId := SD.bcv
abbrev F.fj [SD] : FuncId := SD.bed
abbrev F.fe [SD] : FuncId := SD.ayy
abbrev F.fs [SD] : FuncId := SD.bev
abbrev F.ft [SD] : FuncId := SD.bct
abbrev F.fk [SD] : FuncId := SD.bdl
abbrev F.fu [SD] : FuncId := SD.ayq
def M.di [SD] (a0 a1 : Value) : QQ := fun w K =>  gb P F.fo [a0] w fun t6 w => fy (isB t6 true) (fun K' => K' a1 w) w fun t8 w => fy (isB t6 true) (gb P F.fo [t8] w) w fun t9 w => fy (isB t6 true) (unT P .not t9 w) w fun t10 w => gq t6 t10 (.bool false) w fun t11 w => fy (isB t11 false) (fun K' => K' a0 w) w fun t13 w => fy (isB t11 false) (fun K' => K' a1 w) w fun t14 w => fy (isB t11 false) (ga P .lss T.ah (.tmp 13) (.tmp 14) t13 t14 w) w fun t15 w => gq t11 (.bool true) t15 w fun t16 w => K t16 w
def M.eb [SD] (a0 : Value) : QQ := fun w K =>  ga P .neq T.ah (.tmp 3) (.tmp 4) a0 a0 w fun t5 w => K t5 w
def M.cg.j4 [SD] (x3 : List Value) (a0 : Value) (K3 : KL) : QQ := fun w K =>  gc (fun K5 => iq w fun w => w = w ∧ w = w ∧ w = w ∧ w = w ∧ fw (ga P .sub T.b (.tmp 36) (.const (.int .i64 1)) (gv x3 0) (.int .i64 1) w) w fun t37 => w = w ∧ w = w ∧ fw (ga P .sub T.b (.tmp 39) (.const (.int .i64 1)) (gv x3 0) (.int .i64 1) w) w fun t40 => fw (iaT P T.ai a0 t40 w) w fun t41 => fw (ldT P T.ah t41 w) w fun t42 => w = w ∧ w = w ∧ fw (iaT P T.ai a0 (gv x3 0) w) w fun t45 => fw (ldT P T.ah t45 w) w fun t46 => fw (iaT P T.ai a0 (gv x3 0) w) w fun t47 => stT P T.ah t47 t42 w fun _ w => gh (ga P .sub T.b (.tmp 36) (.const (.int .i64 1)) (gv x3 0) (.int .i64 1) w) w t37 ∧ gh (fun K' => K' (gv x3 0) w) w (gv x3 0) ∧ gh (fun K' => K' a0 w) w a0 ∧ fw (iaT P T.ai a0 t37 w) w fun t48 => stT P T.ah t48 t46 w fun _ w => K5 [] w) fun x5 w => ga P .sub T.b (.tmp 31) (.const (.int .i64 1)) (gv x3 0) (.int .i64 1) w fun t32 w => K3 [t32] w
def M.cg.j3 [SD] (x3 : List Value) (a1 a0 : Value) (K2 K3 : KL) : QQ := fun w K =>  gc (fun K4 => iq w fun w => w = w ∧ w = w ∧ fw (ga P .gtr T.b (.tmp 16) (.tmp 17) (gv x3 0) a1 w) w fun t18 => w = w ∧ fw (fun K' => fy (isB t18 true) (fun K' => K' a0 w) w K') w fun t20 => fw (fun K' => fy (isB t18 true) (fun K' => K' (gv x3 0) w) w K') w fun t21 => fw (fy (isB t18 true) (iaT P T.ai t20 t21 w) w) w fun t22 => fw (fy (isB t18 true) (ldT P T.ah t22 w) w) w fun t23 => fw (fun K' => fy (isB t18 true) (fun K' => K' a0 w) w K') w fun t24 => fw (fun K' => fy (isB t18 true) (fun K' => K' (gv x3 0) w) w K') w fun t25 => fw (fy (isB t18 true) (ga P .sub T.b (.tmp 25) (.const (.int .i64 1)) t25 (.int .i64 1) w) w) w fun t26 => fw (fy (isB t18 true) (iaT P T.ai t24 t26 w) w) w fun t27 => fw (fy (isB t18 true) (ldT P T.ah t27 w) w) w fun t28 => fy (isB t18 true) (gb P F.dc [t23, t28] w) w fun t29 w => fw (gq t18 t29 (.bool false) w) w fun t30 => ge t30 ( K4 [] w) ( K2 [(gv x3 0)] w)) fun x4 w => M.cg.j4 x3 a0 K3 w K
def M.cg.j0 [SD] (x0 : List Value) (a2 a1 a0 : Value) (K0 : KL) : QQ := fun w K =>  gc (fun K1 => ga P .lss T.b (.tmp 10) (.tmp 11) (gv x0 1) a2 w fun t12 w => ge t12 ( K1 [] w) ( K (.tuple #[]) w)) fun x1 w => gc (fun K2 => ir [(gv x0 1)] w fun K3 x3 w => M.cg.j3 x3 a1 a0 K2 K3 w K) fun x2 w => ga P .add T.b (.tmp 13) (.const (.int .i64 1)) (gv x0 1) (.int .i64 1) w fun t14 w => K0 [(gv x2 0), t14] w
def M.cg [SD] (a0 a1 a2 : Value) : QQ := fun w K =>  ga P .add T.b (.tmp 8) (.const (.int .i64 1)) a1 (.int .i64 1) w fun t9 w => ir [undef, t9] w fun K0 x0 w => M.cg.j0 x0 a2 a1 a0 K0 w K
def M.bo.j3 [SD] (a3 : Value) (x0 x2 : List Value) (a0 : Value) (K0 : KL) : QQ := fun w K =>  iq w fun w => w = w ∧ w = w ∧ w = w ∧ fw (ga P .add T.b (.tmp 54) (.tmp 55) a3 (gv x0 1) w) w fun t56 => w = w ∧ w = w ∧ w = w ∧ fw (ga P .add T.b (.tmp 58) (.tmp 59) a3 (gv x2 0) w) w fun t60 => w = w ∧ w = w ∧ w = w ∧ fw (ga P .add T.b (.tmp 62) (.tmp 63) a3 (gv x2 0) w) w fun t64 => fw (iaT P T.ai a0 t64 w) w fun t65 => fw (ldT P T.ah t65 w) w fun t66 => w = w ∧ w = w ∧ w = w ∧ fw (ga P .add T.b (.tmp 68) (.tmp 69) a3 (gv x0 1) w) w fun t70 => fw (iaT P T.ai a0 t70 w) w fun t71 => fw (ldT P T.ah t71 w) w fun t72 => fw (iaT P T.ai a0 t56 w) w fun t73 => stT P T.ah t73 t66 w fun _ w => gh (ga P .add T.b (.tmp 58) (.tmp 59) a3 (gv x2 0) w) w t60 ∧ gh (fun K' => K' (gv x2 0) w) w (gv x2 0) ∧ gh (fun K' => K' a3 w) w a3 ∧ gh (fun K' => K' a0 w) w a0 ∧ fw (iaT P T.ai a0 t60 w) w fun t74 => stT P T.ah t74 t72 w fun _ w => K0 [(gv x2 0), (gv x2 0)] w
def M.bo.j2 [SD] (a3 : Value) (x0 : List Value) (a0 : Value) (x2 : List Value) (K0 : KL) : QQ := fun w K =>  gc (fun K3 => iq w fun w => w = w ∧ w = w ∧ w = w ∧ fw (ga P .add T.b (.tmp 40) (.tmp 41) a3 (gv x0 1) w) w fun t42 => fw (iaT P T.ai a0 t42 w) w fun t43 => fw (ldT P T.ah t43 w) w fun t44 => w = w ∧ w = w ∧ w = w ∧ fw (ga P .add T.b (.tmp 46) (.tmp 47) a3 (gv x2 0) w) w fun t48 => fw (iaT P T.ai a0 t48 w) w fun t49 => fw (ldT P T.ah t49 w) w fun t50 => gb P F.dc [t44, t50] w fun t51 w => fw (unT P .not t51 w) w fun t52 => ge t52 ( K (.tuple #[]) w) ( K3 [] w)) fun x3 w => M.bo.j3 a3 x0 x2 a0 K0 w K
def M.bo.j1 [SD] (t13 a2 a0 a3 : Value) (x0 : List Value) (K0 : KL) : QQ := fun w K =>  gc (fun K2 => iq w fun w => w = w ∧ fw (ga P .add T.b (.tmp 17) (.const (.int .i64 1)) t13 (.int .i64 1) w) w fun t18 => w = w ∧ fw (ga P .lss T.b (.tmp 18) (.tmp 19) t18 a2 w) w fun t20 => w = w ∧ fw (fun K' => fy (isB t20 true) (fun K' => K' a0 w) w K') w fun t22 => fw (fun K' => fy (isB t20 true) (fun K' => K' a3 w) w K') w fun t23 => fw (fun K' => fy (isB t20 true) (fun K' => K' t13 w) w K') w fun t24 => fw (fy (isB t20 true) (ga P .add T.b (.tmp 23) (.tmp 24) t23 t24 w) w) w fun t25 => fw (fy (isB t20 true) (iaT P T.ai t22 t25 w) w) w fun t26 => fw (fy (isB t20 true) (ldT P T.ah t26 w) w) w fun t27 => fw (fun K' => fy (isB t20 true) (fun K' => K' a0 w) w K') w fun t28 => fw (fun K' => fy (isB t20 true) (fun K' => K' a3 w) w K') w fun t29 => fw (fun K' => fy (isB t20 true) (fun K' => K' t13 w) w K') w fun t30 => fw (fy (isB t20 true) (ga P .add T.b (.tmp 29) (.tmp 30) t29 t30 w) w) w fun t31 => fw (fy (isB t20 true) (ga P .add T.b (.tmp 31) (.const (.int .i64 1)) t31 (.int .i64 1) w) w) w fun t32 => fw (fy (isB t20 true) (iaT P T.ai t28 t32 w) w) w fun t33 => fw (fy (isB t20 true) (ldT P T.ah t33 w) w) w fun t34 => fy (isB t20 true) (gb P F.dc [t27, t34] w) w fun t35 w => fw (gq t20 t35 (.bool false) w) w fun t36 => ge t36 ( ga P .add T.b (.tmp 37) (.const (.int .i64 1)) t13 (.int .i64 1) w fun t38 w => K2 [t38] w) ( K2 [t13] w)) fun x2 w => M.bo.j2 a3 x0 a0 x2 K0 w K
def M.bo.j0 [SD] (x0 : List Value) (a2 a0 a3 : Value) (K0 : KL) : QQ := fun w K =>  ga P .mul T.b (.const (.int .i64 2)) (.tmp 11) (.int .i64 2) (gv x0 1) w fun t12 w => ga P .add T.b (.tmp 12) (.const (.int .i64 1)) t12 (.int .i64 1) w fun t13 w => gc (fun K1 => ga P .geq T.b (.tmp 14) (.tmp 15) t13 a2 w fun t16 w => ge t16 ( K (.tuple #[]) w) ( K1 [] w)) fun x1 w => M.bo.j1 t13 a2 a0 a3 x0 K0 w K
def M.bo [SD] (a0 a1 a2 a3 : Value) : QQ := fun w K =>  ir [undef, a1] w fun K0 x0 w => M.bo.j0 x0 a2 a0 a3 K0 w K
def M.ce.j1 [SD] (x1 : List Value) (K0 : KL) (a0 t14 a1 : Value) (K1 : KL) : QQ := fun w K =>  gc (fun K2 => ga P .geq T.b (.tmp 18) (.const (.int .i64 0)) (gv x1 0) (.int .i64 0) w fun t19 w => ge t19 ( K2 [] w) ( K0 [(gv x1 0)] w)) fun x2 w => gc (fun K3 => gb P F.fh [a0, (gv x1 0), t14, a1] w fun t26 w => K3 [] w) fun x3 w => ga P .sub T.b (.tmp 20) (.const (.int .i64 1)) (gv x1 0) (.int .i64 1) w fun t21 w => K1 [t21] w
def M.ce.j5 [SD] (a1 : Value) (x4 : List Value) (a0 : Value) (K4 : KL) : QQ := fun w K =>  gc (fun K6 => iq w fun w => w = w ∧ w = w ∧ w = w ∧ w = w ∧ w = w ∧ fw (ga P .add T.b (.tmp 36) (.tmp 37) a1 (gv x4 0) w) w fun t38 => w = w ∧ w = w ∧ w = w ∧ fw (ga P .add T.b (.tmp 40) (.tmp 41) a1 (gv x4 0) w) w fun t42 => fw (iaT P T.ai a0 t42 w) w fun t43 => fw (ldT P T.ah t43 w) w fun t44 => w = w ∧ w = w ∧ fw (iaT P T.ai a0 a1 w) w fun t47 => fw (ldT P T.ah t47 w) w fun t48 => fw (iaT P T.ai a0 a1 w) w fun t49 => stT P T.ah t49 t44 w fun _ w => gh (ga P .add T.b (.tmp 36) (.tmp 37) a1 (gv x4 0) w) w t38 ∧ gh (fun K' => K' (gv x4 0) w) w (gv x4 0) ∧ gh (fun K' => K' a1 w) w a1 ∧ gh (fun K' => K' a0 w) w a0 ∧ fw (iaT P T.ai a0 t38 w) w fun t50 => stT P T.ah t50 t48 w fun _ w => gb P F.fh [a0, (.int .i64 0), (gv x4 0), a1] w fun t55 w => K6 [] w) fun x6 w => ga P .sub T.b (.tmp 31) (.const (.int .i64 1)) (gv x4 0) (.int .i64 1) w fun t32 w => K4 [t32] w
def M.ce.j0 [SD] (t14 a1 a0 : Value) : QQ := fun w K =>  ga P .sub T.b (.tmp 27) (.const (.int .i64 1)) t14 (.int .i64 1) w fun t28 w => ir [t28] w fun K4 x4 w => gc (fun K5 => ga P .geq T.b (.tmp 29) (.const (.int .i64 0)) (gv x4 0) (.int .i64 0) w fun t30 w => ge t30 ( K5 [] w) ( K (.tuple #[]) w)) fun x5 w => M.ce.j5 a1 x4 a0 K4 w K
def M.ce [SD] (a0 a1 a2 : Value) : QQ := fun w K =>  ga P .sub T.b (.tmp 12) (.tmp 13) a2 a1 w fun t14 w => gc (fun K0 => ga P .sub T.b (.tmp 15) (.const (.int .i64 1)) t14 (.int .i64 1) w fun t16 w => ga P .quo T.b (.tmp 16) (.const (.int .i64 2)) t16 (.int .i64 2) w fun t17 w => ir [t17] w fun K1 x1 w => M.ce.j1 x1 K0 a0 t14 a1 K1 w K) fun x0 w => M.ce.j0 t14 a1 a0 w K
def M.ao.j1 [SD] (x1 : List Value) (t29 a0 a1 : Value) (K0 K1 : KL) : QQ := fun w K =>  gc (fun K2 => iq w fun w => w = w ∧ w = w ∧ fw (ga P .leq T.b (.tmp 30) (.tmp 31) (gv x1 0) t29 w) w fun t32 => w = w ∧ fw (fun K' => fy (isB t32 true) (fun K' => K' a0 w) w K') w fun t34 => fw (fun K' => fy (isB t32 true) (fun K' => K' (gv x1 0) w) w K') w fun t35 => fw (fy (isB t32 true) (iaT P T.ai t34 t35 w) w) w fun t36 => fw (fy (isB t32 true) (ldT P T.ah t36 w) w) w fun t37 => fw (fun K' => fy (isB t32 true) (fun K' => K' a0 w) w K') w fun t38 => fw (fun K' => fy (isB t32 true) (fun K' => K' a1 w) w K') w fun t39 => fw (fy (isB t32 true) (iaT P T.ai t38 t39 w) w) w fun t40 => fw (fy (isB t32 true) (ldT P T.ah t40 w) w) w fun t41 => fy (isB t32 true) (gb P F.dc [t37, t41] w) w fun t42 w => fw (gq t32 t42 (.bool false) w) w fun t43 => ge t43 ( K2 [] w) ( K0 [(gv x1 0)] w)) fun x2 w => ga P .add T.b (.tmp 44) (.const (.int .i64 1)) (gv x1 0) (.int .i64 1) w fun t45 w => K1 [t45] w
def M.ao.j4 [SD] (x0 x4 : List Value) (a0 a1 : Value) (K3 K4 : KL) : QQ := fun w K =>  gc (fun K5 => iq w fun w => w = w ∧ w = w ∧ fw (ga P .leq T.b (.tmp 46) (.tmp 47) (gv x0 0) (gv x4 0) w) w fun t48 => w = w ∧ fw (fun K' => fy (isB t48 true) (fun K' => K' a0 w) w K') w fun t50 => fw (fun K' => fy (isB t48 true) (fun K' => K' (gv x4 0) w) w K') w fun t51 => fw (fy (isB t48 true) (iaT P T.ai t50 t51 w) w) w fun t52 => fw (fy (isB t48 true) (ldT P T.ah t52 w) w) w fun t53 => fw (fun K' => fy (isB t48 true) (fun K' => K' a0 w) w K') w fun t54 => fw (fun K' => fy (isB t48 true) (fun K' => K' a1 w) w K') w fun t55 => fw (fy (isB t48 true) (iaT P T.ai t54 t55 w) w) w fun t56 => fw (fy (isB t48 true) (ldT P T.ah t56 w) w) w fun t57 => fy (isB t48 true) (gb P F.dc [t53, t57] w) w fun t58 w => fw (fy (isB t48 true) (unT P .not t58 w) w) w fun t59 => fw (gq t48 t59 (.bool false) w) w fun t60 => ge t60 ( K5 [] w) ( K3 [(gv x4 0)] w)) fun x5 w => ga P .sub T.b (.tmp 61) (.const (.int .i64 1)) (gv x4 0) (.int .i64 1) w fun t62 w => K4 [t62] w
def M.ao.j10 [SD] (x10 x8 : List Value) (a0 a1 : Value) (K9 K10 : KL) : QQ := fun w K =>  gc (fun K11 => iq w fun w => w = w ∧ w = w ∧ fw (ga P .leq T.b (.tmp 99) (.tmp 100) (gv x10 0) (gv x8 1) w) w fun t101 => w = w ∧ fw (fun K' => fy (isB t101 true) (fun K' => K' a0 w) w K') w fun t103 => fw (fun K' => fy (isB t101 true) (fun K' => K' (gv x10 0) w) w K') w fun t104 => fw (fy (isB t101 true) (iaT P T.ai t103 t104 w) w) w fun t105 => fw (fy (isB t101 true) (ldT P T.ah t105 w) w) w fun t106 => fw (fun K' => fy (isB t101 true) (fun K' => K' a0 w) w K') w fun t107 => fw (fun K' => fy (isB t101 true) (fun K' => K' a1 w) w K') w fun t108 => fw (fy (isB t101 true) (iaT P T.ai t107 t108 w) w) w fun t109 => fw (fy (isB t101 true) (ldT P T.ah t109 w) w) w fun t110 => fy (isB t101 true) (gb P F.dc [t106, t110] w) w fun t111 w => fw (gq t101 t111 (.bool false) w) w fun t112 => ge t112 ( K11 [] w) ( K9 [(gv x10 0)] w)) fun x11 w => ga P .add T.b (.tmp 113) (.const (.int .i64 1)) (gv x10 0) (.int .i64 1) w fun t114 w => K10 [t114] w
def M.ao.j13 [SD] (x9 x13 : List Value) (a0 a1 : Value) (K12 K13 : KL) : QQ := fun w K =>  gc (fun K14 => iq w fun w => w = w ∧ w = w ∧ fw (ga P .leq T.b (.tmp 115) (.tmp 116) (gv x9 0) (gv x13 0) w) w fun t117 => w = w ∧ fw (fun K' => fy (isB t117 true) (fun K' => K' a0 w) w K') w fun t119 => fw (fun K' => fy (isB t117 true) (fun K' => K' (gv x13 0) w) w K') w fun t120 => fw (fy (isB t117 true) (iaT P T.ai t119 t120 w) w) w fun t121 => fw (fy (isB t117 true) (ldT P T.ah t121 w) w) w fun t122 => fw (fun K' => fy (isB t117 true) (fun K' => K' a0 w) w K') w fun t123 => fw (fun K' => fy (isB t117 true) (fun K' => K' a1 w) w K') w fun t124 => fw (fy (isB t117 true) (iaT P T.ai t123 t124 w) w) w fun t125 => fw (fy (isB t117 true) (ldT P T.ah t125 w) w) w fun t126 => fy (isB t117 true) (gb P F.dc [t122, t126] w) w fun t127 w => fw (fy (isB t117 true) (unT P .not t127 w) w) w fun t128 => fw (gq t117 t128 (.bool false) w) w fun t129 => ge t129 ( K14 [] w) ( K12 [(gv x13 0)] w)) fun x14 w => ga P .sub T.b (.tmp 130) (.const (.int .i64 1)) (gv x13 0) (.int .i64 1) w fun t131 w => K13 [t131] w
def M.ao.j15 [SD] (a0 : Value) (x12 x9 : List Value) (K8 : KL) : QQ := fun w K =>  iq w fun w => w = w ∧ w = w ∧ w = w ∧ w = w ∧ w = w ∧ w = w ∧ fw (iaT P T.ai a0 (gv x12 0) w) w fun t141 => fw (ldT P T.ah t141 w) w fun t142 => w = w ∧ w = w ∧ fw (iaT P T.ai a0 (gv x9 0) w) w fun t145 => fw (ldT P T.ah t145 w) w fun t146 => fw (iaT P T.ai a0 (gv x9 0) w) w fun t147 => stT P T.ah t147 t142 w fun _ w => gh (fun K' => K' (gv x12 0) w) w (gv x12 0) ∧ gh (fun K' => K' a0 w) w a0 ∧ fw (iaT P T.ai a0 (gv x12 0) w) w fun t148 => stT P T.ah t148 t146 w fun _ w => ga P .add T.b (.tmp 149) (.const (.int .i64 1)) (gv x9 0) (.int .i64 1) w fun t150 w => ga P .sub T.b (.tmp 151) (.const (.int .i64 1)) (gv x12 0) (.int .i64 1) w fun t152 w => K8 [t150, t152] w
def M.ao.j9 [SD] (x8 x9 : List Value) (a0 a1 : Value) (K7 K8 : KL) : QQ := fun w K =>  gc (fun K12 => ir [(gv x8 1)] w fun K13 x13 w => M.ao.j13 x9 x13 a0 a1 K12 K13 w K) fun x12 w => gc (fun K15 => ga P .gtr T.b (.tmp 132) (.tmp 133) (gv x9 0) (gv x12 0) w fun t134 w => ge t134 ( K7 [(gv x9 0), (gv x12 0)] w) ( K15 [] w)) fun x15 w => M.ao.j15 a0 x12 x9 K8 w K
def M.ao.j7 [SD] (a0 a1 : Value) (x7 : List Value) : QQ := fun w K =>  iq w fun w => w = w ∧ w = w ∧ w = w ∧ w = w ∧ w = w ∧ w = w ∧ fw (iaT P T.ai a0 a1 w) w fun t159 => fw (ldT P T.ah t159 w) w fun t160 => w = w ∧ w = w ∧ fw (iaT P T.ai a0 (gv x7 1) w) w fun t163 => fw (ldT P T.ah t163 w) w fun t164 => fw (iaT P T.ai a0 (gv x7 1) w) w fun t165 => stT P T.ah t165 t160 w fun _ w => gh (fun K' => K' a1 w) w a1 ∧ gh (fun K' => K' a0 w) w a0 ∧ fw (iaT P T.ai a0 a1 w) w fun t166 => stT P T.ah t166 t164 w fun _ w => K (.tuple #[(gv x7 1), (.bool false)]) w
def M.ao.j6 [SD] (a0 : Value) (x3 x0 : List Value) (a1 : Value) : QQ := fun w K =>  iq w fun w => w = w ∧ w = w ∧ w = w ∧ w = w ∧ w = w ∧ w = w ∧ fw (iaT P T.ai a0 (gv x3 0) w) w fun t87 => fw (ldT P T.ah t87 w) w fun t88 => w = w ∧ w = w ∧ fw (iaT P T.ai a0 (gv x0 0) w) w fun t91 => fw (ldT P T.ah t91 w) w fun t92 => fw (iaT P T.ai a0 (gv x0 0) w) w fun t93 => stT P T.ah t93 t88 w fun _ w => gh (fun K' => K' (gv x3 0) w) w (gv x3 0) ∧ gh (fun K' => K' a0 w) w a0 ∧ fw (iaT P T.ai a0 (gv x3 0) w) w fun t94 => stT P T.ah t94 t92 w fun _ w => ga P .add T.b (.tmp 95) (.const (.int .i64 1)) (gv x0 0) (.int .i64 1) w fun t96 w => ga P .sub T.b (.tmp 97) (.const (.int .i64 1)) (gv x3 0) (.int .i64 1) w fun t98 w => gc (fun K7 => ir [t96, t98] w fun K8 x8 w => gc (fun K9 => ir [(gv x8 0)] w fun K10 x10 w => M.ao.j10 x10 x8 a0 a1 K9 K10 w K) fun x9 w => M.ao.j9 x8 x9 a0 a1 K7 K8 w K) fun x7 w => M.ao.j7 a0 a1 x7 w K
def M.ao.j3 [SD] (x0 x3 : List Value) (a0 a1 : Value) : QQ := fun w K =>  gc (fun K6 => ga P .gtr T.b (.tmp 63) (.tmp 64) (gv x0 0) (gv x3 0) w fun t65 w => ge t65 ( iq w fun w => w = w ∧ w = w ∧ w = w ∧ w = w ∧ w = w ∧ w = w ∧ fw (iaT P T.ai a0 a1 w) w fun t72 => fw (ldT P T.ah t72 w) w fun t73 => w = w ∧ w = w ∧ fw (iaT P T.ai a0 (gv x3 0) w) w fun t76 => fw (ldT P T.ah t76 w) w fun t77 => fw (iaT P T.ai a0 (gv x3 0) w) w fun t78 => stT P T.ah t78 t73 w fun _ w => gh (fun K' => K' a1 w) w a1 ∧ gh (fun K' => K' a0 w) w a0 ∧ fw (iaT P T.ai a0 a1 w) w fun t79 => stT P T.ah t79 t77 w fun _ w => K (.tuple #[(gv x3 0), (.bool true)]) w) ( K6 [(.int .i64 0), (.bool false)] w)) fun x6 w => M.ao.j6 a0 x3 x0 a1 w K
def M.ao [SD] (a0 a1 a2 a3 : Value) : QQ := fun w K =>  iq w fun w => w = w ∧ w = w ∧ w = w ∧ w = w ∧ w = w ∧ w = w ∧ fw (iaT P T.ai a0 a3 w) w fun t18 => fw (ldT P T.ah t18 w) w fun t19 => w = w ∧ w = w ∧ fw (iaT P T.ai a0 a1 w) w fun t22 => fw (ldT P T.ah t22 w) w fun t23 => fw (iaT P T.ai a0 a1 w) w fun t24 => stT P T.ah t24 t19 w fun _ w => gh (fun K' => K' a3 w) w a3 ∧ gh (fun K' => K' a0 w) w a0 ∧ fw (iaT P T.ai a0 a3 w) w fun t25 => stT P T.ah t25 t23 w fun _ w => ga P .add T.b (.tmp 26) (.const (.int .i64 1)) a1 (.int .i64 1) w fun t27 w => ga P .sub T.b (.tmp 28) (.const (.int .i64 1)) a2 (.int .i64 1) w fun t29 w => gc (fun K0 => ir [t27] w fun K1 x1 w => M.ao.j1 x1 t29 a0 a1 K0 K1 w K) fun x0 w => gc (fun K3 => ir [t29] w fun K4 x4 w => M.ao.j4 x0 x4 a0 a1 K3 K4 w K) fun x3 w => M.ao.j3 x0 x3 a0 a1 w K
def M.ch.j3 [SD] (x3 x1 : List Value) (a0 a1 : Value) (K2 K3 : KL) : QQ := fun w K =>  gc (fun K4 => iq w fun w => w = w ∧ w = w ∧ fw (ga P .leq T.b (.tmp 29) (.tmp 30) (gv x3 0) (gv x1 1) w) w fun t31 => w = w ∧ fw (fun K' => fy (isB t31 true) (fun K' => K' a0 w) w K') w fun t33 => fw (fun K' => fy (isB t31 true) (fun K' => K' a1 w) w K') w fun t34 => fw (fy (isB t31 true) (iaT P T.ai t33 t34 w) w) w fun t35 => fw (fy (isB t31 true) (ldT P T.ah t35 w) w) w fun t36 => fw (fun K' => fy (isB t31 true) (fun K' => K' a0 w) w K') w fun t37 => fw (fun K' => fy (isB t31 true) (fun K' => K' (gv x3 0) w) w K') w fun t38 => fw (fy (isB t31 true) (iaT P T.ai t37 t38 w) w) w fun t39 => fw (fy (isB t31 true) (ldT P T.ah t39 w) w) w fun t40 => fy (isB t31 true) (gb P F.dc [t36, t40] w) w fun t41 w => fw (fy (isB t31 true) (unT P .not t41 w) w) w fun t42 => fw (gq t31 t42 (.bool false) w) w fun t43 => ge t43 ( K4 [] w) ( K2 [(gv x3 0)] w)) fun x4 w => ga P .add T.b (.tmp 44) (.const (.int .i64 1)) (gv x3 0) (.int .i64 1) w fun t45 w => K3 [t45] w
def M.ch.j6 [SD] (x2 x6 : List Value) (a0 a1 : Value) (K5 K6 : KL) : QQ := fun w K =>  gc (fun K7 => iq w fun w => w = w ∧ w = w ∧ fw (ga P .leq T.b (.tmp 46) (.tmp 47) (gv x2 0) (gv x6 0) w) w fun t48 => w = w ∧ fw (fun K' => fy (isB t48 true) (fun K' => K' a0 w) w K') w fun t50 => fw (fun K' => fy (isB t48 true) (fun K' => K' a1 w) w K') w fun t51 => fw (fy (isB t48 true) (iaT P T.ai t50 t51 w) w) w fun t52 => fw (fy (isB t48 true) (ldT P T.ah t52 w) w) w fun t53 => fw (fun K' => fy (isB t48 true) (fun K' => K' a0 w) w K') w fun t54 => fw (fun K' => fy (isB t48 true) (fun K' => K' (gv x6 0) w) w K') w fun t55 => fw (fy (isB t48 true) (iaT P T.ai t54 t55 w) w) w fun t56 => fw (fy (isB t48 true) (ldT P T.ah t56 w) w) w fun t57 => fy (isB t48 true) (gb P F.dc [t53, t57] w) w fun t58 w => fw (gq t48 t58 (.bool false) w) w fun t59 => ge t59 ( K7 [] w) ( K5 [(gv x6 0)] w)) fun x7 w => ga P .sub T.b (.tmp 60) (.const (.int .i64 1)) (gv x6 0) (.int .i64 1) w fun t61 w => K6 [t61] w
def M.ch.j8 [SD] (a0 : Value) (x5 x2 : List Value) (K1 : KL) : QQ := fun w K =>  iq w fun w => w = w ∧ w = w ∧ w = w ∧ w = w ∧ w = w ∧ w = w ∧ fw (iaT P T.ai a0 (gv x5 0) w) w fun t71 => fw (ldT P T.ah t71 w) w fun t72 => w = w ∧ w = w ∧ fw (iaT P T.ai a0 (gv x2 0) w) w fun t75 => fw (ldT P T.ah t75 w) w fun t76 => fw (iaT P T.ai a0 (gv x2 0) w) w fun t77 => stT P T.ah t77 t72 w fun _ w => gh (fun K' => K' (gv x5 0) w) w (gv x5 0) ∧ gh (fun K' => K' a0 w) w a0 ∧ fw (iaT P T.ai a0 (gv x5 0) w) w fun t78 => stT P T.ah t78 t76 w fun _ w => ga P .add T.b (.tmp 79) (.const (.int .i64 1)) (gv x2 0) (.int .i64 1) w fun t80 w => ga P .sub T.b (.tmp 81) (.const (.int .i64 1)) (gv x5 0) (.int .i64 1) w fun t82 w => K1 [t80, t82] w
def M.ch.j2 [SD] (x1 x2 : List Value) (a0 a1 : Value) (K0 K1 : KL) : QQ := fun w K =>  gc (fun K5 => ir [(gv x1 1)] w fun K6 x6 w => M.ch.j6 x2 x6 a0 a1 K5 K6 w K) fun x5 w => gc (fun K8 => ga P .gtr T.b (.tmp 62) (.tmp 63) (gv x2 0) (gv x5 0) w fun t64 w => ge t64 ( K0 [(gv x2 0), (gv x5 0)] w) ( K8 [] w)) fun x8 w => M.ch.j8 a0 x5 x2 K1 w K
def M.ch [SD] (a0 a1 a2 a3 : Value) : QQ := fun w K =>  iq w fun w => w = w ∧ w = w ∧ w = w ∧ w = w ∧ w = w ∧ w = w ∧ fw (iaT P T.ai a0 a3 w) w fun t17 => fw (ldT P T.ah t17 w) w fun t18 => w = w ∧ w = w ∧ fw (iaT P T.ai a0 a1 w) w fun t21 => fw (ldT P T.ah t21 w) w fun t22 => fw (iaT P T.ai a0 a1 w) w fun t23 => stT P T.ah t23 t18 w fun _ w => gh (fun K' => K' a3 w) w a3 ∧ gh (fun K' => K' a0 w) w a0 ∧ fw (iaT P T.ai a0 a3 w) w fun t24 => stT P T.ah t24 t22 w fun _ w => ga P .add T.b (.tmp 25) (.const (.int .i64 1)) a1 (.int .i64 1) w fun t26 w => ga P .sub T.b (.tmp 27) (.const (.int .i64 1)) a2 (.int .i64 1) w fun t28 w => gc (fun K0 => ir [t26, t28] w fun K1 x1 w => gc (fun K2 => ir [(gv x1 0)] w fun K3 x3 w => M.ch.j3 x3 x1 a0 a1 K2 K3 w K) fun x2 w => M.ch.j2 x1 x2 a0 a1 K0 K1 w K) fun x0 w => K (gv x0 0) w
def M.ah.j5 [SD] (x5 : List Value) (a2 a0 : Value) (K4 K5 : KL) : QQ := fun w K =>  gc (fun K6 => iq w fun w => w = w ∧ w = w ∧ fw (ga P .lss T.b (.tmp 17) (.tmp 18) (gv x5 0) a2 w) w fun t19 => w = w ∧ fw (fun K' => fy (isB t19 true) (fun K' => K' a0 w) w K') w fun t21 => fw (fun K' => fy (isB t19 true) (fun K' => K' (gv x5 0) w) w K') w fun t22 => fw (fy (isB t19 true) (iaT P T.ai t21 t22 w) w) w fun t23 => fw (fy (isB t19 true) (ldT P T.ah t23 w) w) w fun t24 => fw (fun K' => fy (isB t19 true) (fun K' => K' a0 w) w K') w fun t25 => fw (fun K' => fy (isB t19 true) (fun K' => K' (gv x5 0) w) w K') w fun t26 => fw (fy (isB t19 true) (ga P .sub T.b (.tmp 26) (.const (.int .i64 1)) t26 (.int .i64 1) w) w) w fun t27 => fw (fy (isB t19 true) (iaT P T.ai t25 t27 w) w) w fun t28 => fw (fy (isB t19 true) (ldT P T.ah t28 w) w) w fun t29 => fy (isB t19 true) (gb P F.dc [t24, t29] w) w fun t30 w => fw (fy (isB t19 true) (unT P .not t30 w) w) w fun t31 => fw (gq t19 t31 (.bool false) w) w fun t32 => ge t32 ( K6 [] w) ( K4 [(gv x5 0)] w)) fun x6 w => ga P .add T.b (.tmp 33) (.const (.int .i64 1)) (gv x5 0) (.int .i64 1) w fun t34 w => K5 [t34] w
def M.ah.j13 [SD] (x10 : List Value) (a0 : Value) (K12 : KL) : QQ := fun w K =>  iq w fun w => w = w ∧ w = w ∧ w = w ∧ w = w ∧ fw (ga P .sub T.b (.tmp 82) (.const (.int .i64 1)) (gv x10 0) (.int .i64 1) w) w fun t83 => w = w ∧ w = w ∧ fw (ga P .sub T.b (.tmp 85) (.const (.int .i64 1)) (gv x10 0) (.int .i64 1) w) w fun t86 => fw (iaT P T.ai a0 t86 w) w fun t87 => fw (ldT P T.ah t87 w) w fun t88 => w = w ∧ w = w ∧ fw (iaT P T.ai a0 (gv x10 0) w) w fun t91 => fw (ldT P T.ah t91 w) w fun t92 => fw (iaT P T.ai a0 (gv x10 0) w) w fun t93 => stT P T.ah t93 t88 w fun _ w => gh (ga P .sub T.b (.tmp 82) (.const (.int .i64 1)) (gv x10 0) (.int .i64 1) w) w t83 ∧ gh (fun K' => K' (gv x10 0) w) w (gv x10 0) ∧ gh (fun K' => K' a0 w) w a0 ∧ fw (iaT P T.ai a0 t83 w) w fun t94 => stT P T.ah t94 t92 w fun _ w => K12 [] w
def M.ah.j11 [SD] (a0 : Value) (x10 : List Value) (K9 K10 : KL) : QQ := fun w K =>  gc (fun K12 => gc (fun K13 => iq w fun w => w = w ∧ w = w ∧ fw (iaT P T.ai a0 (gv x10 0) w) w fun t70 => fw (ldT P T.ah t70 w) w fun t71 => w = w ∧ w = w ∧ fw (ga P .sub T.b (.tmp 73) (.const (.int .i64 1)) (gv x10 0) (.int .i64 1) w) w fun t74 => fw (iaT P T.ai a0 t74 w) w fun t75 => fw (ldT P T.ah t75 w) w fun t76 => gb P F.dc [t71, t76] w fun t77 w => fw (unT P .not t77 w) w fun t78 => ge t78 ( K9 [(gv x10 0)] w) ( K13 [] w)) fun x13 w => M.ah.j13 x10 a0 K12 w K) fun x12 w => ga P .sub T.b (.tmp 66) (.const (.int .i64 1)) (gv x10 0) (.int .i64 1) w fun t67 w => K10 [t67] w
def M.ah.j17 [SD] (x14 : List Value) (a0 : Value) (K16 : KL) : QQ := fun w K =>  iq w fun w => w = w ∧ w = w ∧ w = w ∧ w = w ∧ fw (ga P .sub T.b (.tmp 120) (.const (.int .i64 1)) (gv x14 0) (.int .i64 1) w) w fun t121 => w = w ∧ w = w ∧ fw (ga P .sub T.b (.tmp 123) (.const (.int .i64 1)) (gv x14 0) (.int .i64 1) w) w fun t124 => fw (iaT P T.ai a0 t124 w) w fun t125 => fw (ldT P T.ah t125 w) w fun t126 => w = w ∧ w = w ∧ fw (iaT P T.ai a0 (gv x14 0) w) w fun t129 => fw (ldT P T.ah t129 w) w fun t130 => fw (iaT P T.ai a0 (gv x14 0) w) w fun t131 => stT P T.ah t131 t126 w fun _ w => gh (ga P .sub T.b (.tmp 120) (.const (.int .i64 1)) (gv x14 0) (.int .i64 1) w) w t121 ∧ gh (fun K' => K' (gv x14 0) w) w (gv x14 0) ∧ gh (fun K' => K' a0 w) w a0 ∧ fw (iaT P T.ai a0 t121 w) w fun t132 => stT P T.ah t132 t130 w fun _ w => K16 [] w
def M.ah.j15 [SD] (a0 : Value) (x14 : List Value) (K3 : KL) (x4 x8 x9 : List Value) (K14 : KL) : QQ := fun w K =>  gc (fun K16 => gc (fun K17 => iq w fun w => w = w ∧ w = w ∧ fw (iaT P T.ai a0 (gv x14 0) w) w fun t108 => fw (ldT P T.ah t108 w) w fun t109 => w = w ∧ w = w ∧ fw (ga P .sub T.b (.tmp 111) (.const (.int .i64 1)) (gv x14 0) (.int .i64 1) w) w fun t112 => fw (iaT P T.ai a0 t112 w) w fun t113 => fw (ldT P T.ah t113 w) w fun t114 => gb P F.dc [t109, t114] w fun t115 w => fw (unT P .not t115 w) w fun t116 => ge t116 ( K3 [(gv x4 0), (gv x8 0), (gv x9 0), (gv x14 0)] w) ( K17 [] w)) fun x17 w => M.ah.j17 x14 a0 K16 w K) fun x16 w => ga P .add T.b (.tmp 104) (.const (.int .i64 1)) (gv x14 0) (.int .i64 1) w fun t105 w => K14 [t105] w
def M.ah.j14 [SD] (x14 : List Value) (a2 : Value) (K3 : KL) (x4 x8 x9 : List Value) (a0 : Value) (K14 : KL) : QQ := fun w K =>  gc (fun K15 => ga P .lss T.b (.tmp 101) (.tmp 102) (gv x14 0) a2 w fun t103 w => ge t103 ( K15 [] w) ( K3 [(gv x4 0), (gv x8 0), (gv x9 0), (gv x14 0)] w)) fun x15 w => M.ah.j15 a0 x14 K3 x4 x8 x9 K14 w K
def M.ah.j9 [SD] (a2 : Value) (x4 : List Value) (K3 : KL) (x8 x9 : List Value) (a0 : Value) (x1 : List Value) : QQ := fun w K =>  ga P .sub T.b (.tmp 95) (.tmp 96) a2 (gv x4 0) w fun t97 w => ga P .geq T.b (.tmp 97) (.const (.int .i64 2)) t97 (.int .i64 2) w fun t98 w => ge t98 ( ga P .add T.b (.tmp 99) (.const (.int .i64 1)) (gv x4 0) (.int .i64 1) w fun t100 w => ir [t100] w fun K14 x14 w => M.ah.j14 x14 a2 K3 x4 x8 x9 a0 K14 w K) ( K3 [(gv x4 0), (gv x8 0), (gv x9 0), (gv x1 3)] w)
def M.ah.j8 [SD] (x4 : List Value) (a0 a1 : Value) (x1 : List Value) (a2 : Value) (K3 : KL) (x8 : List Value) : QQ := fun w K =>  iq w fun w => w = w ∧ w = w ∧ w = w ∧ w = w ∧ fw (ga P .sub T.b (.tmp 45) (.const (.int .i64 1)) (gv x4 0) (.int .i64 1) w) w fun t46 => w = w ∧ w = w ∧ fw (ga P .sub T.b (.tmp 48) (.const (.int .i64 1)) (gv x4 0) (.int .i64 1) w) w fun t49 => fw (iaT P T.ai a0 t49 w) w fun t50 => fw (ldT P T.ah t50 w) w fun t51 => w = w ∧ w = w ∧ fw (iaT P T.ai a0 (gv x4 0) w) w fun t54 => fw (ldT P T.ah t54 w) w fun t55 => fw (iaT P T.ai a0 (gv x4 0) w) w fun t56 => stT P T.ah t56 t51 w fun _ w => gh (ga P .sub T.b (.tmp 45) (.const (.int .i64 1)) (gv x4 0) (.int .i64 1) w) w t46 ∧ gh (fun K' => K' (gv x4 0) w) w (gv x4 0) ∧ gh (fun K' => K' a0 w) w a0 ∧ fw (iaT P T.ai a0 t46 w) w fun t57 => stT P T.ah t57 t55 w fun _ w => gc (fun K9 => ga P .sub T.b (.tmp 58) (.tmp 59) (gv x4 0) a1 w fun t60 w => ga P .geq T.b (.tmp 60) (.const (.int .i64 2)) t60 (.int .i64 2) w fun t61 w => ge t61 ( ga P .sub T.b (.tmp 62) (.const (.int .i64 1)) (gv x4 0) (.int .i64 1) w fun t63 w => ir [t63] w fun K10 x10 w => gc (fun K11 => ga P .geq T.b (.tmp 64) (.const (.int .i64 1)) (gv x10 0) (.int .i64 1) w fun t65 w => ge t65 ( K11 [] w) ( K9 [(gv x10 0)] w)) fun x11 w => M.ah.j11 a0 x10 K9 K10 w K) ( K9 [(gv x1 2)] w)) fun x9 w => M.ah.j9 a2 x4 K3 x8 x9 a0 x1 w K
def M.ah.j7 [SD] (a2 a1 : Value) (x7 x4 : List Value) (a0 : Value) (x1 : List Value) (K3 : KL) : QQ := fun w K =>  gc (fun K8 => ga P .sub T.b (.tmp 38) (.tmp 39) a2 a1 w fun t40 w => ga P .lss T.b (.tmp 40) (.const (.int .i64 50)) t40 (.int .i64 50) w fun t41 w => ge t41 ( K (.bool false) w) ( K8 [(gv x7 0)] w)) fun x8 w => M.ah.j8 x4 a0 a1 x1 a2 K3 x8 w K
def M.ah.j2 [SD] (x1 : List Value) (a2 a0 a1 : Value) (K1 : KL) : QQ := fun w K =>  gc (fun K3 => gc (fun K4 => ir [(gv x1 0)] w fun K5 x5 w => M.ah.j5 x5 a2 a0 K4 K5 w K) fun x4 w => gc (fun K7 => ga P .eql T.b (.tmp 35) (.tmp 36) (gv x4 0) a2 w fun t37 w => ge t37 ( K (.bool true) w) ( K7 [(gv x1 1)] w)) fun x7 w => M.ah.j7 a2 a1 x7 x4 a0 x1 K3 w K) fun x3 w => ga P .add T.b (.tmp 15) (.const (.int .i64 1)) (gv x1 4) (.int .i64 1) w fun t16 w => K1 [(gv x3 0), (gv x3 1), (gv x3 2), (gv x3 3), t16] w
def M.ah.j1 [SD] (x1 : List Value) (K0 : KL) (a2 a0 a1 : Value) (K1 : KL) : QQ := fun w K =>  gc (fun K2 => ga P .lss T.b (.tmp 13) (.const (.int .i64 5)) (gv x1 4) (.int .i64 5) w fun t14 w => ge t14 ( K2 [] w) ( K0 [(gv x1 4), (gv x1 0), (gv x1 1), (gv x1 2), (gv x1 3)] w)) fun x2 w => M.ah.j2 x1 a2 a0 a1 K1 w K
def M.ah [SD] (a0 a1 a2 : Value) : QQ := fun w K =>  ga P .add T.b (.tmp 11) (.const (.int .i64 1)) a1 (.int .i64 1) w fun t12 w => gc (fun K0 => ir [t12, (.bool false), undef, undef, (.int .i64 0)] w fun K1 x1 w => M.ah.j1 x1 K0 a2 a0 a1 K1 w K) fun x0 w => K (.bool false) w
def M.cp.j3 [SD] (a1 : Value) (x3 : List Value) (a0 : Value) (x0 : List Value) (K2 : KL) : QQ := fun w K =>  iq w fun w => w = w ∧ w = w ∧ w = w ∧ w = w ∧ w = w ∧ fw (ga P .add T.b (.tmp 50) (.tmp 51) a1 (gv x3 0) w) w fun t52 => w = w ∧ w = w ∧ w = w ∧ fw (ga P .add T.b (.tmp 54) (.tmp 55) a1 (gv x3 0) w) w fun t56 => fw (iaT P T.ai a0 t56 w) w fun t57 => fw (ldT P T.ah t57 w) w fun t58 => w = w ∧ w = w ∧ fw (iaT P T.ai a0 (gv x0 1) w) w fun t61 => fw (ldT P T.ah t61 w) w fun t62 => fw (iaT P T.ai a0 (gv x0 1) w) w fun t63 => stT P T.ah t63 t58 w fun _ w => gh (ga P .add T.b (.tmp 50) (.tmp 51) a1 (gv x3 0) w) w t52 ∧ gh (fun K' => K' (gv x3 0) w) w (gv x3 0) ∧ gh (fun K' => K' a1 w) w a1 ∧ gh (fun K' => K' a0 w) w a0 ∧ fw (iaT P T.ai a0 t52 w) w fun t64 => stT P T.ah t64 t62 w fun _ w => K2 [(gv x3 0)] w
def M.cp.j1 [SD] (t7 t19 t13 a1 a0 : Value) (x0 : List Value) (K0 : KL) : QQ := fun w K =>  gc (fun K2 => gb P F.cg [t7] w fun t36 w => ga P .sub T.au (.tmp 37) (.const (.int .u64 1)) t19 (.int .u64 1) w fun t38 w => ga P .and T.au (.tmp 36) (.tmp 38) t36 t38 w fun t39 w => cvT P T.au T.b t39 w fun t40 w => gc (fun K3 => ga P .geq T.b (.tmp 41) (.tmp 42) t40 t13 w fun t43 w => ge t43 ( ga P .sub T.b (.tmp 44) (.tmp 45) t40 t13 w fun t46 w => K3 [t46] w) ( K3 [t40] w)) fun x3 w => M.cp.j3 a1 x3 a0 x0 K2 w K) fun x2 w => ga P .add T.b (.tmp 34) (.const (.int .i64 1)) (gv x0 1) (.int .i64 1) w fun t35 w => K0 [(gv x2 0), t35] w
def M.cp.j0 [SD] (t13 a1 : Value) (x0 : List Value) (t7 t19 a0 : Value) (K0 : KL) : QQ := fun w K =>  gc (fun K1 => ga P .quo T.b (.tmp 28) (.const (.int .i64 4)) t13 (.int .i64 4) w fun t29 w => ga P .mul T.b (.tmp 29) (.const (.int .i64 2)) t29 (.int .i64 2) w fun t30 w => ga P .add T.b (.tmp 27) (.tmp 30) a1 t30 w fun t31 w => ga P .add T.b (.tmp 31) (.const (.int .i64 1)) t31 (.int .i64 1) w fun t32 w => ga P .leq T.b (.tmp 26) (.tmp 32) (gv x0 1) t32 w fun t33 w => ge t33 ( K1 [] w) ( K (.tuple #[]) w)) fun x1 w => M.cp.j1 t7 t19 t13 a1 a0 x0 K0 w K
def M.cp [SD] (a0 a1 a2 : Value) : QQ := fun w K =>  ga P .sub T.b (.tmp 11) (.tmp 12) a2 a1 w fun t13 w => ga P .geq T.b (.tmp 14) (.const (.int .i64 8)) t13 (.int .i64 8) w fun t15 w => ge t15 ( cvT P T.b T.v t13 w fun t17 w => alT P T.v w fun t7 w => stT P T.v t7 t17 w fun _ w => gb P F.cf [t13] w fun t19 w => ga P .quo T.b (.tmp 21) (.const (.int .i64 4)) t13 (.int .i64 4) w fun t22 w => ga P .mul T.b (.tmp 22) (.const (.int .i64 2)) t22 (.int .i64 2) w fun t23 w => ga P .add T.b (.tmp 20) (.tmp 23) a1 t23 w fun t24 w => ga P .sub T.b (.tmp 24) (.const (.int .i64 1)) t24 (.int .i64 1) w fun t25 w => ir [undef, t25] w fun K0 x0 w => M.cp.j0 t13 a1 x0 t7 t19 a0 K0 w K) ( K (.tuple #[]) w)
def M.ec [SD] (a0 a1 a2 a3 : Value) : QQ := fun w K =>  gc (fun K0 => iq w fun w => w = w ∧ w = w ∧ fw (iaT P T.ai a0 a2 w) w fun t12 => fw (ldT P T.ah t12 w) w fun t13 => w = w ∧ w = w ∧ fw (iaT P T.ai a0 a1 w) w fun t16 => fw (ldT P T.ah t16 w) w fun t17 => gb P F.dc [t13, t17] w fun t18 w => ge t18 ( ik a3 w fun t20 w => ldT P T.b t20 w fun t21 w => ga P .add T.b (.tmp 21) (.const (.int .i64 1)) t21 (.int .i64 1) w fun t22 w => ik a3 w fun t23 w => stT P T.b t23 t22 w fun _ w => K (.tuple #[a2, a1]) w) ( K0 [(.int .i64 0), (.int .i64 0)] w)) fun x0 w => K (.tuple #[a1, a2]) w
def M.ed [SD] (a0 a1 a2 a3 a4 : Value) : QQ := fun w K =>  gb P F.fi [a0, a1, a2, a4] w fun t16 w => exT P t16 0 w fun t17 w => exT P t16 1 w fun t18 w => gb P F.fi [a0, t18, a3, a4] w fun t24 w => exT P t24 0 w fun t25 w => exT P t24 1 w fun t26 w => gb P F.fi [a0, t17, t25, a4] w fun t32 w => exT P t32 0 w fun t33 w => exT P t32 1 w fun t34 w => K t34 w
def M.dj [SD] (a0 a1 a2 : Value) : QQ := fun w K =>  ga P .sub T.b (.tmp 8) (.const (.int .i64 1)) a1 (.int .i64 1) w fun t9 w => ga P .add T.b (.tmp 11) (.const (.int .i64 1)) a1 (.int .i64 1) w fun t12 w => gb P F.fj [a0, t9, a1, t12, a2] w fun t14 w => K t14 w
def M.dk.j0 [SD] (t9 : Value) (x0 : List Value) : QQ := fun w K =>  ldT P T.b t9 w fun t49 w => ga P .eql T.b (.tmp 49) (.const (.int .i64 0)) t49 (.int .i64 0) w fun t52 w => ge t52 ( K (.tuple #[(gv x0 1), (.int .i64 1)]) w) ( ga P .eql T.b (.tmp 49) (.const (.int .i64 12)) t49 (.int .i64 12) w fun t55 w => ge t55 ( K (.tuple #[(gv x0 1), (.int .i64 2)]) w) ( K (.tuple #[(gv x0 1), (.int .i64 0)]) w))
def M.dk [SD] (a0 a1 a2 : Value) : QQ := fun w K =>  ga P .sub T.b (.tmp 13) (.tmp 14) a2 a1 w fun t15 w => alT P T.b w fun t9 w => ga P .quo T.b (.tmp 17) (.const (.int .i64 4)) t15 (.int .i64 4) w fun t18 w => ga P .mul T.b (.tmp 18) (.const (.int .i64 1)) t18 (.int .i64 1) w fun t19 w => ga P .add T.b (.tmp 16) (.tmp 19) a1 t19 w fun t20 w => ga P .quo T.b (.tmp 22) (.const (.int .i64 4)) t15 (.int .i64 4) w fun t23 w => ga P .mul T.b (.tmp 23) (.const (.int .i64 2)) t23 (.int .i64 2) w fun t24 w => ga P .add T.b (.tmp 21) (.tmp 24) a1 t24 w fun t25 w => ga P .quo T.b (.tmp 27) (.const (.int .i64 4)) t15 (.int .i64 4) w fun t28 w => ga P .mul T.b (.tmp 28) (.const (.int .i64 3)) t28 (.int .i64 3) w fun t29 w => ga P .add T.b (.tmp 26) (.tmp 29) a1 t29 w fun t30 w => gc (fun K0 => ga P .geq T.b (.tmp 31) (.const (.int .i64 8)) t15 (.int .i64 8) w fun t32 w => ge t32 ( gc (fun K1 => ga P .geq T.b (.tmp 33) (.const (.int .i64 50)) t15 (.int .i64 50) w fun t34 w => ge t34 ( gb P F.fe [a0, t20, t9] w fun t37 w => gb P F.fe [a0, t25, t9] w fun t40 w => gb P F.fe [a0, t30, t9] w fun t43 w => K1 [t37, t40, t43] w) ( K1 [t20, t25, t30] w)) fun x1 w => gb P F.fj [a0, (gv x1 0), (gv x1 1), (gv x1 2), t9] w fun t48 w => K0 [(gv x1 0), t48, (gv x1 2)] w) ( K0 [t20, t25, t30] w)) fun x0 w => M.dk.j0 t9 x0 w K
def M.dp.j1 [SD] (a0 : Value) (x0 : List Value) (K0 : KL) : QQ := fun w K =>  iq w fun w => w = w ∧ w = w ∧ w = w ∧ w = w ∧ w = w ∧ w = w ∧ fw (iaT P T.ai a0 (gv x0 1) w) w fun t20 => fw (ldT P T.ah t20 w) w fun t21 => w = w ∧ w = w ∧ fw (iaT P T.ai a0 (gv x0 0) w) w fun t24 => fw (ldT P T.ah t24 w) w fun t25 => fw (iaT P T.ai a0 (gv x0 0) w) w fun t26 => stT P T.ah t26 t21 w fun _ w => gh (fun K' => K' (gv x0 1) w) w (gv x0 1) ∧ gh (fun K' => K' a0 w) w a0 ∧ fw (iaT P T.ai a0 (gv x0 1) w) w fun t27 => stT P T.ah t27 t25 w fun _ w => ga P .add T.b (.tmp 28) (.const (.int .i64 1)) (gv x0 0) (.int .i64 1) w fun t29 w => ga P .sub T.b (.tmp 30) (.const (.int .i64 1)) (gv x0 1) (.int .i64 1) w fun t31 w => K0 [t29, t31] w
def M.dp [SD] (a0 a1 a2 : Value) : QQ := fun w K =>  ga P .sub T.b (.tmp 9) (.const (.int .i64 1)) a2 (.int .i64 1) w fun t10 w => ir [a1, t10] w fun K0 x0 w => gc (fun K1 => ga P .lss T.b (.tmp 11) (.tmp 12) (gv x0 0) (gv x0 1) w fun t13 w => ge t13 ( K1 [] w) ( K (.tuple #[]) w)) fun x1 w => M.dp.j1 a0 x0 K0 w K
def M.ba.j6 [SD] (a0 : Value) (x6 x0 x4 : List Value) (t21 : Value) (x3 : List Value) (K0 : KL) : QQ := fun w K =>  gb P F.fm [a0, (gv x6 1), (gv x0 13), (gv x4 0)] w fun t99 w => exT P t99 0 w fun t100 w => exT P t99 1 w fun t101 w => ga P .sub T.b (.tmp 103) (.tmp 104) t100 (gv x6 1) w fun t105 w => ga P .sub T.b (.tmp 106) (.tmp 107) (gv x0 13) t100 w fun t108 w => ga P .quo T.b (.tmp 109) (.const (.int .i64 8)) t21 (.int .i64 8) w fun t110 w => ga P .lss T.b (.tmp 111) (.tmp 112) t105 t108 w fun t113 w => ge t113 ( ga P .geq T.b (.tmp 114) (.tmp 115) t105 t110 w fun t116 w => gb P F.fk [a0, (gv x6 1), t100, (gv x3 0)] w fun t121 w => ga P .add T.b (.tmp 122) (.const (.int .i64 1)) t100 (.int .i64 1) w fun t123 w => K0 [t21, (gv x3 0), (gv x4 0), (gv x4 1), (gv x6 0), t123, t100, t101, t101, t105, t108, t110, t116, (gv x0 13)] w) ( ga P .geq T.b (.tmp 124) (.tmp 125) t108 t110 w fun t126 w => ga P .add T.b (.tmp 128) (.const (.int .i64 1)) t100 (.int .i64 1) w fun t129 w => gb P F.fk [a0, t129, (gv x0 13), (gv x3 0)] w fun t132 w => K0 [t21, (gv x3 0), (gv x4 0), (gv x4 1), (gv x6 0), (gv x6 1), t100, t101, t101, t105, t108, t110, t126, t100] w)
def M.ba.j5 [SD] (x0 : List Value) (a0 : Value) (x4 : List Value) (K0 : KL) (t21 : Value) (x3 : List Value) : QQ := fun w K =>  gc (fun K6 => iq w fun w => w = w ∧ fw (ga P .gtr T.b (.tmp 73) (.const (.int .i64 0)) (gv x0 5) (.int .i64 0) w) w fun t74 => w = w ∧ fw (fun K' => fy (isB t74 true) (fun K' => K' a0 w) w K') w fun t76 => fw (fun K' => fy (isB t74 true) (fun K' => K' (gv x0 5) w) w K') w fun t77 => fw (fy (isB t74 true) (ga P .sub T.b (.tmp 77) (.const (.int .i64 1)) t77 (.int .i64 1) w) w) w fun t78 => fw (fy (isB t74 true) (iaT P T.ai t76 t78 w) w) w fun t79 => fw (fy (isB t74 true) (ldT P T.ah t79 w) w) w fun t80 => fw (fun K' => fy (isB t74 true) (fun K' => K' a0 w) w K') w fun t81 => fw (fun K' => fy (isB t74 true) (fun K' => K' (gv x4 0) w) w K') w fun t82 => fw (fy (isB t74 true) (iaT P T.ai t81 t82 w) w) w fun t83 => fw (fy (isB t74 true) (ldT P T.ah t83 w) w) w fun t84 => fy (isB t74 true) (gb P F.dc [t80, t84] w) w fun t85 w => fw (fy (isB t74 true) (unT P .not t85 w) w) w fun t86 => fw (gq t74 t86 (.bool false) w) w fun t87 => ge t87 ( gb P F.fq [a0, (gv x0 5), (gv x0 13), (gv x4 0)] w fun t92 w => K0 [t21, (gv x3 0), (gv x4 0), (gv x4 1), t92, t92, (gv x0 6), (gv x0 7), (gv x0 8), (gv x0 9), (gv x0 10), (gv x0 11), (gv x0 12), (gv x0 13)] w) ( K6 [(gv x0 4), (gv x0 5)] w)) fun x6 w => M.ba.j6 a0 x6 x0 x4 t21 x3 K0 w K
def M.ba.j4 [SD] (x0 x4 : List Value) (a0 : Value) (K0 : KL) (t21 : Value) (x3 : List Value) : QQ := fun w K =>  gc (fun K5 => fy (isB (gv x0 12) true) (fun K' => K' (gv x0 8) w) w fun t63 w => gq (gv x0 12) t63 (.bool false) w fun t64 w => fy (isB t64 true) (fun K' => K' (gv x4 1) w) w fun t66 w => fy (isB t64 true) (ga P .eql T.bf (.tmp 66) (.const (.int .i64 1)) t66 (.int .i64 1) w) w fun t67 w => gq t64 t67 (.bool false) w fun t68 w => ge t68 ( gb P F.fn [a0, (gv x0 5), (gv x0 13)] w fun t72 w => ge t72 ( K (.tuple #[]) w) ( K5 [] w)) ( K5 [] w)) fun x5 w => M.ba.j5 x0 a0 x4 K0 t21 x3 w K
def M.ba.j3 [SD] (a0 : Value) (x0 : List Value) (K0 : KL) (t21 : Value) (x3 : List Value) : QQ := fun w K =>  gb P F.fs [a0, (gv x0 5), (gv x0 13)] w fun t46 w => exT P t46 0 w fun t47 w => exT P t46 1 w fun t48 w => gc (fun K4 => ga P .eql T.bf (.tmp 49) (.const (.int .i64 2)) t48 (.int .i64 2) w fun t50 w => ge t50 ( gb P F.ft [a0, (gv x0 5), (gv x0 13)] w fun t54 w => ga P .sub T.b (.tmp 55) (.const (.int .i64 1)) (gv x0 13) (.int .i64 1) w fun t56 w => ga P .sub T.b (.tmp 57) (.tmp 58) t47 (gv x0 5) w fun t59 w => ga P .sub T.b (.tmp 56) (.tmp 59) t56 t59 w fun t60 w => K4 [t60, (.int .i64 1)] w) ( K4 [t47, t48] w)) fun x4 w => M.ba.j4 x0 x4 a0 K0 t21 x3 w K
def M.ba.j2 [SD] (x0 : List Value) (a0 : Value) (K0 : KL) (t21 : Value) : QQ := fun w K =>  gc (fun K3 => unT P .not (gv x0 12) w fun t35 w => ge t35 ( gb P F.fr [a0, (gv x0 5), (gv x0 13)] w fun t39 w => ga P .sub T.b (.tmp 40) (.const (.int .i64 1)) (gv x0 1) (.int .i64 1) w fun t41 w => K3 [t41] w) ( K3 [(gv x0 1)] w)) fun x3 w => M.ba.j3 a0 x0 K0 t21 x3 w K
def M.ba.j1 [SD] (x0 : List Value) (a0 : Value) (K0 : KL) (t21 : Value) : QQ := fun w K =>  gc (fun K2 => ga P .eql T.b (.tmp 28) (.const (.int .i64 0)) (gv x0 1) (.int .i64 0) w fun t29 w => ge t29 ( gb P F.fl [a0, (gv x0 5), (gv x0 13)] w fun t33 w => K (.tuple #[]) w) ( K2 [] w)) fun x2 w => M.ba.j2 x0 a0 K0 t21 w K
def M.ba.j0 [SD] (x0 : List Value) (a0 : Value) (K0 : KL) : QQ := fun w K =>  ga P .sub T.b (.tmp 19) (.tmp 20) (gv x0 13) (gv x0 5) w fun t21 w => gc (fun K1 => ga P .leq T.b (.tmp 22) (.const (.int .i64 12)) t21 (.int .i64 12) w fun t23 w => ge t23 ( gb P F.fp [a0, (gv x0 5), (gv x0 13)] w fun t27 w => K (.tuple #[]) w) ( K1 [] w)) fun x1 w => M.ba.j1 x0 a0 K0 t21 w K
def M.ba [SD] (a0 a1 a2 a3 : Value) : QQ := fun w K =>  ir [undef, a3, undef, undef, undef, a1, undef, undef, (.bool true), undef, undef, undef, (.bool true), a2] w fun K0 x0 w => M.ba.j0 x0 a0 K0 w K
def M.dl [SD] (a0 : Value) : QQ := fun w K =>  biT P .len #[T.ai] T.b [false] [a0] w fun t4 w => cvT P T.b T.au t4 w fun t8 w => gb P F.dv [t8] w fun t9 w => gb P F.fk [a0, (.int .i64 0), t4, t9] w fun t10 w => K (.tuple #[]) w
def M.di.L : List Nat := [0, 1, 4]
def M.di.pl : Nat → po := fun id => ⟨.nil, [], false, []⟩
def M.eb.L : List Nat := [0, 2]
def M.eb.pl : Nat → po := fun id => ⟨.nil, [], false, []⟩
def M.cg.L : List Nat := [0, 1, 2, 6, 7]
def M.cg.pl : Nat → po := fun id => cond (Nat.beq id 4) ⟨(gS 0 13 (.eff 13 (.go 14 .nil) .gt)), [13], false, [0, 0, 3, 7, 15, 15, 63, 127, 15, 15, 527, 1807, 3855, 8191, 16383]⟩ (cond (Nat.beq id 6) ⟨(gS 0 15 (.eff 15 (.go 16 (.eff 17 .nil .gt)) .gt)), [15, 17], false, [0, 0, 0, 0, 8, 0, 0, 64, 224, 480, 0, 0, 3072, 7168, 16355, 32739, 65535, 131071]⟩ (⟨.nil, [], false, []⟩))
def M.bo.L : List Nat := [0, 1, 2, 3, 8, 9]
def M.bo.pl : Nat → po := fun id => cond (Nat.beq id 3) ⟨(gS 0 18 (.eff 18 (.go 19 .nil) .gt)), [18], false, [0, 1, 0, 7, 15, 31, 31, 31, 223, 511, 1023, 31, 31, 31, 12319, 28703, 63519, 129055, 262143, 524287]⟩ (cond (Nat.beq id 5) ⟨(gS 0 12 (.eff 12 (.go 13 .nil) .gt)), [12], false, [0, 0, 0, 6, 15, 31, 0, 0, 0, 384, 960, 1984, 4095, 8191]⟩ (cond (Nat.beq id 6) ⟨(gS 0 21 (.eff 21 (.go 22 (.eff 23 .nil .gt)) .gt)), [21, 23], false, [0, 0, 0, 6, 0, 0, 0, 96, 0, 0, 0, 1536, 3840, 7936, 0, 0, 0, 98304, 245760, 507904, 1048335, 2096911, 4194303, 8388607]⟩ (⟨.nil, [], false, []⟩)))
def M.ce.L : List Nat := [0, 1, 2, 6, 7, 8, 9, 10]
def M.ce.pl : Nat → po := fun id => cond (Nat.beq id 10) ⟨(gS 0 17 (.eff 17 (.go 18 (.eff 19 .nil .gt)) .gt)), [17, 19], false, [0, 0, 0, 0, 0, 24, 0, 0, 0, 384, 960, 1984, 0, 0, 12288, 28672, 65475, 131011, 262143, 524287]⟩ (⟨.nil, [], false, []⟩)
def M.ao.L : List Nat := [0, 1, 2, 3, 8, 9, 10, 11]
def M.ao.pl : Nat → po := fun id => cond (Nat.beq id 1) ⟨(gS 0 13 (.eff 13 (.go 14 (.eff 15 .nil .gt)) .gt)), [13, 15], false, [0, 0, 0, 0, 0, 0, 48, 112, 0, 0, 768, 1792, 4083, 8179, 16383, 32767]⟩ (cond (Nat.beq id 3) ⟨(gS 0 12 (.eff 12 (.go 13 .nil) .gt)), [12], false, [0, 0, 3, 7, 15, 15, 63, 127, 15, 15, 783, 1807, 4095, 8191]⟩ (cond (Nat.beq id 5) ⟨(gS 0 12 (.eff 12 (.go 13 (.go 14 .nil)) .gt)), [12], false, [0, 0, 3, 7, 15, 15, 63, 127, 15, 15, 783, 1807, 4095, 8191, 16383]⟩ (cond (Nat.beq id 8) ⟨(gS 0 13 (.eff 13 (.go 14 (.eff 15 .nil .gt)) .gt)), [13, 15], false, [0, 0, 0, 0, 0, 0, 48, 112, 0, 0, 768, 1792, 4083, 8179, 16383, 32767]⟩ (cond (Nat.beq id 10) ⟨(gS 0 13 (.eff 13 (.go 14 (.eff 15 .nil .gt)) .gt)), [13, 15], false, [0, 0, 0, 0, 0, 0, 48, 112, 0, 0, 768, 1792, 4083, 8179, 16383, 32767]⟩ (cond (Nat.beq id 13) ⟨(gS 0 12 (.eff 12 (.go 13 .nil) .gt)), [12], false, [0, 0, 3, 7, 15, 15, 63, 127, 15, 15, 783, 1807, 4095, 8191]⟩ (cond (Nat.beq id 15) ⟨(gS 0 12 (.eff 12 (.go 13 (.go 14 .nil)) .gt)), [12], false, [0, 0, 3, 7, 15, 15, 63, 127, 15, 15, 783, 1807, 4095, 8191, 16383]⟩ (cond (Nat.beq id 18) ⟨(gS 0 13 (.eff 13 (.go 14 (.eff 15 .nil .gt)) .gt)), [13, 15], false, [0, 0, 0, 0, 0, 0, 48, 112, 0, 0, 768, 1792, 4083, 8179, 16383, 32767]⟩ (cond (Nat.beq id 21) ⟨(gS 0 13 (.eff 13 (.go 14 (.eff 15 .nil .gt)) .gt)), [13, 15], false, [0, 0, 0, 0, 0, 0, 48, 112, 0, 0, 768, 1792, 4083, 8179, 16383, 32767]⟩ (⟨.nil, [], false, []⟩)))))))))
def M.ch.L : List Nat := [0, 1, 2, 3, 8, 9, 10]
def M.ch.pl : Nat → po := fun id => cond (Nat.beq id 1) ⟨(gS 0 13 (.eff 13 (.go 14 (.eff 15 .nil .gt)) .gt)), [13, 15], false, [0, 0, 0, 0, 0, 0, 48, 112, 0, 0, 768, 1792, 4083, 8179, 16383, 32767]⟩ (cond (Nat.beq id 3) ⟨(gS 0 12 (.eff 12 (.go 13 (.go 14 .nil)) .gt)), [12], false, [0, 0, 3, 7, 15, 15, 63, 127, 15, 15, 783, 1807, 4095, 8191, 16383]⟩ (cond (Nat.beq id 5) ⟨(gS 0 12 (.eff 12 (.go 13 .nil) .gt)), [12], false, [0, 0, 3, 7, 15, 15, 63, 127, 15, 15, 783, 1807, 4095, 8191]⟩ (cond (Nat.beq id 8) ⟨(gS 0 13 (.eff 13 (.go 14 (.eff 15 .nil .gt)) .gt)), [13, 15], false, [0, 0, 0, 0, 0, 0, 48, 112, 0, 0, 768, 1792, 4083, 8179, 16383, 32767]⟩ (⟨.nil, [], false, []⟩))))
def M.ah.L : List Nat := [0, 1, 2, 6, 7, 8, 9, 10]
def M.ah.pl : Nat → po := fun id => cond (Nat.beq id 5) ⟨(gS 0 13 (.eff 13 (.go 14 (.go 15 .nil)) .gt)), [13], false, [0, 0, 3, 7, 15, 15, 63, 127, 15, 15, 527, 1807, 3855, 8191, 16383, 32767]⟩ (cond (Nat.beq id 11) ⟨(gS 0 15 (.eff 15 (.go 16 (.eff 17 .nil .gt)) .gt)), [15, 17], false, [0, 0, 0, 0, 8, 0, 0, 64, 224, 480, 0, 0, 3072, 7168, 16355, 32739, 65535, 131071]⟩ (cond (Nat.beq id 16) ⟨(gS 0 9 (.eff 9 (.go 10 .nil) .gt)), [9], false, [0, 0, 3, 7, 0, 0, 32, 112, 240, 511, 1023]⟩ (cond (Nat.beq id 17) ⟨(gS 0 15 (.eff 15 (.go 16 (.eff 17 .nil .gt)) .gt)), [15, 17], false, [0, 0, 0, 0, 8, 0, 0, 64, 224, 480, 0, 0, 3072, 7168, 16355, 32739, 65535, 131071]⟩ (cond (Nat.beq id 22) ⟨(gS 0 9 (.eff 9 (.go 10 .nil) .gt)), [9], false, [0, 0, 3, 7, 0, 0, 32, 112, 240, 511, 1023]⟩ (cond (Nat.beq id 23) ⟨(gS 0 15 (.eff 15 (.go 16 (.eff 17 .nil .gt)) .gt)), [15, 17], false, [0, 0, 0, 0, 8, 0, 0, 64, 224, 480, 0, 0, 3072, 7168, 16355, 32739, 65535, 131071]⟩ (⟨.nil, [], false, []⟩))))))
def M.cp.L : List Nat := [0, 1, 2, 6, 8, 9, 10, 7]
def M.cp.pl : Nat → po := fun id => cond (Nat.beq id 10) ⟨(gS 0 17 (.eff 17 (.go 18 (.eff 19 .nil .gt)) .gt)), [17, 19], false, [0, 0, 0, 0, 0, 24, 0, 0, 0, 384, 960, 1984, 0, 0, 12288, 28672, 65475, 131011, 262143, 524287]⟩ (⟨.nil, [], false, []⟩)
def M.ec.L : List Nat := [0, 1, 2, 3, 8, 9]
def M.ec.pl : Nat → po := fun id => cond (Nat.beq id 1) ⟨(gS 0 8 (.eff 8 .nil .gt)), [8], false, [0, 0, 3, 7, 0, 0, 48, 112, 255]⟩ (⟨.nil, [], false, []⟩)
def M.ed.L : List Nat := [0, 1, 2, 3, 4, 10]
def M.ed.pl : Nat → po := fun id => ⟨.nil, [], false, []⟩
def M.dj.L : List Nat := [0, 1, 2, 6]
def M.dj.pl : Nat → po := fun id => ⟨.nil, [], false, []⟩
def M.dk.L : List Nat := [0, 1, 2, 6, 7, 8, 10, 11, 12, 51, 54, 9]
def M.dk.pl : Nat → po := fun id => ⟨.nil, [], false, []⟩
def M.dp.L : List Nat := [0, 1, 2, 6, 7]
def M.dp.pl : Nat → po := fun id => cond (Nat.beq id 3) ⟨(gS 0 13 (.eff 13 (.go 14 (.eff 15 .nil .gt)) .gt)), [13, 15], false, [0, 0, 0, 0, 0, 0, 48, 112, 0, 0, 768, 1792, 4083, 8179, 16383, 32767]⟩ (⟨.nil, [], false, []⟩)
def M.ba.L : List Nat := [0, 1, 2, 3, 8, 9, 10, 11, 12, 13, 14, 15, 16, 17, 18]
def M.ba.pl : Nat → po := fun id => cond (Nat.beq id 17) ⟨(gS 0 12 (.eff 12 (.go 13 (.go 14 .nil)) .gt)), [12], false, [0, 1, 3, 7, 7, 23, 63, 127, 7, 7, 775, 1799, 4095, 8191, 16383]⟩ (⟨.nil, [], false, []⟩)
def M.dl.L : List Nat := [0, 2]
def M.dl.pl : Nat → po := fun id => ⟨.nil, [], false, []⟩
class SE extends SD where
 bdi : nc P sl = true
 sz : szE P sl = 1
 ld : ∀ (b i : Nat) (w : World) (K : KV), ldT P el (.pointer (some ⟨b, i, none⟩)) w K = ld1 P b i w K
 st : ∀ (b i : Nat) (x : Int) (w : World) (K : KV), stT P el (.pointer (some ⟨b, i, none⟩)) (.int k x) w K = st1 P b i (.int k x) w K
 atc : C2 ayh M.di
 asa : fC ayh
 ayr : C1 bfm M.eb
 avx : fC bfm
 awp : C3 bdd M.cg
 awl : fC bdd
 aqv : C4 awf M.bo
 aox : fC awf
 arr : C3 aws M.ce
 apd : fC aws
 api : C4 axo M.ao
 ate : fC axo
 awc : C4 bda M.ch
 axc : fC bda
 arw : C3 axy M.ah
 aqp : fC axy
 awn : C3 bec M.cp
 awd : fC bec
 awo : C4 bcv M.ec
 axf : fC bcv
 axw : C5 bed M.ed
 ayn : fC bed
 apk : C3 ayy M.dj
 apu : fC ayy
 axg : C3 bev M.dk
 axv : fC bev
 avz : C3 bct M.dp
 ayw : fC bct
 ayt : C4 bdl M.ba
 awq : fC bdl
 ard : C1 ayq M.dl
 bbm : fC ayq
section
variable [SE]
@[simp] theorem SE.bwk : nc P T.ai = true := SE.bdi
@[simp] theorem SE.sz' : szE P T.ai = 1 := SE.sz
@[simp] theorem SE.ld' (b i : Nat) (w : World) (K : KV) : ldT P T.ah (.pointer (some ⟨b, i, none⟩)) w K = ld1 P b i w K := SE.ld b i w K
@[simp] theorem SE.st' (b i : Nat) (x : Int) (w : World) (K : KV) : stT P T.ah (.pointer (some ⟨b, i, none⟩)) (.int SD.k x) w K = st1 P b i (.int SD.k x) w K := SE.st b i x w K
theorem M.di.calls : C2 F.dc M.di := SE.atc
theorem M.di.fcall : fC F.dc := SE.asa
theorem M.eb.calls : C1 F.fo M.eb := SE.ayr
theorem M.eb.fcall : fC F.fo := SE.avx
theorem M.cg.calls : C3 F.fp M.cg := SE.awp
theorem M.cg.fcall : fC F.fp := SE.awl
theorem M.bo.calls : C4 F.fh M.bo := SE.aqv
theorem M.bo.fcall : fC F.fh := SE.aox
theorem M.ce.calls : C3 F.fl M.ce := SE.arr
theorem M.ce.fcall : fC F.fl := SE.apd
theorem M.ao.calls : C4 F.fm M.ao := SE.api
theorem M.ao.fcall : fC F.fm := SE.ate
theorem M.ch.calls : C4 F.fq M.ch := SE.awc
theorem M.ch.fcall : fC F.fq := SE.axc
theorem M.ah.calls : C3 F.fn M.ah := SE.arw
theorem M.ah.fcall : fC F.fn := SE.aqp
theorem M.cp.calls : C3 F.fr M.cp := SE.awn
theorem M.cp.fcall : fC F.fr := SE.awd
theorem M.ec.calls : C4 F.fi M.ec := SE.awo
theorem M.ec.fcall : fC F.fi := SE.axf
theorem M.ed.calls : C5 F.fj M.ed := SE.axw
theorem M.ed.fcall : fC F.fj := SE.ayn
theorem M.dj.calls : C3 F.fe M.dj := SE.apk
theorem M.dj.fcall : fC F.fe := SE.apu
theorem M.dk.calls : C3 F.fs M.dk := SE.axg
theorem M.dk.fcall : fC F.fs := SE.axv
theorem M.dp.calls : C3 F.ft M.dp := SE.avz
theorem M.dp.fcall : fC F.ft := SE.ayw
theorem M.ba.calls : C4 F.fk M.ba := SE.ayt
theorem M.ba.fcall : fC F.fk := SE.awq
theorem M.dl.calls : C1 F.fu M.dl := SE.ard
end
abbrev sdI : SD := ⟨.i64, T.b, T.ac, F.cd, F.bz, F.q, F.ag, F.af, F.aa, F.o, F.e, F.r, F.am, F.al, F.p, F.w, F.t, F.ah, F.y⟩
theorem M.di.callsI : C2 F.cd (@M.di sdI) := @mk2 _ _ M.di.L M.di.pl _ FN.cd.at (by kernel_rfl)
theorem M.eb.callsI : C1 F.bz (@M.eb sdI) := @mk1 _ _ M.eb.L M.eb.pl _ FN.bz.at (by kernel_rfl)
theorem M.cg.callsI : C3 F.q (@M.cg sdI) := @mk3 _ _ M.cg.L M.cg.pl _ FN.q.at (by kernel_rfl)
theorem M.bo.callsI : C4 F.ag (@M.bo sdI) := @mk4 _ _ M.bo.L M.bo.pl _ FN.ag.at (by kernel_rfl)
theorem M.ce.callsI : C3 F.af (@M.ce sdI) := @mk3 _ _ M.ce.L M.ce.pl _ FN.af.at (by kernel_rfl)
theorem M.ao.callsI : C4 F.aa (@M.ao sdI) := @mk4 _ _ M.ao.L M.ao.pl _ FN.aa.at (by kernel_rfl)
theorem M.ch.callsI : C4 F.o (@M.ch sdI) := @mk4 _ _ M.ch.L M.ch.pl _ FN.o.at (by kernel_rfl)
theorem M.ah.callsI : C3 F.e (@M.ah sdI) := @mk3 _ _ M.ah.L M.ah.pl _ FN.e.at (by kernel_rfl)
theorem M.cp.callsI : C3 F.r (@M.cp sdI) := @mk3 _ _ M.cp.L M.cp.pl _ FN.r.at (by kernel_rfl)
theorem M.ec.callsI : C4 F.am (@M.ec sdI) := @mk4 _ _ M.ec.L M.ec.pl _ FN.am.at (by kernel_rfl)
theorem M.ed.callsI : C5 F.al (@M.ed sdI) := @mk5 _ _ M.ed.L M.ed.pl _ FN.al.at (by kernel_rfl)
theorem M.dj.callsI : C3 F.p (@M.dj sdI) := @mk3 _ _ M.dj.L M.dj.pl _ FN.p.at (by kernel_rfl)
theorem M.dk.callsI : C3 F.w (@M.dk sdI) := @mk3 _ _ M.dk.L M.dk.pl _ FN.w.at (by kernel_rfl)
theorem M.dp.callsI : C3 F.t (@M.dp sdI) := @mk3 _ _ M.dp.L M.dp.pl _ FN.t.at (by kernel_rfl)
theorem M.ba.callsI : C4 F.ah (@M.ba sdI) := @mk4 _ _ M.ba.L M.ba.pl _ FN.ah.at (by kernel_rfl)
theorem M.dl.callsI : C1 F.y (@M.dl sdI) := @mk1 _ _ M.dl.L M.dl.pl _ FN.y.at (by kernel_rfl)
abbrev seI : SE where
 toSD := sdI
 bdi := by kernel_rfl
 sz := by kernel_rfl
 ld := fun b i w K => Eq.trans (by kernel_rfl) rfl
 st := fun b i x w K => Eq.trans (by kernel_rfl) rfl
 atc := M.di.callsI
 asa := fcN FN.cd.at (by kernel_rfl)
 ayr := M.eb.callsI
 avx := fcN FN.bz.at (by kernel_rfl)
 awp := M.cg.callsI
 awl := fcN FN.q.at (by kernel_rfl)
 aqv := M.bo.callsI
 aox := fcN FN.ag.at (by kernel_rfl)
 arr := M.ce.callsI
 apd := fcN FN.af.at (by kernel_rfl)
 api := M.ao.callsI
 ate := fcN FN.aa.at (by kernel_rfl)
 awc := M.ch.callsI
 axc := fcN FN.o.at (by kernel_rfl)
 arw := M.ah.callsI
 aqp := fcN FN.e.at (by kernel_rfl)
 awn := M.cp.callsI
 awd := fcN FN.r.at (by kernel_rfl)
 awo := M.ec.callsI
 axf := fcN FN.am.at (by kernel_rfl)
 axw := M.ed.callsI
 ayn := fcN FN.al.at (by kernel_rfl)
 apk := M.dj.callsI
 apu := fcN FN.p.at (by kernel_rfl)
 axg := M.dk.callsI
 axv := fcN FN.w.at (by kernel_rfl)
 avz := M.dp.callsI
 ayw := fcN FN.t.at (by kernel_rfl)
 ayt := M.ba.callsI
 awq := fcN FN.ah.at (by kernel_rfl)
 ard := M.dl.callsI
 bbm := fcN FN.y.at (by kernel_rfl)
abbrev sdU : SD := ⟨.u64, T.g, T.k, F.bk, F.ai, F.k, F.v, F.u, F.s, F.h, F.c, F.l, F.ab, F.z, F.i, F.n, F.m, F.x, F.d⟩
theorem M.di.callsU : C2 F.bk (@M.di sdU) := @mk2 _ _ M.di.L M.di.pl _ FN.bk.at (by kernel_rfl)
theorem M.eb.callsU : C1 F.ai (@M.eb sdU) := @mk1 _ _ M.eb.L M.eb.pl _ FN.ai.at (by kernel_rfl)
theorem M.cg.callsU : C3 F.k (@M.cg sdU) := @mk3 _ _ M.cg.L M.cg.pl _ FN.k.at (by kernel_rfl)
theorem M.bo.callsU : C4 F.v (@M.bo sdU) := @mk4 _ _ M.bo.L M.bo.pl _ FN.v.at (by kernel_rfl)
theorem M.ce.callsU : C3 F.u (@M.ce sdU) := @mk3 _ _ M.ce.L M.ce.pl _ FN.u.at (by kernel_rfl)
theorem M.ao.callsU : C4 F.s (@M.ao sdU) := @mk4 _ _ M.ao.L M.ao.pl _ FN.s.at (by kernel_rfl)
theorem M.ch.callsU : C4 F.h (@M.ch sdU) := @mk4 _ _ M.ch.L M.ch.pl _ FN.h.at (by kernel_rfl)
theorem M.ah.callsU : C3 F.c (@M.ah sdU) := @mk3 _ _ M.ah.L M.ah.pl _ FN.c.at (by kernel_rfl)
theorem M.cp.callsU : C3 F.l (@M.cp sdU) := @mk3 _ _ M.cp.L M.cp.pl _ FN.l.at (by kernel_rfl)
theorem M.ec.callsU : C4 F.ab (@M.ec sdU) := @mk4 _ _ M.ec.L M.ec.pl _ FN.ab.at (by kernel_rfl)
theorem M.ed.callsU : C5 F.z (@M.ed sdU) := @mk5 _ _ M.ed.L M.ed.pl _ FN.z.at (by kernel_rfl)
theorem M.dj.callsU : C3 F.i (@M.dj sdU) := @mk3 _ _ M.dj.L M.dj.pl _ FN.i.at (by kernel_rfl)
theorem M.dk.callsU : C3 F.n (@M.dk sdU) := @mk3 _ _ M.dk.L M.dk.pl _ FN.n.at (by kernel_rfl)
theorem M.dp.callsU : C3 F.m (@M.dp sdU) := @mk3 _ _ M.dp.L M.dp.pl _ FN.m.at (by kernel_rfl)
theorem M.ba.callsU : C4 F.x (@M.ba sdU) := @mk4 _ _ M.ba.L M.ba.pl _ FN.x.at (by kernel_rfl)
theorem M.dl.callsU : C1 F.d (@M.dl sdU) := @mk1 _ _ M.dl.L M.dl.pl _ FN.d.at (by kernel_rfl)
abbrev seU : SE where
 toSD := sdU
 bdi := by kernel_rfl
 sz := by kernel_rfl
 ld := fun b i w K => Eq.trans (by kernel_rfl) rfl
 st := fun b i x w K => Eq.trans (by kernel_rfl) rfl
 atc := M.di.callsU
 asa := fcN FN.bk.at (by kernel_rfl)
 ayr := M.eb.callsU
 avx := fcN FN.ai.at (by kernel_rfl)
 awp := M.cg.callsU
 awl := fcN FN.k.at (by kernel_rfl)
 aqv := M.bo.callsU
 aox := fcN FN.v.at (by kernel_rfl)
 arr := M.ce.callsU
 apd := fcN FN.u.at (by kernel_rfl)
 api := M.ao.callsU
 ate := fcN FN.s.at (by kernel_rfl)
 awc := M.ch.callsU
 axc := fcN FN.h.at (by kernel_rfl)
 arw := M.ah.callsU
 aqp := fcN FN.c.at (by kernel_rfl)
 awn := M.cp.callsU
 awd := fcN FN.l.at (by kernel_rfl)
 awo := M.ec.callsU
 axf := fcN FN.ab.at (by kernel_rfl)
 axw := M.ed.callsU
 ayn := fcN FN.z.at (by kernel_rfl)
 apk := M.dj.callsU
 apu := fcN FN.i.at (by kernel_rfl)
 axg := M.dk.callsU
 axv := fcN FN.n.at (by kernel_rfl)
 avz := M.dp.callsU
 ayw := fcN FN.m.at (by kernel_rfl)
 ayt := M.ba.callsU
 awq := fcN FN.x.at (by kernel_rfl)
 ard := M.dl.callsU
 bbm := fcN FN.d.at (by kernel_rfl)
end Go.Proofs.YtfnhoaemapheoaaGreat
set_option maxRecDepth 100000
namespace Go.Proofs.YtfnhoaemapheoaaGreat.SG
open Go.Eng Go.Sort
variable [SE]
def Rw (w : World) (g : Nat) (e : TypeId) (cap : Nat) (d : Array Int) : Prop := ∃ cur : Array Value, w.heap[g]? = some (.cells cur e (0, 0)) ∧ cur.size = cap ∧ d.size ≤ cap ∧ ∀ j, j < d.size → cur[j]? = some (.int SD.k d[j]!)
section
variable {w w' : World} {g cap : Nat} {e : TypeId} {d : Array Int} {S : Nat → Prop}
theorem Rw.at (h : Rw w g e cap d) {j : Nat} (hj : j < d.size) : gi w g j = some (.int SD.k d[j]!) := by
 obtain ⟨cur, h1, _, _, h4⟩ := h
 rw [gj h1]; exact h4 j hj
theorem Rw.frz (h : Rw w g e cap d) (j : Nat) : qh w g j = false := by
 obtain ⟨cur, h1, _⟩ := h
 exact nf h1 j
theorem Rw.lt (h : Rw w g e cap d) : g < w.heap.size := by
 obtain ⟨cur, h1, _⟩ := h
 exact oh h1
theorem Rw.heap (h : Rw w g e cap d) (he : w'.heap[g]? = w.heap[g]?) : Rw w' g e cap d := by
 obtain ⟨cur, h1, h2⟩ := h
 exact ⟨cur, he.trans h1, h2⟩
theorem Rw.fr (h : Rw w g e cap d) (hf : Fr S w w') (hn : ¬ S g) : Rw w' g e cap d := h.heap (hf.jy g h.lt hn)
omit [SE] in
theorem bkb (d : Array Int) {i : Nat} (hi : i < d.size) (x : Int) (j : Nat) : (d.setIfInBounds i x)[j]! = if i = j then x else d[j]! := by
 by_cases h : i = j
 ·subst h; simp [hi]
 ·simp [h, getElem!_def, Array.getElem?_setIfInBounds]
theorem Rw.set (h : Rw w g e cap d) {i : Nat} (hi : i < d.size) (x : Int) : Rw (w.setCell ⟨g, i, none⟩ (.int SD.k x)) g e cap (d.setIfInBounds i x) := by
 obtain ⟨cur, h1, h2, h3, h4⟩ := h
 refine ⟨cur.setIfInBounds i (.int SD.k x), mq h1, by simpa using h2, by simpa using h3, fun j hj => ?_⟩
 have hj' : j < d.size := by simpa using hj
 rw [bkb d hi, Array.getElem?_setIfInBounds]
 by_cases hij : i = j
 ·subst hij; simp [h2]; omega
 ·rw [if_neg hij, if_neg hij]; exact h4 j hj'
theorem Rw.swp (h : Rw w g e cap d) {i j : Nat} (hi : i < d.size) (hj : j < d.size) : Rw ((w.setCell ⟨g, i, none⟩ (.int SD.k d[j]!)).setCell ⟨g, j, none⟩ (.int SD.k d[i]!)) g e cap (Sort.swp d i j) := by
 have := (h.set hi d[j]!).set (i := j) (by simpa using hj) d[i]!
 exact this
theorem Rw.dr (h : Rw w g e cap d) (n : Nat) : Rw (Eng.dr w n) g e cap d := h.heap rfl
structure Rf (w w' : World) (g : Nat) (e : TypeId) (cap : Nat) (d : Array Int) : Prop where
 row : Rw w' g e cap d
 fr : Fr (fun b => b = g) w w'
theorem Rw.we (h : Rw w g e cap d) : Rf w w g e cap d := ⟨h, Fr.refl _ _⟩
theorem Rf.dr (h : Rf w w' g e cap d) (n : Nat) : Rf w (Eng.dr w' n) g e cap d := ⟨h.row.dr n, h.fr.dr n⟩
theorem Rf.swp (h : Rf w w' g e cap d) {i j : Nat} (hi : i < d.size) (hj : j < d.size) : Rf w ((w'.setCell ⟨g, i, none⟩ (.int SD.k d[j]!)).setCell ⟨g, j, none⟩ (.int SD.k d[i]!)) g e cap (Sort.swp d i j) :=
 ⟨h.row.swp hi hj, (h.fr.setCell (.inl rfl) _ _).setCell (.inl rfl) _ _⟩
theorem Rf.trans {w'' : World} {d' : Array Int} (h : Rf w w' g e cap d) (h' : Rf w' w'' g e cap d') : Rf w w'' g e cap d' := ⟨h'.row, h.fr.trans h'.fr⟩
end
theorem rj {w : World} (x y : Int) {K : KV} (h : K (.bool (ltInt x y)) w) : gb P F.dc [.int SD.k x, .int SD.k y] w K := by
 have nan : ∀ (z : Int) {K : KV}, K (.bool false) w → gb P F.fo [.int SD.k z] w K := fun z K hK => by
  rw [M.eb.fcall]
  apply M.eb.calls
  unfold M.eb
  simp
  exact hK
 rw [M.di.fcall]
 apply M.di.calls
 unfold M.di
 refine nan x ?_
 simp
 exact h
omit [SE] in
theorem bky {x : Nat} (h : x < 1000000) : IntKind.i64.wrap (x : Int) = x := gm (by omega) (by omega)
omit [SE] in
theorem pz {x : Nat} (h : x < 1000000) : IntKind.i64.wrap ((x : Int) + 1) = ((x + 1 : Nat) : Int) := by rw [gm (by omega) (by omega)]; rfl
omit [SE] in
theorem xq {x y : Nat} (h : y ≤ x) (hx : x < 1000000) : IntKind.i64.wrap ((x : Int) - y) = ((x - y : Nat) : Int) := by rw [gm (by omega) (by omega)]; omega
def InI (w : World) (g : Nat) (e : TypeId) (cap n a : Nat) (R : Array Int) : KL := fun x w1 => ∃ (j : Nat) (d : Array Int), x = [.int .i64 (j : Int)] ∧ Rf w w1 g e cap d ∧ d.size = n ∧ j < n ∧ insInner ltInt a j d = R
def InO (w : World) (g : Nat) (e : TypeId) (cap n a b : Nat) (R : Array Int) : KL := fun x w1 => ∃ (u : Value) (i : Nat) (d : Array Int), x = [u, .int .i64 (i : Int)] ∧ Rf w w1 g e cap d ∧ d.size = n ∧ insOuter ltInt a b i d = R
theorem agr {w : World} {g cap n : Nat} {e : TypeId} {d : Array Int} (H : Rw w g e cap d) (hn : d.size = n) (h6 : n < 100000) {a b : Nat} (hb : b ≤ n) (ha : a ≤ n) {K : KV}
  (h : ∀ w', Rf w w' g e cap (insertionSort ltInt d a b) → K (.tuple #[]) w') : jr P F.fp [.slice (some ⟨g, 0, none⟩) n cap, .int .i64 a, .int .i64 b] w K := by
 apply M.cg.calls
 unfold M.cg
 simp only [kh, pz (show a < 1000000 by omega)]
 refine ⟨InO w g e cap n a b (insertionSort ltInt d a b), fun x _ => b - ms x 1, ⟨_, a + 1, d, rfl, H.we, hn, rfl⟩, ?_⟩
 rintro x w1 ⟨u, i, d1, rfl, H1, hn1, hR⟩
 have g1 : ∀ u v : Value, gv [u, v] 1 = v := fun _ _ => rfl
 have g0 : ∀ u : Value, gv [u] 0 = u := fun _ => rfl
 unfold M.cg.j0
 simp only [gg, g1]
 unfold insOuter at hR
 by_cases hi : i < b
 ·simp [hi] at hR ⊢
  generalize hT : insInner ltInt a i d1 = T at *
  refine ⟨InI w g e cap n a T, fun x _ => ms x 0, ⟨i, d1, rfl, H1, hn1, by omega, hT⟩, ?_⟩
  rintro x w2 ⟨j, d2, rfl, H2, hn2, hj, hR2⟩
  have done : d2 = T → ∀ v w2, Rf w w2 g e cap d2 → InO w g e cap n a b (insertionSort ltInt d a b) [v, .int .i64 (IntKind.i64.wrap ((i : Int) + 1))] w2 ∧ b - ms [v, .int .i64 (IntKind.i64.wrap ((i : Int) + 1))] 1 < b - ms [u, .int .i64 (i : Int)] 1 := by
   intro hd v w2 H2
   rw [pz (by omega)]
   refine ⟨⟨v, i + 1, d2, rfl, H2, hn2, by rw [hd]; exact hR⟩, ?_⟩
   simp [ms, gv]; omega
  unfold M.cg.j3
  simp only [gg, g0]
  cases j with
  | zero =>
   simp [insInner] at hR2
   have := done hR2 (.int .i64 0) _ (H2.dr 1)
   have hz : ¬ (a : Int) < 0 := by omega
   simp [hz]
   simpa using this
  | succ j =>
   unfold insInner at hR2
   have hw := bky (show j < 1000000 by omega)
   by_cases hja : a < j + 1
   ·have hja' : (a : Int) < (j : Int) + 1 := by omega
    have c1 := H2.row.at (show j + 1 < d2.size by omega)
    have c0 := H2.row.at (show j < d2.size by omega)
    have hjn : (j : Int) < n := by omega
    have hjn' : (j : Int) + 1 < n := by omega
    have z1 : (0 : Int) ≤ (j : Int) + 1 := by omega
    simp [hja, hja', hw, c0, c1, hjn, hjn', z1] at hR2 ⊢
    refine rj _ _ ?_
    cases hl : ltInt d2[j + 1]! d2[j]! with
    | true =>
     simp [hl] at hR2 ⊢
     unfold M.cg.j4
     have f1 := H2.row.frz (j + 1)
     have f0 := H2.row.frz j
     simp [hw, c0, c1, hjn, hjn', z1, f0, f1, jo, ju]
     refine ⟨⟨j, _, rfl, ((H2.dr 1).dr 1).swp (by omega) (by omega), by rw [size_swp]; exact hn2, by omega, hR2⟩, ?_⟩
     simp [ms, gv]
    | false =>
     simp [hl] at hR2 ⊢
     have := done hR2 (.int .i64 ((j : Int) + 1)) _ (H2.dr 1)
     simpa using this
   ·have hja' : ¬ (a : Int) < (j : Int) + 1 := by omega
    simp [hja, hja'] at hR2 ⊢
    have := done hR2 (.int .i64 ((j : Int) + 1)) _ (H2.dr 1)
    simpa using this
 ·simp [hi] at hR ⊢
  subst hR
  exact h w1 H1
end Go.Proofs.YtfnhoaemapheoaaGreat.SG
set_option maxRecDepth 100000
namespace Go.Proofs.YtfnhoaemapheoaaGreat.SG
open Go.Eng Go.Sort
variable [SE]
omit [SE] in
theorem xp (hi first : Nat) : ∀ (n root : Nat) (d : Array Int), hi - root ≤ n → (siftDown ltInt hi first root d).size = d.size
 | 0, root, d, h => by
  unfold siftDown
  rw [dif_pos (by omega)]
 | n + 1, root, d, h => by
  unfold siftDown
  split
  ·rfl
  split
  ·split
   ·rfl
   split
   ·rw [xp hi first n _ _ (by omega), size_swp]
   ·rfl
  ·split
   ·rfl
   ·rw [xp hi first n _ _ (by omega), size_swp]
def SfI (w : World) (g : Nat) (e : TypeId) (cap n hi first : Nat) (R : Array Int) : KL := fun x w1 => ∃ (u : Value) (root : Nat) (d : Array Int), x = [u, .int .i64 (root : Int)] ∧ Rf w w1 g e cap d ∧ d.size = n ∧ root ≤ hi ∧ siftDown ltInt hi first root d = R
theorem avt {w : World} {g cap n : Nat} {e : TypeId} {d : Array Int} (H : Rw w g e cap d) (hn : d.size = n) (h6 : n < 100000) {lo hi first : Nat} (hb : first + hi ≤ n) (hlo : lo ≤ hi) {K : KV}
  (h : ∀ w', Rf w w' g e cap (siftDown ltInt hi first lo d) → K (.tuple #[]) w') : jr P F.fh [.slice (some ⟨g, 0, none⟩) n cap, .int .i64 lo, .int .i64 hi, .int .i64 first] w K := by
 apply M.bo.calls
 unfold M.bo
 generalize hR0 : siftDown ltInt hi first lo d = R0 at *
 refine ⟨SfI w g e cap n hi first R0, fun x _ => hi - ms x 1, ⟨_, lo, d, rfl, H.we, hn, hlo, hR0⟩, ?_⟩
 clear hR0
 rintro x w1 ⟨u, root, d1, rfl, H1, hn1, hro, hR⟩
 have g1 : ∀ u v : Value, gv [u, v] 1 = v := fun _ _ => rfl
 have g0 : ∀ u : Value, gv [u] 0 = u := fun _ => rfl
 have w2 : IntKind.i64.wrap (2 * (root : Int)) = ((2 * root : Nat) : Int) := by rw [gm (by omega) (by omega)]; omega
 have w3 : IntKind.i64.wrap (((2 * root : Nat) : Int) + 1) = ((2 * root + 1 : Nat) : Int) := pz (by omega)
 have w4 : IntKind.i64.wrap (((2 * root + 1 : Nat) : Int) + 1) = ((2 * root + 2 : Nat) : Int) := pz (by omega)
 unfold M.bo.j0
 simp only [gg, g1, uk, kh, qo, w2, w3]
 unfold siftDown at hR
 by_cases h0 : 2 * root + 1 ≥ hi
 ·have h0' : (hi : Int) ≤ ((2 * root + 1 : Nat) : Int) := by omega
  rw [dif_pos h0] at hR
  subst hR
  simp only [h0', decide_true, Eng.cond_true]
  exact h w1 H1
 rw [dif_neg h0] at hR
 have h0' : ¬ (hi : Int) ≤ ((2 * root + 1 : Nat) : Int) := by omega
 simp only [h0', decide_false, Eng.cond_false]
 unfold M.bo.j1
 have wf : ∀ k : Nat, k < hi → IntKind.i64.wrap ((first : Int) + (k : Int)) = ((first + k : Nat) : Int) := fun k hk => by rw [gm (by omega) (by omega)]; omega
 -- behind the choice of the child
 have tail : ∀ (c : Nat) (w2 : World), Rf w w2 g e cap d1 → c < hi → root < c → (if !ltInt d1[first + root]! d1[first + c]! then d1 else siftDown ltInt hi first c (Sort.swp d1 (first + root) (first + c))) = R0 →
   M.bo.j2 (.int .i64 first) [u, .int .i64 root] (.slice (some ⟨g, 0, none⟩) n cap) [.int .i64 c] (fun x' w' => SfI w g e cap n hi first R0 x' w' ∧ hi - ms x' 1 < hi - ms [u, .int .i64 (root : Int)] 1) w2 K := by
  intro c w2 H2 hc hrc hR
  unfold M.bo.j2
  have a1 := H2.row.at (show first + root < d1.size by omega)
  have a2 := H2.row.at (show first + c < d1.size by omega)
  have b1 : ((first + root : Nat) : Int) < n := by omega
  have b2 : ((first + c : Nat) : Int) < n := by omega
  have wr := wf root (by omega)
  have wc := wf c hc
  simp only [gg, so, wo, g1, g0, kh, wr, wc, true_and, and_true]
  simp [b1, b2, a1, a2, -Int.natCast_add]
  refine rj _ _ ?_
  cases hl : ltInt d1[first + root]! d1[first + c]! with
  | false =>
   simp [hl] at hR ⊢
   subst hR
   exact h _ (H2.dr 1)
  | true =>
   simp [hl] at hR ⊢
   unfold M.bo.j3
   have f1 := H2.row.frz (first + root)
   have f2 := H2.row.frz (first + c)
   simp only [gg, so, wo, acb, g1, g0, kh, wr, wc, true_and, and_true]
   simp [b1, b2, a1, a2, f1, f2, jo, ju, -Int.natCast_add]
   refine ⟨⟨_, c, _, rfl, ((H2.dr 1).dr 1).swp (by omega) (by omega), by rw [size_swp]; exact hn1, by omega, hR⟩, ?_⟩
   simp [ms, gv]; omega
 have v1 : IntKind.i64.wrap ((first : Int) + ((2 * root + 1 : Nat) : Int)) = ((first + (2 * root + 1) : Nat) : Int) := wf _ (by omega)
 simp only [gg, so, wo, kh, km, w4, true_and, and_true, zk]
 by_cases h1 : 2 * root + 1 + 1 < hi
 ·have h1' : ((2 * root + 2 : Nat) : Int) < hi := by omega
  have v2 : IntKind.i64.wrap (((first + (2 * root + 1) : Nat) : Int) + 1) = ((first + (2 * root + 2) : Nat) : Int) := by rw [gm (by omega) (by omega)]; omega
  have a1 := H1.row.at (show first + (2 * root + 1) < d1.size by omega)
  have a2 := H1.row.at (show first + (2 * root + 2) < d1.size by omega)
  have b1 : ((first + (2 * root + 1) : Nat) : Int) < n := by omega
  have b2 : ((first + (2 * root + 2) : Nat) : Int) < n := by omega
  have e2 : first + (2 * root + 1) + 1 = first + (2 * root + 2) := by omega
  simp only [h1', decide_true, beq_self_eq_true, abg, kh, v1, v2]
  simp [b1, b2, a1, a2, -Int.natCast_add]
  refine rj _ _ ?_
  rw [e2] at hR
  cases hl : ltInt d1[first + (2 * root + 1)]! d1[first + (2 * root + 2)]! with
  | true =>
   simp only [h1, hl, decide_true, Bool.and_self, if_true] at hR
   have hx : 2 * root + 2 < hi := by omega
   simp only [hx, dif_pos] at hR
   simp [-Int.natCast_add]
   exact tail (2 * root + 2) _ (H1.dr 1) (by omega) (by omega) hR
  | false =>
   simp only [hl, Bool.and_false, Bool.false_eq_true, if_false] at hR
   simp [-Int.natCast_add]
   exact tail (2 * root + 1) _ (H1.dr 1) (by omega) (by omega) hR
 ·have h1' : ¬ ((2 * root + 2 : Nat) : Int) < hi := by omega
  simp only [h1, decide_false, Bool.false_and, Bool.false_eq_true, if_false] at hR
  simp only [h1', decide_false]
  simp [-Int.natCast_add]
  exact tail (2 * root + 1) _ (H1.dr 1) (by omega) (by omega) hR
def HbI (w : World) (g : Nat) (e : TypeId) (cap n hi first : Nat) (R : Array Int) : KL := fun x w1 => ∃ (k : Nat) (d : Array Int), x = [.int .i64 ((k : Int) - 1)] ∧ Rf w w1 g e cap d ∧ d.size = n ∧ k ≤ hi + 1 ∧ (k ≤ hi ∨ hi = 0) ∧ heapBuild ltInt hi first k d = R
def HpI (w : World) (g : Nat) (e : TypeId) (cap n hi first : Nat) (R : Array Int) : KL := fun x w1 => ∃ (k : Nat) (d : Array Int), x = [.int .i64 ((k : Int) - 1)] ∧ Rf w w1 g e cap d ∧ d.size = n ∧ k ≤ hi ∧ heapPop ltInt first k d = R
def mp (x : List Value) (i : Nat) : Nat := match gv x i with
 | .int _ k => (k + 1).toNat
 | _ => 0
theorem atn {w : World} {g cap n : Nat} {e : TypeId} {d : Array Int} (H : Rw w g e cap d) (hn : d.size = n) (h6 : n < 100000) {a b : Nat} (hb : b ≤ n) (hab : a < b) {K : KV}
  (h : ∀ w', Rf w w' g e cap (heapSort ltInt d a b) → K (.tuple #[]) w') : jr P F.fl [.slice (some ⟨g, 0, none⟩) n cap, .int .i64 a, .int .i64 b] w K := by
 apply M.ce.calls
 unfold M.ce
 have hw0 : IntKind.i64.wrap ((b : Int) - a) = ((b - a : Nat) : Int) := xq (by omega) (by omega)
 generalize hhi : b - a = hi at *
 have hw1 : IntKind.i64.wrap ((hi : Int) - 1) = ((hi - 1 : Nat) : Int) := by rw [gm (by omega) (by omega)]; omega
 have hw2 : IntKind.i64.wrap (((hi - 1 : Nat) : Int).tdiv 2) = (((hi - 1) / 2 : Nat) : Int) := by
  rw [Int.tdiv_eq_ediv_of_nonneg (by omega), gm (by omega) (by omega)]; omega
 have hw3 : (((hi - 1) / 2 : Nat) : Int) = (((hi - 1) / 2 + 1 : Nat) : Int) - 1 := by omega
 simp only [kt, hw0, gg, hw1, ata, hw2]
 have g0 : ∀ u : Value, gv [u] 0 = u := fun _ => rfl
 generalize hZ : heapBuild ltInt hi a ((hi - 1) / 2 + 1) d = Z
 refine ⟨HbI w g e cap n hi a Z, fun x _ => mp x 0, ⟨(hi - 1) / 2 + 1, d, by rw [hw3], H.we, hn, by omega, by omega, hZ⟩, ?_⟩
 rintro x w1 ⟨k, d1, rfl, H1, hn1, hk, hk2, hR⟩
 unfold M.ce.j1
 simp only [gg, g0, qo]
 cases k with
 | succ k =>
  have hk0 : (0 : Int) ≤ ((k + 1 : Nat) : Int) - 1 := by omega
  have hk1 : ((k + 1 : Nat) : Int) - 1 = (k : Int) := by omega
  simp only [hk0, decide_true, Eng.cond_true, hk1]
  rw [M.bo.fcall]
  refine avt H1.row hn1 h6 (by omega) (by omega) fun w2 H2 => ?_
  have hw4 : IntKind.i64.wrap ((k : Int) - 1) = (k : Int) - 1 := gm (by omega) (by omega)
  simp only [kt, hw4]
  refine ⟨⟨k, _, rfl, H1.trans H2, by rw [xp _ _ _ _ _ (Nat.le_refl _)]; exact hn1, by omega, by omega, hR⟩, ?_⟩
  simp [mp, gv]
 | zero =>
  have hk0 : ¬ (0 : Int) ≤ ((0 : Nat) : Int) - 1 := by omega
  simp only [hk0, decide_false, Eng.cond_false]
  unfold heapBuild at hR
  unfold M.ce.j0
  have hw5 : ((hi - 1 : Nat) : Int) = (hi : Int) - 1 := by omega
  simp only [kt, hw1, hw5]
  have hR2 : heapPop ltInt a hi d1 = heapSort ltInt d a b := by
   unfold heapSort
   rw [hhi, hZ, ← hR]
  refine ⟨HpI w g e cap n hi a (heapSort ltInt d a b), fun x _ => mp x 0, ⟨hi, d1, rfl, H1, hn1, Nat.le_refl _, hR2⟩, ?_⟩
  rintro x w2 ⟨k, d2, rfl, H2, hn2, hk, hR3⟩
  simp only [gg, g0, qo]
  cases k with
  | zero =>
   have hk0 : ¬ (0 : Int) ≤ ((0 : Nat) : Int) - 1 := by omega
   simp only [hk0, decide_false, Eng.cond_false]
   unfold heapPop at hR3
   subst hR3
   exact h w2 H2
  | succ k =>
   have hk0 : (0 : Int) ≤ ((k + 1 : Nat) : Int) - 1 := by omega
   have hk1 : ((k + 1 : Nat) : Int) - 1 = (k : Int) := by omega
   simp only [hk0, decide_true, Eng.cond_true, hk1]
   unfold heapPop at hR3
   unfold M.ce.j5
   have wr : IntKind.i64.wrap ((a : Int) + (k : Int)) = ((a + k : Nat) : Int) := by rw [gm (by omega) (by omega)]; omega
   have a1 := H2.row.at (show a < d2.size by omega)
   have a2 := H2.row.at (show a + k < d2.size by omega)
   have b1 : (a : Int) < n := by omega
   have b2 : ((a + k : Nat) : Int) < n := by omega
   have f1 := H2.row.frz a
   have f2 := H2.row.frz (a + k)
   have hw4 : IntKind.i64.wrap ((k : Int) - 1) = (k : Int) - 1 := gm (by omega) (by omega)
   simp only [gg, so, wo, acb, g0, kh, kt, wr, hw4, true_and, and_true]
   simp [b1, b2, a1, a2, f1, f2, jo, ju, -Int.natCast_add]
   have H3 := (H2.dr 1).swp (i := a) (j := a + k) (by omega) (by omega)
   rw [M.bo.fcall]
   refine avt (lo := 0) H3.row (by rw [size_swp]; exact hn2) h6 (by omega) (by omega) fun w4 H4 => ?_
   refine ⟨⟨k, _, rfl, H3.trans H4, by rw [xp _ _ _ _ _ (Nat.le_refl _), size_swp]; exact hn2, by omega, hR3⟩, ?_⟩
   simp [mp, gv]
end Go.Proofs.YtfnhoaemapheoaaGreat.SG
set_option maxRecDepth 100000
namespace Go.Proofs.YtfnhoaemapheoaaGreat.SG
open Go.Eng Go.Sort
variable [SE]
section
variable {w : World} {g cap n : Nat} {e : TypeId} {d : Array Int}
def UpI (w : World) (g : Nat) (e : TypeId) (cap : Nat) (d : Array Int) (p : Int → Bool) (j r : Nat) : KL := fun x w1 => ∃ i : Nat, x = [.int .i64 (i : Int)] ∧ Rf w w1 g e cap d ∧ i ≤ j + 2 ∧ scanUp p d j i = r
def DnI (w : World) (g : Nat) (e : TypeId) (cap : Nat) (d : Array Int) (p : Int → Bool) (i n r : Nat) : KL := fun x w1 => ∃ j : Nat, x = [.int .i64 (j : Int)] ∧ Rf w w1 g e cap d ∧ j < n ∧ scanDown p d i j = r
theorem amj {p : Int → Bool} {i j : Nat} (H : Rw w g e cap d) (hi : i ≤ j + 2) {K0 : KL} {body : KL → KL → KL}
  (hB : ∀ (k : Nat) w1 (Kn : KL), k ≤ j + 2 → Rf w w1 g e cap d → ((k ≤ j ∧ p d[k]! = true) → ∀ w2, Rf w w2 g e cap d → Kn [.int .i64 ((k + 1 : Nat) : Int)] w2) → (¬ (k ≤ j ∧ p d[k]! = true) → ∀ w2, Rf w w2 g e cap d → K0 [.int .i64 (k : Int)] w2) → body K0 Kn [.int .i64 (k : Int)] w1)
  (h : ∀ w', Rf w w' g e cap d → K0 [.int .i64 (scanUp p d j i : Nat)] w') : gc (fun K0 => ir [.int .i64 (i : Int)] w (body K0)) K0 := by
 rw [gg]
 generalize hr : scanUp p d j i = r at *
 refine ⟨UpI w g e cap d p j r, fun x _ => j + 2 - ms x 0, ⟨i, rfl, H.we, hi, hr⟩, ?_⟩
 clear hr
 rintro x w1 ⟨k, rfl, H1, hk, hR⟩
 unfold scanUp at hR
 refine hB k w1 _ hk H1 (fun hc w2 H2 => ?_) fun hc w2 H2 => ?_
 ·rw [if_pos (by simpa using hc)] at hR
  refine ⟨⟨k + 1, rfl, H2, by omega, hR⟩, ?_⟩
  simp [ms, gv]; omega
 ·rw [if_neg (by simpa using hc)] at hR
  rw [← hR] at h
  exact h w2 H2
theorem afy {p : Int → Bool} {i j : Nat} (H : Rw w g e cap d) (hj : j < n) (hi : 1 ≤ i) {K0 : KL} {body : KL → KL → KL}
  (hB : ∀ (k : Nat) w1 (Kn : KL), k < n → Rf w w1 g e cap d → ((i ≤ k ∧ p d[k]! = true) → ∀ w2, Rf w w2 g e cap d → Kn [.int .i64 ((k - 1 : Nat) : Int)] w2) → (¬ (i ≤ k ∧ p d[k]! = true) → ∀ w2, Rf w w2 g e cap d → K0 [.int .i64 (k : Int)] w2) → body K0 Kn [.int .i64 (k : Int)] w1)
  (h : ∀ w', Rf w w' g e cap d → K0 [.int .i64 (scanDown p d i j : Nat)] w') : gc (fun K0 => ir [.int .i64 (j : Int)] w (body K0)) K0 := by
 rw [gg]
 generalize hr : scanDown p d i j = r at *
 refine ⟨DnI w g e cap d p i n r, fun x _ => ms x 0, ⟨j, rfl, H.we, hj, hr⟩, ?_⟩
 clear hr
 rintro x w1 ⟨k, rfl, H1, hk, hR⟩
 refine hB k w1 _ hk H1 (fun hc w2 H2 => ?_) fun hc w2 H2 => ?_
 ·cases k with
  | zero => omega
  | succ k =>
   unfold scanDown at hR
   rw [if_pos (by simpa using hc)] at hR
   refine ⟨⟨k, rfl, H2, by omega, hR⟩, ?_⟩
   simp [ms, gv]
 ·have : scanDown p d i k = k := by
   cases k with
   | zero => rfl
   | succ k => unfold scanDown; rw [if_neg (by simpa using hc)]
  rw [this] at hR
  rw [← hR] at h
  exact h w2 H2
omit [SE] in
theorem ahe (p : Int → Bool) (d : Array Int) (j i : Nat) : scanUp p d j i ≤ max i (j + 1) := by
 by_cases h : i ≤ j + 1
 ·have := (scanUp_spec p d j _ i rfl).2.1 h
  omega
 ·unfold scanUp
  rw [if_neg (by simp; omega)]
  omega
omit [SE] in
theorem g0 (u : Value) : gv [u] 0 = u := rfl
omit [SE] in
theorem g20 (u v : Value) : gv [u, v] 0 = u := rfl
omit [SE] in
theorem g21 (u v : Value) : gv [u, v] 1 = v := rfl
theorem bid {w0 w1 : World} {a k j : Nat} {K0 Kn : KL} {K : KV} (H1 : Rf w0 w1 g e cap d) (hn : d.size = n) (h6 : n < 100000) (ha : a < n) (hj : j < n) (hk : k ≤ j + 2)
  (k1 : (k ≤ j ∧ ltInt d[k]! d[a]! = true) → ∀ w2, Rf w0 w2 g e cap d → Kn [.int .i64 ((k + 1 : Nat) : Int)] w2) (k2 : ¬ (k ≤ j ∧ ltInt d[k]! d[a]! = true) → ∀ w2, Rf w0 w2 g e cap d → K0 [.int .i64 (k : Int)] w2) :
  M.ao.j1 [.int .i64 (k : Int)] (.int .i64 (j : Int)) (.slice (some ⟨g, 0, none⟩) n cap) (.int .i64 (a : Int)) K0 Kn w1 K := by
 unfold M.ao.j1
 by_cases hkj : k ≤ j
 ·have a1 := H1.row.at (show k < d.size by omega)
  have a2 := H1.row.at (show a < d.size by omega)
  have b1 : (k : Int) < n := by omega
  have b2 : (a : Int) < n := by omega
  have b3 : (k : Int) ≤ j := by omega
  simp [g0, g21, b1, b2, b3, a1, a2]
  refine rj _ _ ?_
  cases hl : ltInt d[k]! d[a]! with
  | true =>
   simp [pz (show k < 1000000 by omega)]
   have := k1 ⟨hkj, hl⟩ _ (H1.dr 1)
   simpa using this
  | false =>
   simp [pz (show k < 1000000 by omega)]
   have := k2 (fun h => by simp [hl] at h) _ (H1.dr 1)
   simpa using this
 ·have b3 : ¬ (k : Int) ≤ j := by omega
  simp [g0, g21, b3]
  have := k2 (fun h => hkj h.1) _ (H1.dr 1)
  simpa using this
theorem bhn {w0 w1 : World} {a k i : Nat} {K0 Kn : KL} {K : KV} (H1 : Rf w0 w1 g e cap d) (hn : d.size = n) (h6 : n < 100000) (hai : a < n ∧ 1 ≤ i) (hk : k < n)
  (k1 : (i ≤ k ∧ (!ltInt d[k]! d[a]!) = true) → ∀ w2, Rf w0 w2 g e cap d → Kn [.int .i64 ((k - 1 : Nat) : Int)] w2) (k2 : ¬ (i ≤ k ∧ (!ltInt d[k]! d[a]!) = true) → ∀ w2, Rf w0 w2 g e cap d → K0 [.int .i64 (k : Int)] w2) :
  M.ao.j4 [.int .i64 (i : Int)] [.int .i64 (k : Int)] (.slice (some ⟨g, 0, none⟩) n cap) (.int .i64 (a : Int)) K0 Kn w1 K := by
 unfold M.ao.j4
 by_cases hik : i ≤ k
 ·have a1 := H1.row.at (show k < d.size by omega)
  have a2 := H1.row.at (show a < d.size by omega)
  have b1 : (k : Int) < n := by omega
  have b2 : (a : Int) < n := by omega
  have b3 : (i : Int) ≤ k := by omega
  have hw : IntKind.i64.wrap ((k : Int) - 1) = ((k - 1 : Nat) : Int) := by rw [gm (by omega) (by omega)]; omega
  simp [g0, b1, b2, b3, a1, a2]
  refine rj _ _ ?_
  cases hl : ltInt d[k]! d[a]! with
  | true =>
   simp [hw]
   have := k2 (fun h => by simp [hl] at h) _ (H1.dr 1)
   simpa using this
  | false =>
   simp [hw]
   have := k1 ⟨hik, by simp [hl]⟩ _ (H1.dr 1)
   simpa using this
 ·have b3 : ¬ (i : Int) ≤ k := by omega
  simp [g0, b3]
  have := k2 (fun h => hik h.1) _ (H1.dr 1)
  simpa using this
theorem bfa {w0 w1 : World} {vi : Value} {a k j : Nat} {K0 Kn : KL} {K : KV} (H1 : Rf w0 w1 g e cap d) (hn : d.size = n) (h6 : n < 100000) (ha : a < n) (hj : j < n) (hk : k ≤ j + 2)
  (k1 : (k ≤ j ∧ ltInt d[k]! d[a]! = true) → ∀ w2, Rf w0 w2 g e cap d → Kn [.int .i64 ((k + 1 : Nat) : Int)] w2) (k2 : ¬ (k ≤ j ∧ ltInt d[k]! d[a]! = true) → ∀ w2, Rf w0 w2 g e cap d → K0 [.int .i64 (k : Int)] w2) :
  M.ao.j10 [.int .i64 (k : Int)] [vi, .int .i64 (j : Int)] (.slice (some ⟨g, 0, none⟩) n cap) (.int .i64 (a : Int)) K0 Kn w1 K := by
 unfold M.ao.j10
 by_cases hkj : k ≤ j
 ·have a1 := H1.row.at (show k < d.size by omega)
  have a2 := H1.row.at (show a < d.size by omega)
  have b1 : (k : Int) < n := by omega
  have b2 : (a : Int) < n := by omega
  have b3 : (k : Int) ≤ j := by omega
  simp [g0, g21, b1, b2, b3, a1, a2]
  refine rj _ _ ?_
  cases hl : ltInt d[k]! d[a]! with
  | true =>
   simp [pz (show k < 1000000 by omega)]
   have := k1 ⟨hkj, hl⟩ _ (H1.dr 1)
   simpa using this
  | false =>
   simp [pz (show k < 1000000 by omega)]
   have := k2 (fun h => by simp [hl] at h) _ (H1.dr 1)
   simpa using this
 ·have b3 : ¬ (k : Int) ≤ j := by omega
  simp [g0, g21, b3]
  have := k2 (fun h => hkj h.1) _ (H1.dr 1)
  simpa using this
theorem bck {w0 w1 : World} {a k i : Nat} {K0 Kn : KL} {K : KV} (H1 : Rf w0 w1 g e cap d) (hn : d.size = n) (h6 : n < 100000) (hai : a < n ∧ 1 ≤ i) (hk : k < n)
  (k1 : (i ≤ k ∧ (!ltInt d[k]! d[a]!) = true) → ∀ w2, Rf w0 w2 g e cap d → Kn [.int .i64 ((k - 1 : Nat) : Int)] w2) (k2 : ¬ (i ≤ k ∧ (!ltInt d[k]! d[a]!) = true) → ∀ w2, Rf w0 w2 g e cap d → K0 [.int .i64 (k : Int)] w2) :
  M.ao.j13 [.int .i64 (i : Int)] [.int .i64 (k : Int)] (.slice (some ⟨g, 0, none⟩) n cap) (.int .i64 (a : Int)) K0 Kn w1 K := by
 unfold M.ao.j13
 by_cases hik : i ≤ k
 ·have a1 := H1.row.at (show k < d.size by omega)
  have a2 := H1.row.at (show a < d.size by omega)
  have b1 : (k : Int) < n := by omega
  have b2 : (a : Int) < n := by omega
  have b3 : (i : Int) ≤ k := by omega
  have hw : IntKind.i64.wrap ((k : Int) - 1) = ((k - 1 : Nat) : Int) := by rw [gm (by omega) (by omega)]; omega
  simp [g0, b1, b2, b3, a1, a2]
  refine rj _ _ ?_
  cases hl : ltInt d[k]! d[a]! with
  | true =>
   simp [hw]
   have := k2 (fun h => by simp [hl] at h) _ (H1.dr 1)
   simpa using this
  | false =>
   simp [hw]
   have := k1 ⟨hik, by simp [hl]⟩ _ (H1.dr 1)
   simpa using this
 ·have b3 : ¬ (i : Int) ≤ k := by omega
  simp [g0, b3]
  have := k2 (fun h => hik h.1) _ (H1.dr 1)
  simpa using this
theorem bis {w0 w1 : World} {vi : Value} {a k j : Nat} {K0 Kn : KL} {K : KV} (H1 : Rf w0 w1 g e cap d) (hn : d.size = n) (h6 : n < 100000) (ha : a < n) (hj : j < n) (hk : k ≤ j + 2)
  (k1 : (k ≤ j ∧ (!ltInt d[a]! d[k]!) = true) → ∀ w2, Rf w0 w2 g e cap d → Kn [.int .i64 ((k + 1 : Nat) : Int)] w2) (k2 : ¬ (k ≤ j ∧ (!ltInt d[a]! d[k]!) = true) → ∀ w2, Rf w0 w2 g e cap d → K0 [.int .i64 (k : Int)] w2) :
  M.ch.j3 [.int .i64 (k : Int)] [vi, .int .i64 (j : Int)] (.slice (some ⟨g, 0, none⟩) n cap) (.int .i64 (a : Int)) K0 Kn w1 K := by
 unfold M.ch.j3
 by_cases hkj : k ≤ j
 ·have a1 := H1.row.at (show k < d.size by omega)
  have a2 := H1.row.at (show a < d.size by omega)
  have b1 : (k : Int) < n := by omega
  have b2 : (a : Int) < n := by omega
  have b3 : (k : Int) ≤ j := by omega
  simp [g0, g21, b1, b2, b3, a1, a2]
  refine rj _ _ ?_
  cases hl : ltInt d[a]! d[k]! with
  | true =>
   simp [pz (show k < 1000000 by omega)]
   have := k2 (fun h => by simp [hl] at h) _ (H1.dr 1)
   simpa using this
  | false =>
   simp [pz (show k < 1000000 by omega)]
   have := k1 ⟨hkj, by simp [hl]⟩ _ (H1.dr 1)
   simpa using this
 ·have b3 : ¬ (k : Int) ≤ j := by omega
  simp [g0, g21, b3]
  have := k2 (fun h => hkj h.1) _ (H1.dr 1)
  simpa using this
theorem bik {w0 w1 : World} {a k i : Nat} {K0 Kn : KL} {K : KV} (H1 : Rf w0 w1 g e cap d) (hn : d.size = n) (h6 : n < 100000) (hai : a < n ∧ 1 ≤ i) (hk : k < n)
  (k1 : (i ≤ k ∧ ltInt d[a]! d[k]! = true) → ∀ w2, Rf w0 w2 g e cap d → Kn [.int .i64 ((k - 1 : Nat) : Int)] w2) (k2 : ¬ (i ≤ k ∧ ltInt d[a]! d[k]! = true) → ∀ w2, Rf w0 w2 g e cap d → K0 [.int .i64 (k : Int)] w2) :
  M.ch.j6 [.int .i64 (i : Int)] [.int .i64 (k : Int)] (.slice (some ⟨g, 0, none⟩) n cap) (.int .i64 (a : Int)) K0 Kn w1 K := by
 unfold M.ch.j6
 by_cases hik : i ≤ k
 ·have a1 := H1.row.at (show k < d.size by omega)
  have a2 := H1.row.at (show a < d.size by omega)
  have b1 : (k : Int) < n := by omega
  have b2 : (a : Int) < n := by omega
  have b3 : (i : Int) ≤ k := by omega
  have hw : IntKind.i64.wrap ((k : Int) - 1) = ((k - 1 : Nat) : Int) := by rw [gm (by omega) (by omega)]; omega
  simp [g0, b1, b2, b3, a1, a2]
  refine rj _ _ ?_
  cases hl : ltInt d[a]! d[k]! with
  | true =>
   simp [hw]
   have := k1 ⟨hik, hl⟩ _ (H1.dr 1)
   simpa using this
  | false =>
   simp [hw]
   have := k2 (fun h => by simp [hl] at h) _ (H1.dr 1)
   simpa using this
 ·have b3 : ¬ (i : Int) ≤ k := by omega
  simp [g0, b3]
  have := k2 (fun h => hik h.1) _ (H1.dr 1)
  simpa using this
end
def PlI (w : World) (g : Nat) (e : TypeId) (cap n a b : Nat) (R : Nat × Array Int) : KL := fun x w1 => ∃ (i j : Nat) (d : Array Int), x = [.int .i64 (i : Int), .int .i64 (j : Int)] ∧ Rf w w1 g e cap d ∧ d.size = n ∧ a < i ∧ i ≤ j + 2 ∧ j < b ∧ partLoop ltInt a i j d = R
theorem asv {w : World} {g cap n : Nat} {e : TypeId} {d : Array Int} (H : Rw w g e cap d) (hn : d.size = n) (h6 : n < 100000) {a b pv : Nat} (hb : b ≤ n) (ha : a ≤ pv) (hp : pv < b) {K : KV}
  (h : ∀ w', Rf w w' g e cap (partition ltInt d a b pv).2.2 → K (.tuple #[.int .i64 ((partition ltInt d a b pv).1 : Nat), .bool (partition ltInt d a b pv).2.1]) w') :
  jr P F.fm [.slice (some ⟨g, 0, none⟩) n cap, .int .i64 a, .int .i64 b, .int .i64 pv] w K := by
 apply M.ao.calls
 unfold M.ao
 have a1 := H.at (show a < d.size by omega)
 have a2 := H.at (show pv < d.size by omega)
 have b1 : (a : Int) < n := by omega
 have b2 : (pv : Int) < n := by omega
 have f1 := H.frz a
 have f2 := H.frz pv
 have hw1 : IntKind.i64.wrap ((a : Int) + 1) = ((a + 1 : Nat) : Int) := pz (by omega)
 have hw2 : IntKind.i64.wrap ((b : Int) - 1) = ((b - 1 : Nat) : Int) := by rw [gm (by omega) (by omega)]; omega
 simp [b1, b2, a1, a2, f1, f2, jo, ju, hw1, hw2, -Int.natCast_add, -gg]
 have H1 := (H.we.dr 1).swp (i := a) (j := pv) (by omega) (by omega)
 generalize ((dr w 1).setCell ⟨g, a, none⟩ (.int SD.k d[pv]!)).setCell ⟨g, pv, none⟩ (.int SD.k d[a]!) = w1 at *
 clear a1 a2 f1 f2
 unfold partition at h
 have hn1 : (Sort.swp d a pv).size = n := by rw [size_swp]; exact hn
 generalize Sort.swp d a pv = d1 at *
 try simp only at h
 refine amj (p := fun x => ltInt x d1[a]!) (i := a + 1) (j := b - 1) H1.row (by omega) (fun k w2 Kn hk H2 k1 k2 => by refine bid H2 hn1 h6 (by omega) (by omega) hk ?_ ?_ <;> first | exact k1 | exact k2) fun w2 H2 => ?_
 have hge := scanUp_ge (fun x => ltInt x d1[a]!) d1 (b - 1) (a + 1)
 have hle := ahe (fun x => ltInt x d1[a]!) d1 (b - 1) (a + 1)
 generalize scanUp (fun x => ltInt x d1[a]!) d1 (b - 1) (a + 1) = i at *
 refine afy (n := n) (p := fun x => !ltInt x d1[a]!) H2.row (by omega) (i := i) (j := b - 1) (by omega) (fun k w3 Kn hk H3 k1 k2 => by refine bhn H3 hn1 h6 (by omega) hk ?_ ?_ <;> first | exact k1 | exact k2) fun w3 H3 => ?_
 have hdl := scanDown_le (fun x => !ltInt x d1[a]!) d1 i (b - 1)
 generalize scanDown (fun x => !ltInt x d1[a]!) d1 i (b - 1) = j at *
 have H3' := H1.trans (H2.trans H3)
 unfold M.ao.j3
 have c1 := H3.row.at (show a < d1.size by omega)
 have c2 := H3.row.at (show j < d1.size by omega)
 have e1 : (j : Int) < n := by omega
 have f1 := H3.row.frz a
 have f2 := H3.row.frz j
 simp only [gg, g0]
 by_cases hij : i > j
 ·have hij' : (j : Int) < i := by omega
  rw [if_pos hij] at h
  simp [hij', b1, e1, c1, c2, f1, f2, jo, ju, -Int.natCast_add]
  exact h _ ((H3'.dr 1).swp (by omega) (by omega))
 ·have hij' : ¬ (j : Int) < i := by omega
  rw [if_neg hij] at h
  simp only [qp, hij', decide_false, Eng.cond_false]
  unfold M.ao.j6
  have c3 := H3.row.at (show i < d1.size by omega)
  have e2 : (i : Int) < n := by omega
  have f3 := H3.row.frz i
  have hw3 : IntKind.i64.wrap ((i : Int) + 1) = ((i + 1 : Nat) : Int) := pz (by omega)
  have hw4 : IntKind.i64.wrap ((j : Int) - 1) = ((j - 1 : Nat) : Int) := by rw [gm (by omega) (by omega)]; omega
  simp [g0, e1, e2, c2, c3, f2, f3, jo, ju, hw3, hw4, -Int.natCast_add, -gg]
  rw [gg]
  have H4 := (H3'.dr 1).swp (i := i) (j := j) (by omega) (by omega)
  generalize ((dr w3 1).setCell ⟨g, i, none⟩ (.int SD.k d1[j]!)).setCell ⟨g, j, none⟩ (.int SD.k d1[i]!) = w4 at *
  have hn2 : (Sort.swp d1 i j).size = n := by rw [size_swp]; exact hn1
  generalize Sort.swp d1 i j = d2 at *
  generalize hr : partLoop ltInt a (i + 1) (j - 1) d2 = r at *
  refine ⟨PlI w g e cap n a b r, fun x _ => ms x 1 + 2 - ms x 0, ⟨i + 1, j - 1, d2, rfl, H4, hn2, by omega, by omega, by omega, hr⟩, ?_⟩
  rintro x w5 ⟨i5, j5, d5, rfl, H5, hn5, ha5, hij5, hj5, hR⟩
  rw [partLoop_eq] at hR
  refine amj (p := fun x => ltInt x d5[a]!) (i := i5) (j := j5) H5.row hij5 (fun k w6 Kn hk H6 k1 k2 => by refine bfa H6 hn5 h6 (by omega) (by omega) hk ?_ ?_ <;> first | exact k1 | exact k2) fun w6 H6 => ?_
  have hge := scanUp_ge (fun x => ltInt x d5[a]!) d5 j5 i5
  have hle := ahe (fun x => ltInt x d5[a]!) d5 j5 i5
  generalize scanUp (fun x => ltInt x d5[a]!) d5 j5 i5 = i6 at *
  unfold M.ao.j9
  simp only [g21]
  refine afy (n := n) (p := fun x => !ltInt x d5[a]!) H6.row (by omega) (i := i6) (j := j5) (by omega) (fun k w7 Kn hk H7 k1 k2 => by refine bck H7 hn5 h6 (by omega) hk ?_ ?_ <;> first | exact k1 | exact k2) fun w7 H7 => ?_
  have hdl := scanDown_le (fun x => !ltInt x d5[a]!) d5 i6 j5
  generalize scanDown (fun x => !ltInt x d5[a]!) d5 i6 j5 = j6 at *
  have H7' := H5.trans (H6.trans H7)
  try simp only at hR
  simp only [g0, gg]
  by_cases hgt : i6 > j6
  ·have hgt' : (j6 : Int) < i6 := by omega
   rw [if_pos hgt] at hR
   simp only [qp, hgt', decide_true, Eng.cond_true]
   unfold M.ao.j7
   have c1 := H7.row.at (show a < d5.size by omega)
   have c2 := H7.row.at (show j6 < d5.size by omega)
   have e1 : (j6 : Int) < n := by omega
   have f1 := H7.row.frz a
   have f2 := H7.row.frz j6
   simp [g21, b1, e1, c1, c2, f1, f2, jo, ju, -Int.natCast_add]
   subst hR
   exact h _ ((H7'.dr 1).swp (by omega) (by omega))
  ·have hgt' : ¬ (j6 : Int) < i6 := by omega
   rw [if_neg hgt] at hR
   simp only [qp, hgt', decide_false, Eng.cond_false]
   unfold M.ao.j15
   have c1 := H7.row.at (show i6 < d5.size by omega)
   have c2 := H7.row.at (show j6 < d5.size by omega)
   have e1 : (j6 : Int) < n := by omega
   have e2 : (i6 : Int) < n := by omega
   have f1 := H7.row.frz i6
   have f2 := H7.row.frz j6
   have hw3 : IntKind.i64.wrap ((i6 : Int) + 1) = ((i6 + 1 : Nat) : Int) := pz (by omega)
   have hw4 : IntKind.i64.wrap ((j6 : Int) - 1) = ((j6 - 1 : Nat) : Int) := by rw [gm (by omega) (by omega)]; omega
   simp [g0, e1, e2, c1, c2, f1, f2, jo, ju, hw3, hw4, -Int.natCast_add]
   refine ⟨⟨i6 + 1, j6 - 1, _, rfl, (H7'.dr 1).swp (by omega) (by omega), by rw [size_swp]; exact hn5, by omega, by omega, by omega, hR⟩, ?_⟩
   simp [ms, gv]; omega
def PeI (w : World) (g : Nat) (e : TypeId) (cap n a b : Nat) (R : Nat × Array Int) : KL := fun x w1 => ∃ (i j : Nat) (d : Array Int), x = [.int .i64 (i : Int), .int .i64 (j : Int)] ∧ Rf w w1 g e cap d ∧ d.size = n ∧ a < i ∧ i ≤ j + 2 ∧ j < b ∧ partEqLoop ltInt a i j d = R
theorem aia {w : World} {g cap n : Nat} {e : TypeId} {d : Array Int} (H : Rw w g e cap d) (hn : d.size = n) (h6 : n < 100000) {a b pv : Nat} (hb : b ≤ n) (ha : a ≤ pv) (hp : pv < b) {K : KV}
  (h : ∀ w', Rf w w' g e cap (partitionEqual ltInt d a b pv).2 → K (.int .i64 ((partitionEqual ltInt d a b pv).1 : Nat)) w') :
  jr P F.fq [.slice (some ⟨g, 0, none⟩) n cap, .int .i64 a, .int .i64 b, .int .i64 pv] w K := by
 apply M.ch.calls
 unfold M.ch
 have a1 := H.at (show a < d.size by omega)
 have a2 := H.at (show pv < d.size by omega)
 have b1 : (a : Int) < n := by omega
 have b2 : (pv : Int) < n := by omega
 have f1 := H.frz a
 have f2 := H.frz pv
 have hw1 : IntKind.i64.wrap ((a : Int) + 1) = ((a + 1 : Nat) : Int) := pz (by omega)
 have hw2 : IntKind.i64.wrap ((b : Int) - 1) = ((b - 1 : Nat) : Int) := by rw [gm (by omega) (by omega)]; omega
 simp [b1, b2, a1, a2, f1, f2, jo, ju, hw1, hw2, -Int.natCast_add, -gg]
 have H1 := (H.we.dr 1).swp (i := a) (j := pv) (by omega) (by omega)
 generalize ((dr w 1).setCell ⟨g, a, none⟩ (.int SD.k d[pv]!)).setCell ⟨g, pv, none⟩ (.int SD.k d[a]!) = w1 at *
 clear a1 a2 f1 f2
 unfold partitionEqual at h
 have hn1 : (Sort.swp d a pv).size = n := by rw [size_swp]; exact hn
 generalize Sort.swp d a pv = d1 at *
 generalize hr : partEqLoop ltInt a (a + 1) (b - 1) d1 = r at *
 rw [gg]
 refine ⟨PeI w g e cap n a b r, fun x _ => ms x 1 + 2 - ms x 0, ⟨a + 1, b - 1, d1, rfl, H1, hn1, by omega, by omega, by omega, hr⟩, ?_⟩
 rintro x w5 ⟨i5, j5, d5, rfl, H5, hn5, ha5, hij5, hj5, hR⟩
 rw [partEqLoop_eq] at hR
 simp only [g20]
 refine amj (p := fun x => !ltInt d5[a]! x) (i := i5) (j := j5) H5.row hij5 (fun k w6 Kn hk H6 k1 k2 => by refine bis H6 hn5 h6 (by omega) (by omega) hk ?_ ?_ <;> first | exact k1 | exact k2) fun w6 H6 => ?_
 have hge := scanUp_ge (fun x => !ltInt d5[a]! x) d5 j5 i5
 have hle := ahe (fun x => !ltInt d5[a]! x) d5 j5 i5
 generalize scanUp (fun x => !ltInt d5[a]! x) d5 j5 i5 = i6 at *
 unfold M.ch.j2
 simp only [g21]
 refine afy (n := n) (p := fun x => ltInt d5[a]! x) H6.row (by omega) (i := i6) (j := j5) (by omega) (fun k w7 Kn hk H7 k1 k2 => by refine bik H7 hn5 h6 (by omega) hk ?_ ?_ <;> first | exact k1 | exact k2) fun w7 H7 => ?_
 have hdl := scanDown_le (fun x => ltInt d5[a]! x) d5 i6 j5
 generalize scanDown (fun x => ltInt d5[a]! x) d5 i6 j5 = j6 at *
 have H7' := H5.trans (H6.trans H7)
 try simp only at hR
 simp only [g0, gg]
 by_cases hgt : i6 > j6
 ·have hgt' : (j6 : Int) < i6 := by omega
  rw [if_pos hgt] at hR
  simp only [qp, hgt', decide_true, Eng.cond_true, g20]
  subst hR
  exact h _ H7'
 ·have hgt' : ¬ (j6 : Int) < i6 := by omega
  rw [if_neg hgt] at hR
  simp only [qp, hgt', decide_false, Eng.cond_false]
  unfold M.ch.j8
  have c1 := H7.row.at (show i6 < d5.size by omega)
  have c2 := H7.row.at (show j6 < d5.size by omega)
  have e1 : (j6 : Int) < n := by omega
  have e2 : (i6 : Int) < n := by omega
  have f1 := H7.row.frz i6
  have f2 := H7.row.frz j6
  have hw3 : IntKind.i64.wrap ((i6 : Int) + 1) = ((i6 + 1 : Nat) : Int) := pz (by omega)
  have hw4 : IntKind.i64.wrap ((j6 : Int) - 1) = ((j6 - 1 : Nat) : Int) := by rw [gm (by omega) (by omega)]; omega
  simp [g0, e1, e2, c1, c2, f1, f2, jo, ju, hw3, hw4, -Int.natCast_add]
  refine ⟨⟨i6 + 1, j6 - 1, _, rfl, (H7'.dr 1).swp (by omega) (by omega), by rw [size_swp]; exact hn5, by omega, by omega, by omega, hR⟩, ?_⟩
  simp [ms, gv]; omega
end Go.Proofs.YtfnhoaemapheoaaGreat.SG
