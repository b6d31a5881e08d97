/-
  Names of spans: which are right. No condition.
-/
import Derived.Test.YtfnhoaemapheoaaGreatM
import Derived.Test.YtfnhoaemapheoaaGreatFacts
import Derived.Test.YtfnhoaemapheoaaGreatZEngSl
import Derived.Test.YtfnhoaemapheoaaGreatRows
import Derived.Laws.StructEq
import Derived.Test.YtfnhoaemapheoaaGreatZMs0
import Derived.Sort.AssemblyPlain
set_option maxRecDepth 100000
namespace Go.Proofs.YtfnhoaemapheoaaGreat
open Go.Eng
@[simp] theorem ato : aau P T.ap = true := .trans (by kernel_rfl) rfl
@[simp] theorem bqe (ty : TypeId) (cs : List Bool) (s : ByteArray) (w : World) (K : KV) : biT P .len #[T.ap] ty cs [.string s] w K = K (.int .i64 s.size) w := bbn ato cs s w K
theorem aof (s : ByteArray) : s.toList.isEmpty = decide (s.size = 0) := by
 have h : s.size = s.data.toList.length := Array.length_toList.symm
 rw [ByteArray.toList_eq, h]
 cases s.data.toList <;> simp
def acg (s p : ByteArray) : Bool := decide (p.size ≤ s.size) && ((s.extract 0 p.size).toList == p.toList)
theorem aqe {w : World} (s p : ByteArray) {K : KV} (h : K (.bool (acg s p)) w) : ij P F.cp [.string s, .string p] w K := by
 apply M.cv.calls
 unfold M.cv
 rw [M.bf.fcall]
 apply M.bf.calls
 unfold M.bf
 unfold acg at h
 by_cases hl : p.size ≤ s.size
 ·have hl' : (p.size : Int) ≤ s.size := by omega
  have hsl : ∀ K, slT P T.ap (.string s) none (some (.int .i64 (p.size : Int))) none w K = K (.string (s.extract 0 p.size)) w := fun K => avq ato (.inl ⟨rfl, rfl⟩) (.inr ⟨_, rfl⟩) (Nat.zero_le _) hl w K
  simp [hl, hsl, adx] at h ⊢
  exact h
 ·have hl' : ¬ (p.size : Int) ≤ s.size := by omega
  simp [hl] at h ⊢
  exact h
def akb : ByteArray := ⟨#[239, 191, 189]⟩
def acl (s : ByteArray) (i : Nat) : Bool := decide ((Utf8.decode s i).1 < 32) || ((decide (127 ≤ (Utf8.decode s i).1) && decide ((Utf8.decode s i).1 ≤ 159)) || (decide ((Utf8.decode s i).1 = 65533) && !acg (s.extract i s.size) akb))
def uo (s : ByteArray) (i : Nat) : Bool :=
 if h : i < s.size then !acl s i && uo s (i + (Utf8.decode s i).2) else true
termination_by s.size - i
decreasing_by have := afb s i; omega
def abn (s : ByteArray) : Int := if s.size = 0 ∨ 32 < s.size then 5 else if uo s 0 = true then 0 else 5
def atx (w : World) (s : ByteArray) : KL := fun x w1 => ∃ (pos : Nat), w1.heap[w.heap.size]? = some (.stringIter s pos) ∧ Fr (fun _ => False) w w1 ∧ uo s pos = uo s 0
def agm (s : ByteArray) (it : Nat) (w : World) : Nat := match w.heap[it]? with
 | some (.stringIter _ pos) => s.size - pos
 | _ => 0
theorem ark {w : World} (s : ByteArray) {K : KV} (h : ∀ w', Fr (fun _ => False) w w' → K (.int .i64 (abn s)) w') : ij P F.ds [.string s] w K := by
 apply M.bz.calls
 unfold M.bz
 simp only [fh]
 have hemp : s.toList.isEmpty = decide (s.size = 0) := aof s
 unfold abn at h
 by_cases h0 : s.size = 0
 ·simp [adx, hemp, h0] at h ⊢
  exact h w (Fr.refl _ _)
 ·by_cases h1 : 32 < s.size
  ·have h1' : (32 : Int) < s.size := by omega
   simp [adx, hemp, h0, h1, h1'] at h ⊢
   exact h w (Fr.refl _ _)
  ·have h1' : ¬ (32 : Int) < s.size := by omega
   simp [adx, hemp, h0, h1, h1'] at h ⊢
   unfold M.bz.j0
   simp only [fh]
   rw [bec (xz ato)]
   refine ⟨atx w s, fun _ w1 => agm s w.heap.size w1, ⟨0, by rw [fx, if_pos rfl], (Fr.refl _ w).alloc _, rfl⟩, ?_⟩
   rintro x w1 ⟨pos, hit, hf, hp⟩
   refine bdv hit _ (fun he => ?_) fun hlt w2 hit2 hf2 => ?_
   ·have hr : uo s 0 = true := by rw [← hp]; unfold uo; rw [dif_neg he]
    have e0 : ∀ w K, exT P (.tuple #[.bool false]) 0 w K = K (.bool false) w := fun _ _ => rfl
    simp [e0]
    have := h w1 hf
    simpa [hr] using this
   ·simp
    unfold M.bz.j3
    simp
    have hr : uo s pos = (!acl s pos && uo s (pos + (Utf8.decode s pos).2)) := by
     conv => lhs; unfold uo
     rw [dif_pos hlt]
    have F2 : Fr (fun _ => False) w w2 := hf.kg hf2 fun g hg h' => by omega
    have hbad : acl s pos = true → K (.int .i64 5) w2 := fun hb => by
     rw [hb, hp] at hr
     have := h w2 F2
     simpa [hr] using this
    have hgood : acl s pos = false → ∀ xs, atx w s xs w2 ∧ agm s w.heap.size w2 < agm s w.heap.size w1 := fun hb xs => by
     rw [hb, hp] at hr
     refine ⟨⟨_, hit2, F2, by rw [hr]; rfl⟩, ?_⟩
     have := afb s pos
     simp only [agm, hit, hit2]; omega
    unfold acl at hbad hgood
    generalize hc : (Utf8.decode s pos).1 = c at *
    clear hc
    have hsl : ∀ K, slT P T.ap (.string s) (some (.int .i64 (pos : Int))) none none w2 K = K (.string (s.extract pos s.size)) w2 := fun K => avq ato (.inr ⟨_, rfl⟩) (.inl ⟨rfl, rfl⟩) (by omega) (Nat.le_refl _) w2 K
    have j4 : ∀ (b : Bool) (t14 : Value), b = (decide (c < 32) || (decide (127 ≤ c) && decide (c ≤ 159))) → M.bz.j4 [.bool b] (.int .i32 c) (.string s) (.int .i64 pos) (fun x' w' => atx w s x' w' ∧ agm s w.heap.size w' < agm s w.heap.size w1) t14 x w2 K := by
     intro b t14 hb
     unfold M.bz.j4
     cases b with
     | true => simp at hb ⊢; exact hbad (by simp; omega)
     | false =>
      by_cases he : c = 65533
      ·have he' : (c : Int) = 65533 := by omega
       simp [he', hsl]
       rw [M.cv.fcall]
       refine aqe _ _ ?_
       have hx : acg (s.extract pos s.size) ⟨#[239, 191, 189]⟩ = acg (s.extract pos s.size) akb := rfl
       rw [hx]
       cases hq : acg (s.extract pos s.size) akb with
       | true => simp; exact hgood (by simp [he, hq]) _
       | false => simp; exact hbad (by simp [he, hq])
      ·have he' : ¬ (c : Int) = 65533 := by omega
       simp [he']
       refine hgood ?_ _
       have : (decide (c < 32) || (decide (127 ≤ c) && decide (c ≤ 159))) = false := hb.symm
       simp [he] at this ⊢
       exact this
    by_cases h32 : c < 32
    ·have h32' : (c : Int) < 32 := by omega
     simp [h32']
     exact j4 true _ (by simp [h32])
    ·have h32' : ¬ (c : Int) < 32 := by omega
     by_cases h127 : 127 ≤ c
     ·have h127' : (127 : Int) ≤ c := by omega
      by_cases h159 : c ≤ 159
      ·have h159' : (c : Int) ≤ 159 := by omega
       simp [h32', h127', h159']
       exact j4 true _ (by simp [h32, h127, h159])
      ·have h159' : ¬ (c : Int) ≤ 159 := by omega
       simp [h32', h127', h159']
       exact j4 false _ (by simp [h32, h127, h159])
     ·have h127' : ¬ (127 : Int) ≤ c := by omega
      simp [h32', h127']
      exact j4 false _ (by simp [h32, h127])
set_option maxRecDepth 100000
structure Spn where
 ny : Int
 id : Int
 sm : Int
 jy : Int
 len : Int
 om : ByteArray
 name : ByteArray
 yu : Bool
def aaf (s : Spn) : List Value := [.int .u64 s.ny, .int .u64 s.id, .int .u64 s.sm, .int .u64 s.jy, .int .u64 s.len, .string s.om, .string s.name, .bool s.yu]
def xd (s : Spn) : Value := .agg #[.int .u64 s.ny, .int .u64 s.id, .int .u64 s.sm, .int .u64 s.jy, .int .u64 s.len, .string s.om, .string s.name, .bool s.yu]
theorem ano (s : Spn) : (aaf s).length = 8 := rfl
theorem aoz (s : Spn) : ∀ u ∈ aaf s, jf u = true := fun u hu => by
 simp only [aaf, List.mem_cons, List.not_mem_nil, or_false] at hu
 rcases hu with rfl | rfl | rfl | rfl | rfl | rfl | rfl | rfl <;> rfl
@[simp] theorem blr (t1 t2 ty : TypeId) (cs : List Bool) (k : IntKind) (x y : Int) (w : World) (K : KV) : biT P .max #[t1, t2] ty cs [.int k x, .int k y] w K = K (.int k (max x y)) w := by
 have : (if x < y then y else x) = max x y := by split <;> omega
 simp [biT, jr, builtin, Builtin.max_, Builtin.max2, Sem.run_bind, Result.andThen, Sem.run_pure, this]
def aaj (k : Int) : List Value := [.int .i64 k]
def orK (l : List Int) : Int := (l.find? fun k => !decide (k = 0)).getD 0
def OrI (w : World) (l : List Int) : KL := fun x w1 => ∃ (a b : Value) (i : Nat), x = [a, b, .int .i64 (i : Nat)] ∧ w1 = w ∧ i ≤ l.length ∧ ∀ (j : Nat) k, l[j]? = some k → j < i → k = 0
theorem bfp {w : World} {v : Value} {l : List Int} (hs : Sl w 1 aaj v l) (hlen : l.length ≤ 1000) {K : KV} (h : K (.int .i64 (orK l)) w) : ij P F.de [v] w K := by
 apply M.ci.calls
 unfold M.ci
 simp only [fh]
 rw [hs.ii (by simp)]
 refine ⟨OrI w l, fun x _ => l.length - ms x 2, ⟨_, _, 0, rfl, rfl, Nat.zero_le _, fun j k _ h => by omega⟩, ?_⟩
 rintro x w1 ⟨a, b, i, rfl, rfl, hi, hz⟩
 have gv2 : gv [a, b, .int .i64 (i : Int)] 2 = .int .i64 (i : Int) := rfl
 simp only [gv2]
 by_cases hil : i < l.length
 ·obtain ⟨bb, o, cap, rfl, hb, _, hr⟩ := hs.at hil
  have e0 := hr 0 _ rfl
  simp only [Nat.mul_one, Nat.add_zero] at e0
  have hw : IntKind.i64.wrap ((i : Int) + 1) = ((i + 1 : Nat) : Int) := by rw [fj (by omega) (by omega)]; rfl
  simp [hil]
  unfold M.ci.j2
  simp only [fh, gv2]
  by_cases hk : l[i] = 0
  ·simp [hil, e0, hk, hw]
   refine ⟨⟨_, _, i + 1, rfl, rfl, by omega, fun j k hj hlt => ?_⟩, by simp [ms, gv]; omega⟩
   by_cases hji : j = i
   ·subst hji
    rw [List.getElem?_eq_getElem hil] at hj
    cases hj; exact hk
   ·exact hz j k hj (by omega)
  ·simp [hil, e0, hk]
   have : orK l = l[i] := by
    unfold orK
    have : l.find? (fun k => !decide (k = 0)) = some l[i] := by
     rw [List.find?_eq_some_iff_getElem]
     refine ⟨by simpa using hk, i, hil, rfl, fun j hj => ?_⟩
     have := hz j _ (List.getElem?_eq_getElem (by omega)) hj
     simp [this]
    rw [this]; rfl
   rw [this] at h; exact h
 ·simp [hil]
  have : orK l = 0 := by
   unfold orK
   have : l.find? (fun k => !decide (k = 0)) = none := by
    rw [List.find?_eq_none]
    intro k hk
    obtain ⟨j, hj, rfl⟩ := List.mem_iff_getElem.1 hk
    have := hz j _ (List.getElem?_eq_getElem hj) (by omega)
    simp [this]
   rw [this]; rfl
  rw [this] at h; exact h
def yj (s : Spn) : Int := if s.ny = 0 ∨ s.id = 0 ∨ 1099511627776 < max s.jy s.len then 1 else orK [abn s.om, abn s.name]
theorem baa {w : World} (s : Spn) {K : KV} (h : ∀ w', Fr (fun _ => False) w w' → K (.int .i64 (yj s)) w') : ij P F.du [xd s] w K := by
 apply M.dg.calls
 unfold M.dg xd
 simp only [fh, xm, awf]
 generalize hwa : w.alloc (.cells #[.int .u64 s.ny, .int .u64 s.id, .int .u64 s.sm, .int .u64 s.jy, .int .u64 s.len, .string s.om, .string s.name, .bool s.yu] T.ae) = wa
 have hb : wa.heap[w.heap.size]? = some (.cells #[.int .u64 s.ny, .int .u64 s.id, .int .u64 s.sm, .int .u64 s.jy, .int .u64 s.len, .string s.om, .string s.name, .bool s.yu] T.ae (0, 0)) := by rw [← hwa, fx, if_pos rfl]
 have hf : Fr (fun _ => False) w wa := by rw [← hwa]; exact (Fr.refl _ w).alloc _
 have c0 := fm hb 0
 have c1 := fm hb 1
 have c3 := fm hb 3
 have c4 := fm hb 4
 have c5 := fm hb 5
 have c6 := fm hb 6
 simp at c0 c1 c3 c4 c5 c6
 unfold yj at h
 by_cases h0 : s.ny = 0
 ·simp [c0, h0] at h ⊢
  exact h wa hf
 ·by_cases h1 : s.id = 0
  ·simp [c0, c1, h0, h1] at h ⊢
   exact h wa hf
  ·by_cases h2 : 1099511627776 < max s.jy s.len
   ·simp [c0, c1, c3, c4, h0, h1, h2] at h ⊢
    exact h wa hf
   ·simp [c0, c1, c3, c4, h0, h1, h2] at h ⊢
    unfold M.dg.j0
    simp [c5, c6]
    rw [M.bz.fcall]
    refine ark _ fun w2 f2 => ?_
    have f2' : Fr (fun _ => False) wa w2 := ⟨f2.size, f2.ip, f2.tape, f2.os, f2.output⟩
    have d6 : fi w2 w.heap.size 6 = some (.string s.name) := by rw [sr (f2'.ip _ (oo hb) fun h => h)]; exact c6
    simp [d6]
    rw [M.bz.fcall]
    refine ark _ fun w3 f3 => ?_
    simp
    rw [M.ci.fcall]
    have hsl : Sl (w3.alloc (.cells #[.int .i64 (abn s.om), .int .i64 (abn s.name)] T.al)) 1 aaj (.slice (some ⟨w3.heap.size, 0, none⟩) 2 2) [abn s.om, abn s.name] := by
     refine ⟨_, 2, rfl, Nat.le_refl _, by decide, fun i x hi => ⟨_, 0, rfl, by simp, fun j u hu => ?_⟩⟩
     rw [ajb rfl]
     match i with
     | 0 => simp at hi; subst hi; match j with
      | 0 => simpa [aaj] using hu
      | j + 1 => simp [aaj] at hu
     | 1 => simp at hi; subst hi; match j with
      | 0 => simpa [aaj] using hu
      | j + 1 => simp [aaj] at hu
     | i + 2 => simp at hi
    exact bfp hsl (by simp) (h _ (((hf.trans f2').trans f3).alloc _))
theorem bbi {t : TypeId} (h : za P t = false) {xs : Array Value} {i : Nat} {v : Value} (hv : xs[i]? = some v) (w : World) : (part t xs i).run P w = .ok v w := by
 unfold part
 rw [Sem.run_bind, aur h]
 simp [Result.andThen, hv, Sem.run_pure]
theorem eqF {d : Nat} {xs ys : Array Value} {f : Field} {fs : List Field} {w : World} {u v : Value} {b c : Bool} (hn : f.name ≠ "_") (h : za P f.type = false) (hx : xs[f.offset]? = some u) (hy : ys[f.offset]? = some v) (he : (Op.equalIn d f.type u v).run P w = .ok b w) (hr : (Op.eqFields d xs ys fs).run P w = .ok c w) : (Op.eqFields d xs ys (f :: fs)).run P w = .ok (b && c) w := by
 simp only [Op.eqFields]
 rw [if_pos hn]
 simp only [Sem.run_bind, bbi h hx, bbi h hy, he, Result.andThen]
 cases b
 ·rfl
 ·simpa using hr
def su (m : Mem) : Value := .agg #[.int .u64 m.id, .int .u64 m.inc, .int .i64 m.st]
abbrev SlM (w : World) (v : Value) (l : List Mem) : Prop := Sl w 3 akq v l
theorem ldM {w : World} {b i : Nat} {m : Mem} (h : ∀ k v, (akq m)[k]? = some v → fi w b (i + k) = some v) (K : KV) : ldN P 3 b i w K = K (su m) w := xe (akq m) 3 rfl h K
def ya : Int → List Mem → Bool
 | _, [] => true
 | jl, m :: l => decide (jl < m.id) && ya m.id l
def RsI (W : World) (l : List Mem) : KL := fun x w1 => ∃ (u0 u1 : Value) (jl : Int) (i : Nat), x = [u0, u1, .int .u64 jl, .int .i64 (i : Nat)] ∧ i ≤ l.length ∧ ya 0 l = ya jl (l.drop i) ∧ Fr (fun _ => False) W w1
theorem awk {w : World} (m : Mem) {K : KV} (h : ∀ w', Fr (fun _ => False) w w' → K (.int .u64 m.id) w') : ku P (.func (.func F.cm) #[] #[]) [su m] w K := by
 rw [M.de.rcall]
 apply M.de.calls
 unfold M.de su
 simp
 have c0 : fi (w.alloc (.cells #[.int .u64 m.id, .int .u64 m.inc, .int .i64 m.st] T.x)) w.heap.size 0 = some (.int .u64 m.id) := by rw [fm (by rw [fx, if_pos rfl])]; rfl
 simp [c0]
 exact h _ ((Fr.refl _ w).alloc _)
theorem bcv {w : World} {v : Value} {l : List Mem} (hs : SlM w v l) (hlen : l.length ≤ 1000000) {K : KV} (h : ∀ w', Fr (fun _ => False) w w' → K (.bool (ya 0 l && (decide (0 < l.length) && decide (l.length ≤ 16)))) w') :
  ey P F.bo [v, .int .i64 16, .func (.func F.cm) #[] #[]] w K := by
 rw [M.al.fcall]
 apply M.al.calls
 unfold M.al
 simp only [fh]
 rw [hs.ii (by kernel_rfl)]
 refine ⟨RsI w l, fun x _ => l.length - ms x 3, ⟨_, _, 0, 0, rfl, Nat.zero_le _, rfl, Fr.refl _ _⟩, ?_⟩
 rintro x w1 ⟨u0, u1, jl, i, rfl, hi, hr, f1⟩
 have q2 : gv [u0, u1, .int .u64 jl, .int .i64 (i : Nat)] 2 = .int .u64 jl := rfl
 have q3 : gv [u0, u1, .int .u64 jl, .int .i64 (i : Nat)] 3 = .int .i64 (i : Nat) := rfl
 have hs1 := hs.fr f1 fun _ _ _ h => h
 simp only [q3]
 by_cases hil : i < l.length
 ·have hil' : (i : Int) < l.length := by omega
  simp [hil']
  unfold M.al.j2
  obtain ⟨b, o, cap, hv, hb, _, hc⟩ := hs1.at hil
  have hld : ∀ K, ldN P 3 b (o + i * 3) w1 K = K (su l[i]) w1 := fun K => ldM hc K
  have hwi : IntKind.i64.wrap ((i : Int) + 1) = ((i + 1 : Nat) : Int) := by rw [fj (by omega) (by omega)]; rfl
  have hdrop : l.drop i = l[i] :: l.drop (i + 1) := List.drop_eq_getElem_cons hil
  rw [hdrop] at hr
  generalize l[i] = m at *
  subst hv
  simp [q2, q3, hil, hld]
  have e1 : su m = .agg #[.int .u64 m.id, .int .u64 m.inc, .int .i64 m.st] := rfl
  rw [e1]
  simp
  have hba : (w1.alloc (.cells #[.int .u64 0, .int .u64 0, .int .i64 0] T.x)).heap[w1.heap.size]? = some (.cells #[.int .u64 0, .int .u64 0, .int .i64 0] T.x (0, 0)) := by rw [fx, if_pos rfl]
  refine iu (vs := [.int .u64 m.id, .int .u64 m.inc, .int .i64 m.st]) hba rfl (by simp) fun w2 b2 f2 => ?_
  have f2' : Fr (fun _ => False) w1 w2 := ((Fr.refl _ w1).alloc _).kg f2 fun y hy he => by subst he; omega
  have hld2 : ∀ {w'}, Fr (fun _ => False) w2 w' → ∀ K, ldN P 3 w1.heap.size 0 w' K = K (su m) w' := fun f K => by
   have b3 := f.heap b2 fun h => h
   exact ldM (m := m) (i := 0) (fun k v hk => by rw [fm b3, Nat.zero_add, List.getElem?_toArray]; exact hk) K
  rw [hld2 (Fr.refl _ _)]
  refine awk m fun w3 f3 => ?_
  simp
  by_cases hle : m.id ≤ jl
  ·have hlt : ¬ jl < m.id := by omega
   simp [hle]
   have hf : ya 0 l = false := by rw [hr]; unfold ya; simp [hlt]
   rw [hf] at h
   exact h w3 ((f1.trans f2').trans f3)
  ·have hlt : jl < m.id := by omega
   simp [hle]
   rw [hld2 f3]
   refine awk m fun w4 f4 => ?_
   simp [hwi]
   refine ⟨⟨_, _, m.id, i + 1, rfl, by omega, ?_, ((f1.trans f2').trans f3).trans f4⟩, by simp [ms, gv]; omega⟩
   rw [hr]
   show (decide (jl < m.id) && ya m.id (l.drop (i + 1))) = _
   simp [hlt]
 ·have hil' : ¬ (i : Int) < l.length := by omega
  have hr1 : ya 0 l = true := by rw [hr, List.drop_of_length_le (by omega)]; rfl
  simp [hil']
  unfold M.al.j0
  rw [hs1.ii (by kernel_rfl)]
  rw [hr1] at h
  by_cases h0 : 0 < l.length
  ·have h0' : (0 : Int) < l.length := by omega
   have hx : decide ((l.length : Int) ≤ 16) = decide (l.length ≤ 16) := by
    by_cases h16 : l.length ≤ 16
    ·rw [decide_eq_true h16, decide_eq_true (by omega)]
    ·rw [decide_eq_false h16, decide_eq_false (by omega)]
   simp [h0]
   rw [hs1.ii (by kernel_rfl)]
   simp
   rw [hx]
   have := h w1 f1
   simpa [h0] using this
  ·simp [h0]
   have := h w1 f1
   simpa [h0] using this
def bgo (W : World) (p : Mem → Bool) (l : List Mem) : KL := fun x w1 => ∃ (u0 u1 : Value) (i : Nat), x = [u0, u1, .int .i64 (i : Nat)] ∧ i ≤ l.length ∧ (∀ j (h : j < l.length), j < i → p l[j] = false) ∧ Fr (fun _ => False) W w1
theorem bab {w : World} {v fv : Value} {l : List Mem} {p : Mem → Bool} (hs : SlM w v l) (hlen : l.length ≤ 1000000) (hp : ∀ m w1, Fr (fun _ => False) w w1 → ∀ {K : KV}, (∀ w', Fr (fun _ => False) w1 w' → K (.bool (p m)) w') → ku P fv [su m] w1 K) {K : KV}
  (h1 : ∀ w' i (hi : i < l.length), p l[i] = true → (∀ j (h : j < l.length), j < i → p l[j] = false) → Fr (fun _ => False) w w' → K (.int .i64 (i : Nat)) w')
  (h0 : ∀ w', (∀ m ∈ l, p m = false) → Fr (fun _ => False) w w' → K (.int .i64 (-1)) w') : ey P F.t [v, fv] w K := by
 rw [M.y.fcall]
 apply M.y.calls
 unfold M.y
 simp only [fh]
 rw [hs.ii (by kernel_rfl)]
 refine ⟨bgo w p l, fun x _ => l.length - ms x 2, ⟨_, _, 0, rfl, Nat.zero_le _, fun _ _ h => by omega, Fr.refl _ _⟩, ?_⟩
 rintro x w1 ⟨u0, u1, i, rfl, hi, hz, f1⟩
 have q2 : gv [u0, u1, .int .i64 (i : Nat)] 2 = .int .i64 (i : Nat) := rfl
 have hs1 := hs.fr f1 fun _ _ _ h => h
 simp only [q2]
 by_cases hil : i < l.length
 ·have hil' : (i : Int) < l.length := by omega
  simp [hil']
  unfold M.y.j2
  obtain ⟨b, o, cap, hv, hb, _, hc⟩ := hs1.at hil
  have hld : ∀ K, ldN P 3 b (o + i * 3) w1 K = K (su l[i]) w1 := fun K => ldM hc K
  have hwi : IntKind.i64.wrap ((i : Int) + 1) = ((i + 1 : Nat) : Int) := by rw [fj (by omega) (by omega)]; rfl
  subst hv
  simp [q2, hil, hld]
  refine hp l[i] w1 f1 fun w2 f2 => ?_
  cases hpi : p l[i] with
  | true => simp; exact h1 w2 i hil hpi hz (f1.trans f2)
  | false =>
   simp [hwi]
   refine ⟨⟨_, _, i + 1, rfl, by omega, fun j hj hji => ?_, f1.trans f2⟩, by simp [ms, gv]; omega⟩
   by_cases hje : j = i
   ·subst hje; exact hpi
   ·exact hz j hj (by omega)
 ·have hil' : ¬ (i : Int) < l.length := by omega
  simp [hil']
  refine h0 w1 (fun m hm => ?_) f1
  obtain ⟨j, hj, rfl⟩ := List.getElem_of_mem hm
  exact hz j hj (by omega)
def aic (m : Mem) : Bool := decide (m.inc = 0) || (decide (m.st < 0) || decide (2 < m.st))
theorem bdd {w : World} (m : Mem) {K : KV} (h : ∀ w', Fr (fun _ => False) w w' → K (.bool (aic m)) w') : ku P (.func (.func F.cl) #[] #[]) [su m] w K := by
 rw [M.dd.rcall]
 apply M.dd.calls
 unfold M.dd su
 simp
 have hb : (w.alloc (.cells #[.int .u64 m.id, .int .u64 m.inc, .int .i64 m.st] T.x)).heap[w.heap.size]? = some (.cells #[.int .u64 m.id, .int .u64 m.inc, .int .i64 m.st] T.x (0, 0)) := by rw [fx, if_pos rfl]
 have c1 : fi (w.alloc (.cells #[.int .u64 m.id, .int .u64 m.inc, .int .i64 m.st] T.x)) w.heap.size 1 = some (.int .u64 m.inc) := by rw [fm hb]; rfl
 have c2 : fi (w.alloc (.cells #[.int .u64 m.id, .int .u64 m.inc, .int .i64 m.st] T.x)) w.heap.size 2 = some (.int .i64 m.st) := by rw [fm hb]; rfl
 have fin := h _ ((Fr.refl _ w).alloc (.cells #[.int .u64 m.id, .int .u64 m.inc, .int .i64 m.st] T.x))
 unfold aic at fin
 generalize w.alloc (.cells #[.int .u64 m.id, .int .u64 m.inc, .int .i64 m.st] T.x) = w1 at *
 by_cases h1 : m.inc = 0
 ·simp [c1, c2, h1] at fin ⊢; exact fin
 by_cases h2 : m.st < 0
 ·simp [c1, c2, h1, h2] at fin ⊢; exact fin
 simp [c1, c2, h1, h2] at fin ⊢; exact fin
theorem anr {w : World} {v : Value} {l : List Mem} (hs : SlM w v l) (hlen : l.length ≤ 1000000) {K : KV} (h : ∀ w', Fr (fun _ => False) w w' → K (.bool (l.any aic)) w') : ey P F.o [v, .func (.func F.cl) #[] #[]] w K := by
 rw [M.an.fcall]
 apply M.an.calls
 unfold M.an
 refine bab (p := aic) hs hlen (fun m w1 _ _ hK => bdd m hK) (fun w' i hi hpi _ f => ?_) fun w' hn f => ?_
 ·have : l.any aic = true := List.any_eq_true.2 ⟨l[i], List.getElem_mem hi, hpi⟩
  rw [this] at h
  have h0 : (0 : Int) ≤ (i : Nat) := by omega
  simp [h0]
  exact h w' f
 ·have : l.any aic = false := by
   rw [List.any_eq_false]
   intro m hm; rw [hn m hm]; simp
  rw [this] at h
  simp
  exact h w' f
theorem aln {w : World} {v : Value} {l : List Mem} (hs : SlM w v l) (hlen : l.length ≤ 1000000) {K : KV} (h : ∀ w' v', SlM w' v' l → (∀ x, v'.ownBlock = some x → w.heap.size ≤ x) → Fr (fun _ => False) w w' → K v' w') : ey P F.p [v] w K := by
 rw [M.ax.fcall]
 apply M.ax.calls
 unfold M.ax
 simp only [fh]
 have hs' := hs
 obtain ⟨a, cap, rfl, _⟩ := hs'
 cases a with
 | none =>
  simp
  have hz : l = [] := by
   obtain ⟨a', cap', hv, _, _, h3⟩ := hs
   cases l with
   | nil => rfl
   | cons x l =>
    obtain ⟨b, o, ha, _⟩ := h3 0 x rfl
    injection hv with h1 _ _
    rw [← h1] at ha; cases ha
  subst hz
  exact h w _ Sl.nil (fun x hx => by simp [Value.ownBlock] at hx) (Fr.refl _ _)
 | some a =>
  simp
  have f0 : Fr (fun _ => False) w (w.alloc (.cells #[] T.x)) := (Fr.refl _ w).alloc _
  refine xi et.aa apc ayz (base := w.heap.size) (Ow.empty (by rw [fx, if_pos rfl]) (Nat.le_refl _)) (hs.fr f0 fun _ _ _ h => h) (by simp; omega) (by decide) (by simp) _ fun v3 w3 o3 f3 g3 => ?_
  rw [List.nil_append] at o3
  exact h w3 v3 (o3.sl apc) (fun x hx => (o3.lt hx).1) (f0.kg f3 fun b hb hv => by simp [Value.ownBlock] at hv; omega)
theorem avd (x y : Mem) (w : World) : (Op.equalIn 10000 T.x (su x) (su y)).run P w = .ok (x.id == y.id && (x.inc == y.inc && (x.st == y.st))) w := by
 have hS : P.underlying T.x = some (.struct (P.fieldsOf T.x)) := by kernel_rfl
 have hp : P.stoodInHeld T.x = false := by kernel_rfl
 unfold su
 rw [show (10000 : Nat) = 9999 + 1 from rfl, run_equalIn_agg w 9999 T.x _ _ hS hp]
 simp only [Program.fieldsOf, show P.underlying T.x = _ from Tryz.underlying139]
 have u22 : P.underlying T.e = some (.int .u64) := by kernel_rfl
 have u3 : P.underlying T.b = some (.int .i64) := by kernel_rfl
 have a22 : za P T.e = false := by kernel_rfl
 have a3 : za P T.b = false := by kernel_rfl
 refine eqF (by decide) a22 rfl rfl (run_equalIn_int w 9998 T.e _ _ _ _ u22) ?_
 refine eqF (by decide) a22 rfl rfl (run_equalIn_int w 9998 T.e _ _ _ _ u22) ?_
 have := eqF (fs := []) (d := 9999) (xs := #[.int .u64 x.id, .int .u64 x.inc, .int .i64 x.st]) (ys := #[.int .u64 y.id, .int .u64 y.inc, .int .i64 y.st]) (f := { name := "State", type := T.b, offset := 2, embedded := false, tag := "", pkgPath := "", byteOffset := 16 }) (w := w) (c := true) (by decide) a3 rfl rfl (run_equalIn_int w 9998 T.b _ _ _ _ u3) rfl
 simpa using this
theorem bfx (x y : Mem) : (x.id == y.id && (x.inc == y.inc && (x.st == y.st))) = decide (x = y) := by
 obtain ⟨a, b, c⟩ := x
 obtain ⟨a', b', c'⟩ := y
 simp only [Mem.mk.injEq]
 by_cases h1 : a = a' <;> by_cases h2 : b = b' <;> by_cases h3 : c = c' <;> simp [h1, h2, h3]
theorem bdy (rx ry : Operand) (x y : Mem) (w : World) (K : KV) : en P .neq T.x rx ry (su x) (su y) w K = K (.bool !(decide (x = y))) w := by
 have hm : P.eqGuardType P.depth T.x = false := by kernel_rfl
 have hg := run_eqGuard_agg (P := P) w .neq T.x rx ry #[.int .u64 x.id, .int .u64 x.inc, .int .i64 x.st] #[.int .u64 y.id, .int .u64 y.inc, .int .i64 y.st] hm
 have he := avd x y w
 rw [bfx] at he
 unfold en ia
 unfold su at he ⊢
 rw [Sem.run_bind, hg]
 simp only [Result.andThen]
 rw [run_neq_struct, he]
 rfl
def EmI (W : World) (l1 l2 : List Mem) : KL := fun x w1 => ∃ (u0 u1 : Value) (i : Nat), x = [u0, u1, .int .i64 (i : Nat)] ∧ i ≤ l1.length ∧ (∀ j, j < i → l1[j]? = l2[j]?) ∧ Fr (fun _ => False) W w1
theorem awi {w : World} {v1 v2 : Value} {l1 l2 : List Mem} (s1 : SlM w v1 l1) (s2 : SlM w v2 l2) (hlen : l1.length ≤ 1000000) {K : KV} (h : ∀ w', Fr (fun _ => False) w w' → K (.bool (decide (l1 = l2))) w') : ey P F.ab [v1, v2] w K := by
 rw [M.r.fcall]
 apply M.r.calls
 unfold M.r
 simp only [fh]
 rw [s1.ii (by kernel_rfl), s2.ii (by kernel_rfl)]
 by_cases hne : l1.length = l2.length
 ·simp [hne]
  unfold M.r.j0
  simp only [fh]
  rw [s1.ii (by kernel_rfl)]
  refine ⟨EmI w l1 l2, fun x _ => l1.length - ms x 2, ⟨_, _, 0, rfl, Nat.zero_le _, fun _ h => by omega, Fr.refl _ _⟩, ?_⟩
  rintro x w1 ⟨u0, u1, i, rfl, hi, hz, f1⟩
  have q2 : gv [u0, u1, .int .i64 (i : Nat)] 2 = .int .i64 (i : Nat) := rfl
  have t1 := s1.fr f1 fun _ _ _ h => h
  have t2 := s2.fr f1 fun _ _ _ h => h
  simp only [q2]
  by_cases hil : i < l1.length
  ·have hil' : (i : Int) < l1.length := by omega
   have hil2 : i < l2.length := by omega
   simp [hil']
   unfold M.r.j3
   obtain ⟨b1, o1, cap1, hv1, _, _, e1⟩ := (s1.fr (f1.dr 1) fun _ _ _ h => h).at hil
   obtain ⟨b2, o2, cap2, hv2, _, _, e2⟩ := (s2.fr (f1.dr 1) fun _ _ _ h => h).at hil2
   have hld1 : ∀ K, ldN P 3 b1 (o1 + i * 3) (Eng.dr w1 1) K = K (su l1[i]) (Eng.dr w1 1) := fun K => ldM e1 K
   have hld2 : ∀ K, ldN P 3 b2 (o2 + i * 3) (Eng.dr w1 1) K = K (su l2[i]) (Eng.dr w1 1) := fun K => ldM e2 K
   have hwi : IntKind.i64.wrap ((i : Int) + 1) = ((i + 1 : Nat) : Int) := by rw [fj (by omega) (by omega)]; rfl
   subst hv1 hv2
   simp [q2, hil, hil2, hld1, hld2, bdy]
   by_cases heq : l1[i] = l2[i]
   ·simp [heq, hwi]
    refine ⟨⟨_, _, i + 1, rfl, by omega, fun j hj => ?_, f1.dr 1⟩, by simp [ms, gv]; omega⟩
    by_cases hji : j = i
    ·subst hji
     rw [List.getElem?_eq_getElem hil, List.getElem?_eq_getElem hil2, heq]
    ·exact hz j (by omega)
   ·simp [heq]
    have hf : decide (l1 = l2) = false := decide_eq_false fun h => heq (by subst h; rfl)
    rw [hf] at h
    exact h _ (f1.dr 1)
  ·have hil' : ¬ (i : Int) < l1.length := by omega
   simp [hil']
   have hf : decide (l1 = l2) = true := decide_eq_true (List.ext_getElem? fun j => by
    by_cases hj : j < i
    ·exact hz j hj
    ·rw [List.getElem?_eq_none (by omega), List.getElem?_eq_none (by omega)])
   rw [hf] at h
   exact h _ f1
 ·have hf : decide (l1 = l2) = false := decide_eq_false fun h => hne (by rw [h])
  rw [hf] at h
  have hne' : ¬ (l1.length : Int) = l2.length := by omega
  simp [hne']
  exact h w (Fr.refl _ _)
theorem amy (v : Value) (w : World) (K : KV) : taT P (.iface T.t v) T.an T.s true w K = K (.tuple #[.agg #[.int .u64 0, .bool false, .slice none 0 0], .bool false]) w := .trans (by kernel_rfl) rfl
theorem agj (b : Nat) (w : World) (K : KV) : og P T.a (.pointer (some ⟨b, 0, none⟩)) w K = ldN P 11 b 0 w K := .trans (by kernel_rfl) rfl
def aeh (v : Value) : List Value := [.int .i64 3, .int .u64 0, .int .u64 0, .int .u64 0, .int .u64 0, .int .u64 0, .int .i64 0, .bool false, .slice none 0 0, v, .slice none 0 0]
theorem bbg {w : World} {b : Nat} {v : Value} {f : Nat × Nat} (h : w.heap[b]? = some (.cells (aeh v).toArray T.a f)) (K : KV) : ldN P 11 b 0 w K = K (.agg (aeh v).toArray) w :=
 xe (aeh v) 11 rfl (fun k u hk => by rw [fm h, Nat.zero_add, List.getElem?_toArray]; exact hk) K
def aeq (l : List Mem) : Bool := (ya 0 l && (decide (0 < l.length) && decide (l.length ≤ 16))) && !(l.any aic)
theorem awo {w : World} {v : Value} {l : List Mem} (hs : SlM w v l) (hlen : l.length ≤ 1000000) {K : KV} (h : ∀ w', Fr (fun _ => False) w w' → K (.bool (aeq l)) w') : ey P F.ai [.iface T.t (.agg #[v])] w K := by
 rw [M.aa.fcall]
 apply M.aa.calls
 unfold M.aa
 simp
 have hba : (w.alloc (.cells #[.int .u64 0, .int .u64 0] T.c)).heap[w.heap.size]? = some (.cells #[.int .u64 0, .int .u64 0] T.c (0, 0)) := by rw [fx, if_pos rfl]
 refine iu (vs := [.int .u64 0, .int .u64 0]) hba rfl (by simp) fun w2 b2 f2 => ?_
 have f2' : Fr (fun _ => False) w w2 := ((Fr.refl _ w).alloc _).kg f2 fun y hy he => by subst he; omega
 have hs2 := hs.fr f2' fun _ _ _ h => h
 rw [amy]
 obtain ⟨a, c, hv, _⟩ := id hs2
 have hcell : ∀ {w'}, Fr (fun _ => False) w2 w' → SlM w' v l := fun f => hs2.fr f fun _ _ _ h => h
 rw [hv]
 simp
 have hbm : (w2.alloc (.cells #[.slice none 0 0] T.t)).heap[w2.heap.size]? = some (.cells #[.slice none 0 0] T.t (0, 0)) := by rw [fx, if_pos rfl]
 refine iu (vs := [.slice a l.length c]) hbm rfl (by simp) fun w3 b3 f3 => ?_
 have f3' : Fr (fun _ => False) w2 w3 := ((Fr.refl _ w2).alloc _).kg f3 fun y hy he => by subst he; omega
 have c0 : fi w3 w2.heap.size 0 = some (.slice a l.length c) := by rw [fm b3]; rfl
 simp [c0]
 rw [← hv]
 refine bcv (hcell f3') hlen fun w4 f4 => ?_
 have c4 : fi w4 w2.heap.size 0 = some (.slice a l.length c) := by rw [fm (f4.heap b3 fun h => h)]; rfl
 unfold aeq at h
 generalize (ya 0 l && (decide (0 < l.length) && decide (l.length ≤ 16))) = r at *
 cases r with
 | false =>
  simp
  exact h w4 ((f2'.trans f3').trans f4)
 | true =>
  simp [c4]
  rw [← hv]
  refine anr (hcell (f3'.trans f4)) hlen fun w5 f5 => ?_
  simp
  exact h w5 (((f2'.trans f3').trans f4).trans f5)
theorem atl {w : World} {v : Value} {l : List Mem} (hs : SlM w v l) (hlen : l.length ≤ 1000000) {K : KV} (h : ∀ w' v', SlM w' v' l → Fr (fun _ => False) w w' → K (.agg (aeh v').toArray) w') : ey P F.ac [.iface T.t (.agg #[v])] w K := by
 rw [M.ab.fcall]
 apply M.ab.calls
 unfold M.ab
 simp
 rw [amy]
 generalize hw1 : w.alloc (.cells #[.int .i64 0, .int .u64 0, .int .u64 0, .int .u64 0, .int .u64 0, .int .u64 0, .int .i64 0, .bool false, .slice none 0 0, .slice none 0 0, .slice none 0 0] T.a) = w1
 have hb1 : w1.heap[w.heap.size]? = some (.cells #[.int .i64 0, .int .u64 0, .int .u64 0, .int .u64 0, .int .u64 0, .int .u64 0, .int .i64 0, .bool false, .slice none 0 0, .slice none 0 0, .slice none 0 0] T.a (0, 0)) := by rw [← hw1, fx, if_pos rfl]
 have f1 : Fr (fun _ => False) w w1 := by rw [← hw1]; exact (Fr.refl _ w).alloc _
 have hs1 := hs.fr f1 fun _ _ _ h => h
 obtain ⟨a, c, hv, _⟩ := id hs1
 have hcell : ∀ {w'}, Fr (fun _ => False) w1 w' → SlM w' v l := fun f => hs1.fr f fun _ _ _ h => h
 rw [hv]
 simp
 have hbm : (w1.alloc (.cells #[.slice none 0 0] T.t)).heap[w1.heap.size]? = some (.cells #[.slice none 0 0] T.t (0, 0)) := by rw [fx, if_pos rfl]
 refine iu (vs := [.slice a l.length c]) hbm rfl (by simp) fun w3 b3 f3 => ?_
 have f3' : Fr (fun _ => False) w1 w3 := ((Fr.refl _ w1).alloc _).kg f3 fun y hy he => by subst he; omega
 have c0 : fi w3 w1.heap.size 0 = some (.slice a l.length c) := by rw [fm b3]; rfl
 simp [c0]
 rw [← hv]
 refine aln (hcell f3') hlen fun w4 v4 s4 n4 f4 => ?_
 obtain ⟨a4, c4, hv4, _⟩ := id s4
 have hb4 := (f3'.trans f4).heap hb1 fun h => h
 rw [hv4]
 simp
 refine iu (vs := aeh (.slice a4 l.length c4)) hb4 rfl (by simp [aeh]) fun w5 b5 f5 => ?_
 rw [bbg b5]
 have e : Value.agg (aeh (.slice a4 l.length c4)).toArray = .agg #[.int .i64 3, .int .u64 0, .int .u64 0, .int .u64 0, .int .u64 0, .int .u64 0, .int .i64 0, .bool false, .slice none 0 0, .slice a4 l.length c4, .slice none 0 0] := rfl
 rw [e]
 simp
 refine iu (vs := aeh (.slice a4 l.length c4)) b5 rfl (by simp [aeh]) fun w6 b6 f6 => ?_
 rw [agj, bbg b6]
 simp
 have hlt1 : w.heap.size < w1.heap.size := (Array.getElem?_eq_some_iff.1 hb1).1
 have hs31 := f3'.size
 have hnn : ∀ b, (Value.slice a4 l.length c4).ownBlock = some b → b ≠ w.heap.size := fun b hb => by
  have := n4 b (by rw [hv4]; exact hb)
  omega
 rw [hv4] at s4
 have s6 : SlM w6 (.slice a4 l.length c4) l := (s4.fr f5 fun b hb _ => hnn b hb).fr f6 fun b hb _ => hnn b hb
 have f46 : Fr (fun _ => False) w w6 := (((f1.trans f3').trans f4).kg f5 fun y hy he => by subst he; omega).kg f6 fun y hy he => by subst he; omega
 exact h w6 _ s6 f46
end Go.Proofs.YtfnhoaemapheoaaGreat
namespace Go.Eng
end Go.Eng
set_option maxRecDepth 100000
namespace Go.Proofs.YtfnhoaemapheoaaGreat
open Go.Eng
set_option maxRecDepth 100000
end Go.Proofs.YtfnhoaemapheoaaGreat
namespace Go.Eng
end Go.Eng
set_option maxRecDepth 100000
namespace Go.Proofs.YtfnhoaemapheoaaGreat
open Go.Eng
set_option maxRecDepth 100000
abbrev SlS (w : World) (v : Value) (l : List Spn) : Prop := Sl w 8 aaf v l
def bek (w : World) (b : Nat) (s : Spn) : Prop := w.heap[b]? = some (.cells #[.int .u64 s.ny, .int .u64 s.id, .int .u64 s.sm, .int .u64 s.jy, .int .u64 s.len, .string s.om, .string s.name, .bool s.yu] T.ae (0, 0))
theorem akz {w : World} {b : Nat} {s : Spn} (h : bek w b s) : ∀ k v, (aaf s)[k]? = some v → fi w b k = some v := fun k v hk => by
 rw [fm h]
 have : (#[.int .u64 s.ny, .int .u64 s.id, .int .u64 s.sm, .int .u64 s.jy, .int .u64 s.len, .string s.om, .string s.name, .bool s.yu] : Array Value) = (aaf s).toArray := rfl
 rw [this]; simpa using hk
theorem ldS {w : World} {b i : Nat} {s : Spn} (h : ∀ k v, (aaf s)[k]? = some v → fi w b (i + k) = some v) (K : KV) : ldN P 8 b i w K = K (xd s) w := xe (aaf s) 8 rfl h K
theorem aba {w : World} {v : Value} {l : List Spn} (hs : SlS w v l) (hlen : l.length ≤ 1000000) {K : KV} (h : ∀ w' v', SlS w' v' l → (∀ x, v'.ownBlock = some x → w.heap.size ≤ x ∧ x < w'.heap.size) → Fr (fun _ => False) w w' → K v' w') : ij P F.g [v] w K := by
 apply M.ah.calls
 unfold M.ah
 simp only [fh]
 have hs' := hs
 obtain ⟨a, cap, rfl, _⟩ := hs'
 cases a with
 | none =>
  simp
  have hz : l = [] := by
   obtain ⟨a', cap', hv, _, _, h3⟩ := hs
   cases l with
   | nil => rfl
   | cons x l =>
    obtain ⟨b, o, ha, _⟩ := h3 0 x rfl
    injection hv with h1 _ _
    rw [← h1] at ha; cases ha
  subst hz
  exact h w _ Sl.nil (fun x hx => by simp [Value.ownBlock] at hx) (Fr.refl _ _)
 | some a =>
  simp
  have f0 : Fr (fun _ => False) w (w.alloc (.cells #[] T.ae)) := (Fr.refl _ w).alloc _
  refine xi et.ad ano aoz (base := w.heap.size) (Ow.empty (by rw [fx, if_pos rfl]) (Nat.le_refl _)) (hs.fr f0 fun _ _ _ h => h) (by simp; omega) (by decide) (by simp) _ fun v3 w3 o3 f3 g3 => ?_
  rw [List.nil_append] at o3
  exact h w3 v3 (o3.sl ano) (fun x hx => o3.lt hx) (f0.kg f3 fun b hb hv => by simp [Value.ownBlock] at hv; omega)
def akp (k : Int) : List Value := [.int .u64 k]
theorem ahn (p : Int) : (akp p).length = 1 := rfl
theorem aya (p : Int) : ∀ u ∈ akp p, jf u = true := fun u hu => by
 simp only [akp, List.mem_cons, List.not_mem_nil, or_false] at hu
 subst hu; rfl
abbrev SlU (w : World) (v : Value) (l : List Int) : Prop := Sl w 1 akp v l
abbrev OwU (w : World) (base : Nat) (v : Value) (l : List Int) : Prop := Ow w base T.e 1 akp v l
theorem awd {w : World} {v : Value} {l : List Int} (h : SlU w v l) {i : Nat} (hi : i < l.length) : ∃ b o cap, v = .slice (some ⟨b, o, none⟩) l.length cap ∧ b < w.heap.size ∧ fi w b (o + i) = some (.int .u64 l[i]) := by
 obtain ⟨b, o, cap, hv, hb, _, hr⟩ := h.at hi
 have := hr 0 _ rfl
 simp only [Nat.mul_one, Nat.add_zero] at this
 exact ⟨b, o, cap, hv, hb, this⟩
def yd (x y : Spn) : Bool := x.ny == y.ny && (x.id == y.id && (x.sm == y.sm && (x.jy == y.jy && (x.len == y.len && (x.om.toList == y.om.toList && (x.name.toList == y.name.toList && (x.yu == y.yu)))))))
theorem atm (x y : Spn) (w : World) : (Op.equalIn 10000 T.ae (xd x) (xd y)).run P w = .ok (yd x y) w := by
 have hS : P.underlying T.ae = some (.struct (P.fieldsOf T.ae)) := by kernel_rfl
 have hp : P.stoodInHeld T.ae = false := by kernel_rfl
 unfold xd
 rw [show (10000 : Nat) = 9999 + 1 from rfl, run_equalIn_agg w 9999 T.ae _ _ hS hp]
 have u22 : P.underlying 35 = some (.int .u64) := Tryz.underlying35
 have u9 : P.underlying 9 = some .string := Tryz.underlying9
 have u4 : P.underlying 4 = some .bool := Tryz.underlying4
 simp only [Program.fieldsOf, show P.underlying T.ae = _ from Tryz.underlying85]
 have a22 : za P 35 = false := by kernel_rfl
 have a9 : za P 9 = false := by kernel_rfl
 have a4 : za P 4 = false := by kernel_rfl
 unfold yd
 refine eqF (by decide) a22 rfl rfl (run_equalIn_int w 9998 35 _ _ _ _ u22) ?_
 refine eqF (by decide) a22 rfl rfl (run_equalIn_int w 9998 35 _ _ _ _ u22) ?_
 refine eqF (by decide) a22 rfl rfl (run_equalIn_int w 9998 35 _ _ _ _ u22) ?_
 refine eqF (by decide) a22 rfl rfl (run_equalIn_int w 9998 35 _ _ _ _ u22) ?_
 refine eqF (by decide) a22 rfl rfl (run_equalIn_int w 9998 35 _ _ _ _ u22) ?_
 refine eqF (by decide) a9 rfl rfl (run_equalIn_string w 9998 9 _ _ u9) ?_
 refine eqF (by decide) a9 rfl rfl (run_equalIn_string w 9998 9 _ _ u9) ?_
 have := eqF (fs := []) (d := 9999) (xs := #[.int .u64 x.ny, .int .u64 x.id, .int .u64 x.sm, .int .u64 x.jy, .int .u64 x.len, .string x.om, .string x.name, .bool x.yu]) (ys := #[.int .u64 y.ny, .int .u64 y.id, .int .u64 y.sm, .int .u64 y.jy, .int .u64 y.len, .string y.om, .string y.name, .bool y.yu]) (f := { name := "Fail", type := 4, offset := 7, embedded := false, tag := "", pkgPath := "", byteOffset := 72 }) (w := w) (c := true) (by decide) a4 rfl rfl (run_equalIn_bool' w 9998 4 _ _ u4) rfl
 simpa using this
theorem bbo (rx ry : Operand) (x y : Spn) (w : World) (K : KV) : en P .neq T.ae rx ry (xd x) (xd y) w K = K (.bool !(yd x y)) w := by
 have hm : P.eqGuardType P.depth T.ae = false := by kernel_rfl
 have hg := run_eqGuard_agg (P := P) w .neq T.ae rx ry #[.int .u64 x.ny, .int .u64 x.id, .int .u64 x.sm, .int .u64 x.jy, .int .u64 x.len, .string x.om, .string x.name, .bool x.yu] #[.int .u64 y.ny, .int .u64 y.id, .int .u64 y.sm, .int .u64 y.jy, .int .u64 y.len, .string y.om, .string y.name, .bool y.yu] hm
 have he := atm x y w
 unfold en ia
 unfold xd at he ⊢
 rw [Sem.run_bind, hg]
 simp only [Result.andThen]
 rw [run_neq_struct, he]
 rfl
end Go.Proofs.YtfnhoaemapheoaaGreat
set_option maxRecDepth 100000
namespace Go.Proofs.YtfnhoaemapheoaaGreat.CB
open Go.Eng
theorem akn {w : World} {n : Nat} (hn : n ≤ 1000000000) {K : KV} (h : ∀ w' v, Ow w' w.heap.size T.aq 1 adn v [] → Fr (fun _ => False) w w' → K v w') :
  ij P F.bu [.slice none 0 0, .int .i64 n] w K := by
 apply M.be.calls
 unfold M.be
 have hneg : ¬ (n : Int) < 0 := by omega
 simp [hneg]
 unfold M.be.j0
 have hsl : ki P T.d = true := by kernel_rfl
 have w0 : IntKind.i64.wrap 0 = 0 := by decide
 have wn : IntKind.i64.wrap (n : Int) = n := fj (by omega) (by omega)
 rw [fh, aju hsl, vj hsl]
 simp only [ja, nt]
 have e1 : IntKind.i64.wrap ((n : Int) - IntKind.i64.wrap (((0 : Nat) : Int) - ((0 : Nat) : Int))) = n := by
  rw [show ((0 : Nat) : Int) - ((0 : Nat) : Int) = 0 from by omega, w0, Int.sub_zero, wn]
 rw [e1]
 by_cases h0 : 0 < n
 ·have h0' : (0 : Int) < n := by omega
  simp only [h0', decide_true, Eng.cond_true]
  rw [aju hsl, xb (i := 0) (j := 0) hsl (.inl ⟨rfl, rfl⟩) (.inr ⟨.i64, rfl⟩) (Nat.le_refl _) (Nat.le_refl _)]
  refine axb (enc := adn) et.d (kn := .i64) (by kernel_rfl) h0 hn (by decide) _ fun w' cap hc o f => ?_
  rw [vj hsl, xb (i := 0) (j := 0) hsl (.inl ⟨rfl, rfl⟩) (.inr ⟨.i64, rfl⟩) (Nat.le_refl _) (Nat.zero_le _)]
  rw [if_neg (by omega)]
  have := h w' _ o f
  simpa [Addr.add, gv] using this
 ·have h0' : ¬ (0 : Int) < n := by omega
  simp only [h0', decide_false, Eng.cond_false]
  exact h w _ Ow.none (Fr.refl _ _)
abbrev Sls (w : World) (v : Value) (l : List Int) : Prop := Sl w 1 adn v l
abbrev Ows (w : World) (base : Nat) (v : Value) (l : List Int) : Prop := Ow w base T.aq 1 adn v l
def tot (L : List (Value × List Int)) : Nat := (L.map fun p => p.2.length).sum
theorem aal {L : List (Value × List Int)} {i : Nat} (hi : i < L.length) : tot (L.take (i + 1)) = tot (L.take i) + L[i].2.length := by
 unfold tot
 rw [List.take_succ_eq_append_getElem hi, List.map_append, List.sum_append]; simp
theorem afx {L : List (Value × List Int)} (i : Nat) : tot (L.take i) ≤ tot L := by
 unfold tot
 conv => rhs; rw [← List.take_append_drop i L, List.map_append, List.sum_append]
 omega
theorem ahi (L : List (Value × List Int)) : (L.flatMap (·.2)).length = tot L := by
 unfold tot
 induction L with
 | nil => rfl
 | cons p L ih => simp [ih]
def CaI (w : World) (L : List (Value × List Int)) : KL := fun x w1 => ∃ (u : Value) (i : Nat), x = [u, .int .i64 (tot (L.take i) : Nat), .int .i64 (i : Nat)] ∧ w1 = w ∧ i ≤ L.length
def CbI (w : World) (L : List (Value × List Int)) : KL := fun x w1 => ∃ (u v : Value) (i : Nat), x = [u, v, .int .i64 (i : Nat)] ∧ i ≤ L.length ∧ Fr (fun _ => False) w w1 ∧ Ows w1 w.heap.size v ((L.take i).flatMap (·.2))
theorem yq {w : World} {b cap : Nat} {L : List (Value × List Int)} {e : TypeId} (hb : w.heap[b]? = some (.cells (L.map (·.1)).toArray e (0, 0))) (hs : ∀ p ∈ L, Sls w p.1 p.2) (ht : tot L ≤ 100000000) (hL : L.length ≤ 1000) {K : KV}
  (h : ∀ w' v, Ows w' w.heap.size v (L.flatMap (·.2)) → Fr (fun _ => False) w w' → K v w') : ij P F.l [.slice (some ⟨b, 0, none⟩) L.length cap] w K := by
 apply M.u.calls
 unfold M.u
 have hss : ki P T.i = true := by kernel_rfl
 have hsl : ki P T.d = true := by kernel_rfl
 have q0 : ∀ a b c : Value, gv [a, b, c] 0 = a := fun _ _ _ => rfl
 have q1 : ∀ a b c : Value, gv [a, b, c] 1 = b := fun _ _ _ => rfl
 have q2 : ∀ a b c : Value, gv [a, b, c] 2 = c := fun _ _ _ => rfl
 have q4 : ∀ a b c d e : Value, gv [a, b, c, d, e] 4 = e := fun _ _ _ _ _ => rfl
 have cell : ∀ (w' : World), Fr (fun _ => False) w w' → ∀ (i : Nat) (hi : i < L.length), fi w' b i = some L[i].1 := fun w' f i hi => by
  rw [fm (f.heap hb fun h => h)]
  simp [hi]
 rw [fh, vj hss]
 refine ⟨CaI w L, fun x _ => L.length - ms x 2, ⟨_, 0, rfl, rfl, Nat.zero_le _⟩, ?_⟩
 rintro x w1 ⟨u, i, rfl, rfl, hi⟩
 simp only [q0, q1, q2, ka, fh]
 by_cases hil : i < L.length
 ·have hil' : (i : Int) < L.length := by omega
  simp only [hil', decide_true, Eng.cond_true]
  unfold M.u.j2
  have hwi : IntKind.i64.wrap ((i : Int) + 1) = ((i + 1 : Nat) : Int) := by rw [fj (by omega) (by omega)]; rfl
  have c0 := cell w1 (Fr.refl _ _) i hil
  have hsi := hs L[i] (List.getElem_mem hil)
  obtain ⟨a', cap', hv', _⟩ := hsi
  have htt := aal hil
  have hle := afx (L := L) (i + 1)
  have hwt : IntKind.i64.wrap ((tot (L.take i) : Int) + (L[i].2.length : Int)) = ((tot (L.take (i + 1)) : Nat) : Int) := by rw [fj (by omega) (by omega)]; omega
  have hng : ¬ ((tot (L.take (i + 1)) : Nat) : Int) < 0 := by omega
  simp only [q0, q1, q2, fh]
  simp [hil, c0, hv', hwt, hwi, -Int.natCast_add]
  refine ⟨⟨_, i + 1, rfl, rfl, by omega⟩, ?_⟩
  simp [ms, gv]; omega
 ·have hie : i = L.length := by omega
  have hil' : ¬ (i : Int) < L.length := by omega
  simp only [hil', decide_false, Eng.cond_false]
  have htk : L.take i = L := List.take_of_length_le (by omega)
  rw [htk]
  unfold M.u.j0
  simp only [q4]
  rw [M.be.fcall]
  refine akn (by omega) fun w2 v2 o2 f2 => ?_
  rw [fh, vj hss]
  refine ⟨CbI w1 L, fun x _ => L.length - ms x 2, ⟨_, v2, 0, rfl, Nat.zero_le _, f2, o2⟩, ?_⟩
  rintro x w3 ⟨u', v, j, rfl, hj, f3, o3⟩
  simp only [q0, q1, q2, ka, fh]
  by_cases hjl : j < L.length
  ·have hjl' : (j : Int) < L.length := by omega
   simp only [hjl', decide_true, Eng.cond_true]
   unfold M.u.j6
   have hwj : IntKind.i64.wrap ((j : Int) + 1) = ((j + 1 : Nat) : Int) := by rw [fj (by omega) (by omega)]; rfl
   have c0 := cell w3 f3 j hjl
   have hsj := (hs L[j] (List.getElem_mem hjl)).fr f3 fun _ _ _ h => h
   have hl1 : ((L.take j).flatMap (·.2)).length = tot (L.take j) := ahi _
   have htt := aal hjl
   have hle := afx (L := L) (j + 1)
   simp only [q0, q1, q2, fh]
   simp [hjl, c0, -List.length_flatMap]
   have hge := f3.size
   refine xi et.d il wk o3 hsj (by rw [hl1]; omega) (by decide) hge _ fun v' w4 o4 f4 g4 => ?_
   simp only [hwj]
   refine ⟨⟨_, v', j + 1, rfl, by omega, f3.kg f4 fun x hx he => by have := (o3.lt he).1; omega, ?_⟩, ?_⟩
   ·rw [List.take_succ_eq_append_getElem hjl, List.flatMap_append]
    simpa using o4
   ·simp [ms, gv]; omega
  ·have hjl' : ¬ (j : Int) < L.length := by omega
   simp only [hjl', decide_false, Eng.cond_false, q4]
   have htj : L.take j = L := List.take_of_length_le (by omega)
   rw [htj] at o3
   exact h w3 v o3 f3
end Go.Proofs.YtfnhoaemapheoaaGreat.CB
set_option maxRecDepth 100000
namespace Go.Proofs.YtfnhoaemapheoaaGreat.Sint
open Go.Eng Go.Sort
def Rw (w : World) (g : Nat) (e : TypeId) (cap : Nat) (d : Array Int) : Prop := ∃ cur : Array Value, w.heap[g]? = some (.cells cur e (0, 0)) ∧ cur.size = cap ∧ d.size ≤ cap ∧ ∀ j, j < d.size → cur[j]? = some (.int .i64 d[j]!)
section
variable {w w' : World} {g cap : Nat} {e : TypeId} {d : Array Int} {S : Nat → Prop}
theorem Rw.at (h : Rw w g e cap d) {j : Nat} (hj : j < d.size) : fi w g j = some (.int .i64 d[j]!) := by
 obtain ⟨cur, h1, _, _, h4⟩ := h
 rw [fm h1]; exact h4 j hj
theorem Rw.frz (h : Rw w g e cap d) (j : Nat) : mq w g j = false := by
 obtain ⟨cur, h1, _⟩ := h
 exact kj h1 j
theorem Rw.lt (h : Rw w g e cap d) : g < w.heap.size := by
 obtain ⟨cur, h1, _⟩ := h
 exact oo h1
theorem Rw.heap (h : Rw w g e cap d) (he : w'.heap[g]? = w.heap[g]?) : Rw w' g e cap d := by
 obtain ⟨cur, h1, h2⟩ := h
 exact ⟨cur, he.trans h1, h2⟩
theorem Rw.fr (h : Rw w g e cap d) (hf : Fr S w w') (hn : ¬ S g) : Rw w' g e cap d := h.heap (hf.ip g h.lt hn)
theorem aog (d : Array Int) {i : Nat} (hi : i < d.size) (x : Int) (j : Nat) : (d.setIfInBounds i x)[j]! = if i = j then x else d[j]! := by
 by_cases h : i = j
 ·subst h; simp [hi]
 ·simp [h, getElem!_def, Array.getElem?_setIfInBounds]
theorem Rw.set (h : Rw w g e cap d) {i : Nat} (hi : i < d.size) (x : Int) : Rw (w.setCell ⟨g, i, none⟩ (.int .i64 x)) g e cap (d.setIfInBounds i x) := by
 obtain ⟨cur, h1, h2, h3, h4⟩ := h
 refine ⟨cur.setIfInBounds i (.int .i64 x), jv h1, by simpa using h2, by simpa using h3, fun j hj => ?_⟩
 have hj' : j < d.size := by simpa using hj
 rw [aog d hi, Array.getElem?_setIfInBounds]
 by_cases hij : i = j
 ·subst hij; simp [h2]; omega
 ·rw [if_neg hij, if_neg hij]; exact h4 j hj'
theorem Rw.swp (h : Rw w g e cap d) {i j : Nat} (hi : i < d.size) (hj : j < d.size) : Rw ((w.setCell ⟨g, i, none⟩ (.int .i64 d[j]!)).setCell ⟨g, j, none⟩ (.int .i64 d[i]!)) g e cap (Sort.swp d i j) := by
 have := (h.set hi d[j]!).set (i := j) (by simpa using hj) d[i]!
 exact this
theorem Rw.dr (h : Rw w g e cap d) (n : Nat) : Rw (Eng.dr w n) g e cap d := h.heap rfl
structure Rf (w w' : World) (g : Nat) (e : TypeId) (cap : Nat) (d : Array Int) : Prop where
 row : Rw w' g e cap d
 fr : Fr (fun b => b = g) w w'
theorem Rw.lx (h : Rw w g e cap d) : Rf w w g e cap d := ⟨h, Fr.refl _ _⟩
theorem Rf.dr (h : Rf w w' g e cap d) (n : Nat) : Rf w (Eng.dr w' n) g e cap d := ⟨h.row.dr n, h.fr.dr n⟩
theorem Rf.swp (h : Rf w w' g e cap d) {i j : Nat} (hi : i < d.size) (hj : j < d.size) : Rf w ((w'.setCell ⟨g, i, none⟩ (.int .i64 d[j]!)).setCell ⟨g, j, none⟩ (.int .i64 d[i]!)) g e cap (Sort.swp d i j) :=
 ⟨h.row.swp hi hj, (h.fr.setCell (.inl rfl) _ _).setCell (.inl rfl) _ _⟩
theorem Rf.trans {w'' : World} {d' : Array Int} (h : Rf w w' g e cap d) (h' : Rf w' w'' g e cap d') : Rf w w'' g e cap d' := ⟨h'.row, h.fr.trans h'.fr⟩
end
theorem jo {w : World} (x y : Int) {K : KV} (h : K (.bool (ltInt x y)) w) : ey P F.k [.int .i64 x, .int .i64 y] w K := by
 have nan : ∀ (z : Int) {K : KV}, K (.bool false) w → ey P F.cy [.int .i64 z] w K := fun z K hK => by
  rw [M.dm.fcall]
  apply M.dm.calls
  unfold M.dm
  simp
  exact hK
 rw [M.dw.fcall]
 apply M.dw.calls
 unfold M.dw
 refine nan x ?_
 simp
 exact h
theorem atc {x : Nat} (h : x < 1000000) : IntKind.i64.wrap (x : Int) = x := fj (by omega) (by omega)
theorem jg {x : Nat} (h : x < 1000000) : IntKind.i64.wrap ((x : Int) + 1) = ((x + 1 : Nat) : Int) := by rw [fj (by omega) (by omega)]; rfl
theorem na {x y : Nat} (h : y ≤ x) (hx : x < 1000000) : IntKind.i64.wrap ((x : Int) - y) = ((x - y : Nat) : Int) := by rw [fj (by omega) (by omega)]; omega
def InI (w : World) (g : Nat) (e : TypeId) (cap n a : Nat) (R : Array Int) : KL := fun x w1 => ∃ (j : Nat) (d : Array Int), x = [.int .i64 (j : Int)] ∧ Rf w w1 g e cap d ∧ d.size = n ∧ j < n ∧ insInner ltInt a j d = R
def InO (w : World) (g : Nat) (e : TypeId) (cap n a b : Nat) (R : Array Int) : KL := fun x w1 => ∃ (u : Value) (i : Nat) (d : Array Int), x = [u, .int .i64 (i : Int)] ∧ Rf w w1 g e cap d ∧ d.size = n ∧ insOuter ltInt a b i d = R
theorem tt {w : World} {g cap n : Nat} {e : TypeId} {d : Array Int} (H : Rw w g e cap d) (hn : d.size = n) (h6 : n < 100000) {a b : Nat} (hb : b ≤ n) (ha : a ≤ n) {K : KV}
  (h : ∀ w', Rf w w' g e cap (insertionSort ltInt d a b) → K (.tuple #[]) w') : ij P F.al [.slice (some ⟨g, 0, none⟩) n cap, .int .i64 a, .int .i64 b] w K := by
 apply M.k.calls
 unfold M.k
 simp only [iw, jg (show a < 1000000 by omega)]
 refine ⟨InO w g e cap n a b (insertionSort ltInt d a b), fun x _ => b - ms x 1, ⟨_, a + 1, d, rfl, H.lx, hn, rfl⟩, ?_⟩
 rintro x w1 ⟨u, i, d1, rfl, H1, hn1, hR⟩
 have g1 : ∀ u v : Value, gv [u, v] 1 = v := fun _ _ => rfl
 have g0 : ∀ u : Value, gv [u] 0 = u := fun _ => rfl
 unfold M.k.j0
 simp only [fh, g1]
 unfold insOuter at hR
 by_cases hi : i < b
 ·simp [hi] at hR ⊢
  generalize hT : insInner ltInt a i d1 = T at *
  refine ⟨InI w g e cap n a T, fun x _ => ms x 0, ⟨i, d1, rfl, H1, hn1, by omega, hT⟩, ?_⟩
  rintro x w2 ⟨j, d2, rfl, H2, hn2, hj, hR2⟩
  have done : d2 = T → ∀ v w2, Rf w w2 g e cap d2 → InO w g e cap n a b (insertionSort ltInt d a b) [v, .int .i64 (IntKind.i64.wrap ((i : Int) + 1))] w2 ∧ b - ms [v, .int .i64 (IntKind.i64.wrap ((i : Int) + 1))] 1 < b - ms [u, .int .i64 (i : Int)] 1 := by
   intro hd v w2 H2
   rw [jg (by omega)]
   refine ⟨⟨v, i + 1, d2, rfl, H2, hn2, by rw [hd]; exact hR⟩, ?_⟩
   simp [ms, gv]; omega
  unfold M.k.j3
  simp only [fh, g0]
  cases j with
  | zero =>
   simp [insInner] at hR2
   have := done hR2 (.int .i64 0) _ (H2.dr 1)
   have hz : ¬ (a : Int) < 0 := by omega
   simp [hz]
   simpa using this
  | succ j =>
   unfold insInner at hR2
   have hw := atc (show j < 1000000 by omega)
   by_cases hja : a < j + 1
   ·have hja' : (a : Int) < (j : Int) + 1 := by omega
    have c1 := H2.row.at (show j + 1 < d2.size by omega)
    have c0 := H2.row.at (show j < d2.size by omega)
    have hjn : (j : Int) < n := by omega
    have hjn' : (j : Int) + 1 < n := by omega
    have z1 : (0 : Int) ≤ (j : Int) + 1 := by omega
    simp [hja, hja', hw, c0, c1, hjn, hjn', z1] at hR2 ⊢
    refine jo _ _ ?_
    cases hl : ltInt d2[j + 1]! d2[j]! with
    | true =>
     simp [hl] at hR2 ⊢
     unfold M.k.j4
     have f1 := H2.row.frz (j + 1)
     have f0 := H2.row.frz j
     simp [hw, c0, c1, hjn, hjn', z1, f0, f1, gj, gp]
     refine ⟨⟨j, _, rfl, ((H2.dr 1).dr 1).swp (by omega) (by omega), by rw [size_swp]; exact hn2, by omega, hR2⟩, ?_⟩
     simp [ms, gv]
    | false =>
     simp [hl] at hR2 ⊢
     have := done hR2 (.int .i64 ((j : Int) + 1)) _ (H2.dr 1)
     simpa using this
   ·have hja' : ¬ (a : Int) < (j : Int) + 1 := by omega
    simp [hja, hja'] at hR2 ⊢
    have := done hR2 (.int .i64 ((j : Int) + 1)) _ (H2.dr 1)
    simpa using this
 ·simp [hi] at hR ⊢
  subst hR
  exact h w1 H1
set_option maxRecDepth 100000
open Go.Eng Go.Sort
theorem mw (hi first : Nat) : ∀ (n root : Nat) (d : Array Int), hi - root ≤ n → (siftDown ltInt hi first root d).size = d.size
 | 0, root, d, h => by
  unfold siftDown
  rw [dif_pos (by omega)]
 | n + 1, root, d, h => by
  unfold siftDown
  split
  ·rfl
  split
  ·split
   ·rfl
   split
   ·rw [mw hi first n _ _ (by omega), size_swp]
   ·rfl
  ·split
   ·rfl
   ·rw [mw hi first n _ _ (by omega), size_swp]
def SfI (w : World) (g : Nat) (e : TypeId) (cap n hi first : Nat) (R : Array Int) : KL := fun x w1 => ∃ (u : Value) (root : Nat) (d : Array Int), x = [u, .int .i64 (root : Int)] ∧ Rf w w1 g e cap d ∧ d.size = n ∧ root ≤ hi ∧ siftDown ltInt hi first root d = R
theorem adi {w : World} {g cap n : Nat} {e : TypeId} {d : Array Int} (H : Rw w g e cap d) (hn : d.size = n) (h6 : n < 100000) {lo hi first : Nat} (hb : first + hi ≤ n) (hlo : lo ≤ hi) {K : KV}
  (h : ∀ w', Rf w w' g e cap (siftDown ltInt hi first lo d) → K (.tuple #[]) w') : ij P F.ak [.slice (some ⟨g, 0, none⟩) n cap, .int .i64 lo, .int .i64 hi, .int .i64 first] w K := by
 apply M.o.calls
 unfold M.o
 generalize hR0 : siftDown ltInt hi first lo d = R0 at *
 refine ⟨SfI w g e cap n hi first R0, fun x _ => hi - ms x 1, ⟨_, lo, d, rfl, H.lx, hn, hlo, hR0⟩, ?_⟩
 clear hR0
 rintro x w1 ⟨u, root, d1, rfl, H1, hn1, hro, hR⟩
 have g1 : ∀ u v : Value, gv [u, v] 1 = v := fun _ _ => rfl
 have g0 : ∀ u : Value, gv [u] 0 = u := fun _ => rfl
 have w2 : IntKind.i64.wrap (2 * (root : Int)) = ((2 * root : Nat) : Int) := by rw [fj (by omega) (by omega)]; omega
 have w3 : IntKind.i64.wrap (((2 * root : Nat) : Int) + 1) = ((2 * root + 1 : Nat) : Int) := jg (by omega)
 have w4 : IntKind.i64.wrap (((2 * root + 1 : Nat) : Int) + 1) = ((2 * root + 2 : Nat) : Int) := jg (by omega)
 unfold M.o.j0
 simp only [fh, g1, sq, iw, ke, w2, w3]
 unfold siftDown at hR
 by_cases h0 : 2 * root + 1 ≥ hi
 ·have h0' : (hi : Int) ≤ ((2 * root + 1 : Nat) : Int) := by omega
  rw [dif_pos h0] at hR
  subst hR
  simp only [h0', decide_true, Eng.cond_true]
  exact h w1 H1
 rw [dif_neg h0] at hR
 have h0' : ¬ (hi : Int) ≤ ((2 * root + 1 : Nat) : Int) := by omega
 simp only [h0', decide_false, Eng.cond_false]
 unfold M.o.j1
 have wf : ∀ k : Nat, k < hi → IntKind.i64.wrap ((first : Int) + (k : Int)) = ((first + k : Nat) : Int) := fun k hk => by rw [fj (by omega) (by omega)]; omega
 -- behind the choice of the child
 have tail : ∀ (c : Nat) (w2 : World), Rf w w2 g e cap d1 → c < hi → root < c → (if !ltInt d1[first + root]! d1[first + c]! then d1 else siftDown ltInt hi first c (Sort.swp d1 (first + root) (first + c))) = R0 →
   M.o.j2 (.int .i64 first) [u, .int .i64 root] (.slice (some ⟨g, 0, none⟩) n cap) [.int .i64 c] (fun x' w' => SfI w g e cap n hi first R0 x' w' ∧ hi - ms x' 1 < hi - ms [u, .int .i64 (root : Int)] 1) w2 K := by
  intro c w2 H2 hc hrc hR
  unfold M.o.j2
  have a1 := H2.row.at (show first + root < d1.size by omega)
  have a2 := H2.row.at (show first + c < d1.size by omega)
  have b1 : ((first + root : Nat) : Int) < n := by omega
  have b2 : ((first + c : Nat) : Int) < n := by omega
  have wr := wf root (by omega)
  have wc := wf c hc
  simp only [fh, ol, me, g1, g0, iw, wr, wc, true_and, and_true]
  simp [b1, b2, a1, a2, -Int.natCast_add]
  refine jo _ _ ?_
  cases hl : ltInt d1[first + root]! d1[first + c]! with
  | false =>
   simp [hl] at hR ⊢
   subst hR
   exact h _ (H2.dr 1)
  | true =>
   simp [hl] at hR ⊢
   unfold M.o.j3
   have f1 := H2.row.frz (first + root)
   have f2 := H2.row.frz (first + c)
   simp only [fh, ol, me, vx, g1, g0, iw, wr, wc, true_and, and_true]
   simp [b1, b2, a1, a2, f1, f2, gj, gp, -Int.natCast_add]
   refine ⟨⟨_, c, _, rfl, ((H2.dr 1).dr 1).swp (by omega) (by omega), by rw [size_swp]; exact hn1, by omega, hR⟩, ?_⟩
   simp [ms, gv]; omega
 have v1 : IntKind.i64.wrap ((first : Int) + ((2 * root + 1 : Nat) : Int)) = ((first + (2 * root + 1) : Nat) : Int) := wf _ (by omega)
 simp only [fh, ol, me, iw, ka, w4, true_and, and_true, qj]
 by_cases h1 : 2 * root + 1 + 1 < hi
 ·have h1' : ((2 * root + 2 : Nat) : Int) < hi := by omega
  have v2 : IntKind.i64.wrap (((first + (2 * root + 1) : Nat) : Int) + 1) = ((first + (2 * root + 2) : Nat) : Int) := by rw [fj (by omega) (by omega)]; omega
  have a1 := H1.row.at (show first + (2 * root + 1) < d1.size by omega)
  have a2 := H1.row.at (show first + (2 * root + 2) < d1.size by omega)
  have b1 : ((first + (2 * root + 1) : Nat) : Int) < n := by omega
  have b2 : ((first + (2 * root + 2) : Nat) : Int) < n := by omega
  have e2 : first + (2 * root + 1) + 1 = first + (2 * root + 2) := by omega
  simp only [h1', decide_true, beq_self_eq_true, rz, iw, v1, v2]
  simp [b1, b2, a1, a2, -Int.natCast_add]
  refine jo _ _ ?_
  rw [e2] at hR
  cases hl : ltInt d1[first + (2 * root + 1)]! d1[first + (2 * root + 2)]! with
  | true =>
   simp only [h1, hl, decide_true, Bool.and_self, if_true] at hR
   have hx : 2 * root + 2 < hi := by omega
   simp only [hx, dif_pos] at hR
   simp [-Int.natCast_add]
   exact tail (2 * root + 2) _ (H1.dr 1) (by omega) (by omega) hR
  | false =>
   simp only [hl, Bool.and_false, Bool.false_eq_true, if_false] at hR
   simp [-Int.natCast_add]
   exact tail (2 * root + 1) _ (H1.dr 1) (by omega) (by omega) hR
 ·have h1' : ¬ ((2 * root + 2 : Nat) : Int) < hi := by omega
  simp only [h1, decide_false, Bool.false_and, Bool.false_eq_true, if_false] at hR
  simp only [h1', decide_false]
  simp [-Int.natCast_add]
  exact tail (2 * root + 1) _ (H1.dr 1) (by omega) (by omega) hR
def HbI (w : World) (g : Nat) (e : TypeId) (cap n hi first : Nat) (R : Array Int) : KL := fun x w1 => ∃ (k : Nat) (d : Array Int), x = [.int .i64 ((k : Int) - 1)] ∧ Rf w w1 g e cap d ∧ d.size = n ∧ k ≤ hi + 1 ∧ (k ≤ hi ∨ hi = 0) ∧ heapBuild ltInt hi first k d = R
def HpI (w : World) (g : Nat) (e : TypeId) (cap n hi first : Nat) (R : Array Int) : KL := fun x w1 => ∃ (k : Nat) (d : Array Int), x = [.int .i64 ((k : Int) - 1)] ∧ Rf w w1 g e cap d ∧ d.size = n ∧ k ≤ hi ∧ heapPop ltInt first k d = R
def mp (x : List Value) (i : Nat) : Nat := match gv x i with
 | .int _ k => (k + 1).toNat
 | _ => 0
theorem abz {w : World} {g cap n : Nat} {e : TypeId} {d : Array Int} (H : Rw w g e cap d) (hn : d.size = n) (h6 : n < 100000) {a b : Nat} (hb : b ≤ n) (hab : a < b) {K : KV}
  (h : ∀ w', Rf w w' g e cap (heapSort ltInt d a b) → K (.tuple #[]) w') : ij P F.az [.slice (some ⟨g, 0, none⟩) n cap, .int .i64 a, .int .i64 b] w K := by
 apply M.t.calls
 unfold M.t
 have hw0 : IntKind.i64.wrap ((b : Int) - a) = ((b - a : Nat) : Int) := na (by omega) (by omega)
 generalize hhi : b - a = hi at *
 have hw1 : IntKind.i64.wrap ((hi : Int) - 1) = ((hi - 1 : Nat) : Int) := by rw [fj (by omega) (by omega)]; omega
 have hw2 : IntKind.i64.wrap (((hi - 1 : Nat) : Int).tdiv 2) = (((hi - 1) / 2 : Nat) : Int) := by
  rw [Int.tdiv_eq_ediv_of_nonneg (by omega), fj (by omega) (by omega)]; omega
 have hw3 : (((hi - 1) / 2 : Nat) : Int) = (((hi - 1) / 2 + 1 : Nat) : Int) - 1 := by omega
 simp only [ja, hw0, fh, hw1, ahl, hw2]
 have g0 : ∀ u : Value, gv [u] 0 = u := fun _ => rfl
 generalize hZ : heapBuild ltInt hi a ((hi - 1) / 2 + 1) d = Z
 refine ⟨HbI w g e cap n hi a Z, fun x _ => mp x 0, ⟨(hi - 1) / 2 + 1, d, by rw [hw3], H.lx, hn, by omega, by omega, hZ⟩, ?_⟩
 rintro x w1 ⟨k, d1, rfl, H1, hn1, hk, hk2, hR⟩
 unfold M.t.j1
 simp only [fh, g0, ke]
 cases k with
 | succ k =>
  have hk0 : (0 : Int) ≤ ((k + 1 : Nat) : Int) - 1 := by omega
  have hk1 : ((k + 1 : Nat) : Int) - 1 = (k : Int) := by omega
  simp only [hk0, decide_true, Eng.cond_true, hk1]
  rw [M.o.fcall]
  refine adi H1.row hn1 h6 (by omega) (by omega) fun w2 H2 => ?_
  have hw4 : IntKind.i64.wrap ((k : Int) - 1) = (k : Int) - 1 := fj (by omega) (by omega)
  simp only [ja, hw4]
  refine ⟨⟨k, _, rfl, H1.trans H2, by rw [mw _ _ _ _ _ (Nat.le_refl _)]; exact hn1, by omega, by omega, hR⟩, ?_⟩
  simp [mp, gv]
 | zero =>
  have hk0 : ¬ (0 : Int) ≤ ((0 : Nat) : Int) - 1 := by omega
  simp only [hk0, decide_false, Eng.cond_false]
  unfold heapBuild at hR
  unfold M.t.j0
  have hw5 : ((hi - 1 : Nat) : Int) = (hi : Int) - 1 := by omega
  simp only [ja, hw1, hw5]
  have hR2 : heapPop ltInt a hi d1 = heapSort ltInt d a b := by
   unfold heapSort
   rw [hhi, hZ, ← hR]
  refine ⟨HpI w g e cap n hi a (heapSort ltInt d a b), fun x _ => mp x 0, ⟨hi, d1, rfl, H1, hn1, Nat.le_refl _, hR2⟩, ?_⟩
  rintro x w2 ⟨k, d2, rfl, H2, hn2, hk, hR3⟩
  simp only [fh, g0, ke]
  cases k with
  | zero =>
   have hk0 : ¬ (0 : Int) ≤ ((0 : Nat) : Int) - 1 := by omega
   simp only [hk0, decide_false, Eng.cond_false]
   unfold heapPop at hR3
   subst hR3
   exact h w2 H2
  | succ k =>
   have hk0 : (0 : Int) ≤ ((k + 1 : Nat) : Int) - 1 := by omega
   have hk1 : ((k + 1 : Nat) : Int) - 1 = (k : Int) := by omega
   simp only [hk0, decide_true, Eng.cond_true, hk1]
   unfold heapPop at hR3
   unfold M.t.j5
   have wr : IntKind.i64.wrap ((a : Int) + (k : Int)) = ((a + k : Nat) : Int) := by rw [fj (by omega) (by omega)]; omega
   have a1 := H2.row.at (show a < d2.size by omega)
   have a2 := H2.row.at (show a + k < d2.size by omega)
   have b1 : (a : Int) < n := by omega
   have b2 : ((a + k : Nat) : Int) < n := by omega
   have f1 := H2.row.frz a
   have f2 := H2.row.frz (a + k)
   have hw4 : IntKind.i64.wrap ((k : Int) - 1) = (k : Int) - 1 := fj (by omega) (by omega)
   simp only [fh, ol, me, vx, g0, iw, ja, wr, hw4, true_and, and_true]
   simp [b1, b2, a1, a2, f1, f2, gj, gp, -Int.natCast_add]
   have H3 := (H2.dr 1).swp (i := a) (j := a + k) (by omega) (by omega)
   rw [M.o.fcall]
   refine adi (lo := 0) H3.row (by rw [size_swp]; exact hn2) h6 (by omega) (by omega) fun w4 H4 => ?_
   refine ⟨⟨k, _, rfl, H3.trans H4, by rw [mw _ _ _ _ _ (Nat.le_refl _), size_swp]; exact hn2, by omega, hR3⟩, ?_⟩
   simp [mp, gv]
section
variable {w : World} {g cap n : Nat} {e : TypeId} {d : Array Int}
def UpI (w : World) (g : Nat) (e : TypeId) (cap : Nat) (d : Array Int) (p : Int → Bool) (j r : Nat) : KL := fun x w1 => ∃ i : Nat, x = [.int .i64 (i : Int)] ∧ Rf w w1 g e cap d ∧ i ≤ j + 2 ∧ scanUp p d j i = r
def DnI (w : World) (g : Nat) (e : TypeId) (cap : Nat) (d : Array Int) (p : Int → Bool) (i n r : Nat) : KL := fun x w1 => ∃ j : Nat, x = [.int .i64 (j : Int)] ∧ Rf w w1 g e cap d ∧ j < n ∧ scanDown p d i j = r
theorem xw {p : Int → Bool} {i j : Nat} (H : Rw w g e cap d) (hi : i ≤ j + 2) {K0 : KL} {body : KL → KL → KL}
  (hB : ∀ (k : Nat) w1 (Kn : KL), k ≤ j + 2 → Rf w w1 g e cap d → ((k ≤ j ∧ p d[k]! = true) → ∀ w2, Rf w w2 g e cap d → Kn [.int .i64 ((k + 1 : Nat) : Int)] w2) → (¬ (k ≤ j ∧ p d[k]! = true) → ∀ w2, Rf w w2 g e cap d → K0 [.int .i64 (k : Int)] w2) → body K0 Kn [.int .i64 (k : Int)] w1)
  (h : ∀ w', Rf w w' g e cap d → K0 [.int .i64 (scanUp p d j i : Nat)] w') : fc (fun K0 => gm [.int .i64 (i : Int)] w (body K0)) K0 := by
 rw [fh]
 generalize hr : scanUp p d j i = r at *
 refine ⟨UpI w g e cap d p j r, fun x _ => j + 2 - ms x 0, ⟨i, rfl, H.lx, hi, hr⟩, ?_⟩
 clear hr
 rintro x w1 ⟨k, rfl, H1, hk, hR⟩
 unfold scanUp at hR
 refine hB k w1 _ hk H1 (fun hc w2 H2 => ?_) fun hc w2 H2 => ?_
 ·rw [if_pos (by simpa using hc)] at hR
  refine ⟨⟨k + 1, rfl, H2, by omega, hR⟩, ?_⟩
  simp [ms, gv]; omega
 ·rw [if_neg (by simpa using hc)] at hR
  rw [← hR] at h
  exact h w2 H2
theorem tm {p : Int → Bool} {i j : Nat} (H : Rw w g e cap d) (hj : j < n) (hi : 1 ≤ i) {K0 : KL} {body : KL → KL → KL}
  (hB : ∀ (k : Nat) w1 (Kn : KL), k < n → Rf w w1 g e cap d → ((i ≤ k ∧ p d[k]! = true) → ∀ w2, Rf w w2 g e cap d → Kn [.int .i64 ((k - 1 : Nat) : Int)] w2) → (¬ (i ≤ k ∧ p d[k]! = true) → ∀ w2, Rf w w2 g e cap d → K0 [.int .i64 (k : Int)] w2) → body K0 Kn [.int .i64 (k : Int)] w1)
  (h : ∀ w', Rf w w' g e cap d → K0 [.int .i64 (scanDown p d i j : Nat)] w') : fc (fun K0 => gm [.int .i64 (j : Int)] w (body K0)) K0 := by
 rw [fh]
 generalize hr : scanDown p d i j = r at *
 refine ⟨DnI w g e cap d p i n r, fun x _ => ms x 0, ⟨j, rfl, H.lx, hj, hr⟩, ?_⟩
 clear hr
 rintro x w1 ⟨k, rfl, H1, hk, hR⟩
 refine hB k w1 _ hk H1 (fun hc w2 H2 => ?_) fun hc w2 H2 => ?_
 ·cases k with
  | zero => omega
  | succ k =>
   unfold scanDown at hR
   rw [if_pos (by simpa using hc)] at hR
   refine ⟨⟨k, rfl, H2, by omega, hR⟩, ?_⟩
   simp [ms, gv]
 ·have : scanDown p d i k = k := by
   cases k with
   | zero => rfl
   | succ k => unfold scanDown; rw [if_neg (by simpa using hc)]
  rw [this] at hR
  rw [← hR] at h
  exact h w2 H2
theorem ts (p : Int → Bool) (d : Array Int) (j i : Nat) : scanUp p d j i ≤ max i (j + 1) := by
 by_cases h : i ≤ j + 1
 ·have := (scanUp_spec p d j _ i rfl).2.1 h
  omega
 ·unfold scanUp
  rw [if_neg (by simp; omega)]
  omega
theorem g0 (u : Value) : gv [u] 0 = u := rfl
theorem g20 (u v : Value) : gv [u, v] 0 = u := rfl
theorem g21 (u v : Value) : gv [u, v] 1 = v := rfl
theorem aku {w0 w1 : World} {a k j : Nat} {K0 Kn : KL} {K : KV} (H1 : Rf w0 w1 g e cap d) (hn : d.size = n) (h6 : n < 100000) (ha : a < n) (hj : j < n) (hk : k ≤ j + 2)
  (k1 : (k ≤ j ∧ ltInt d[k]! d[a]! = true) → ∀ w2, Rf w0 w2 g e cap d → Kn [.int .i64 ((k + 1 : Nat) : Int)] w2) (k2 : ¬ (k ≤ j ∧ ltInt d[k]! d[a]! = true) → ∀ w2, Rf w0 w2 g e cap d → K0 [.int .i64 (k : Int)] w2) :
  M.g.j1 [.int .i64 (k : Int)] (.int .i64 (j : Int)) (.slice (some ⟨g, 0, none⟩) n cap) (.int .i64 (a : Int)) K0 Kn w1 K := by
 unfold M.g.j1
 by_cases hkj : k ≤ j
 ·have a1 := H1.row.at (show k < d.size by omega)
  have a2 := H1.row.at (show a < d.size by omega)
  have b1 : (k : Int) < n := by omega
  have b2 : (a : Int) < n := by omega
  have b3 : (k : Int) ≤ j := by omega
  simp [g0, g21, b1, b2, b3, a1, a2]
  refine jo _ _ ?_
  cases hl : ltInt d[k]! d[a]! with
  | true =>
   simp [jg (show k < 1000000 by omega)]
   have := k1 ⟨hkj, hl⟩ _ (H1.dr 1)
   simpa using this
  | false =>
   simp [jg (show k < 1000000 by omega)]
   have := k2 (fun h => by simp [hl] at h) _ (H1.dr 1)
   simpa using this
 ·have b3 : ¬ (k : Int) ≤ j := by omega
  simp [g0, g21, b3]
  have := k2 (fun h => hkj h.1) _ (H1.dr 1)
  simpa using this
theorem akk {w0 w1 : World} {a k i : Nat} {K0 Kn : KL} {K : KV} (H1 : Rf w0 w1 g e cap d) (hn : d.size = n) (h6 : n < 100000) (hai : a < n ∧ 1 ≤ i) (hk : k < n)
  (k1 : (i ≤ k ∧ (!ltInt d[k]! d[a]!) = true) → ∀ w2, Rf w0 w2 g e cap d → Kn [.int .i64 ((k - 1 : Nat) : Int)] w2) (k2 : ¬ (i ≤ k ∧ (!ltInt d[k]! d[a]!) = true) → ∀ w2, Rf w0 w2 g e cap d → K0 [.int .i64 (k : Int)] w2) :
  M.g.j4 [.int .i64 (i : Int)] [.int .i64 (k : Int)] (.slice (some ⟨g, 0, none⟩) n cap) (.int .i64 (a : Int)) K0 Kn w1 K := by
 unfold M.g.j4
 by_cases hik : i ≤ k
 ·have a1 := H1.row.at (show k < d.size by omega)
  have a2 := H1.row.at (show a < d.size by omega)
  have b1 : (k : Int) < n := by omega
  have b2 : (a : Int) < n := by omega
  have b3 : (i : Int) ≤ k := by omega
  have hw : IntKind.i64.wrap ((k : Int) - 1) = ((k - 1 : Nat) : Int) := by rw [fj (by omega) (by omega)]; omega
  simp [g0, b1, b2, b3, a1, a2]
  refine jo _ _ ?_
  cases hl : ltInt d[k]! d[a]! with
  | true =>
   simp [hw]
   have := k2 (fun h => by simp [hl] at h) _ (H1.dr 1)
   simpa using this
  | false =>
   simp [hw]
   have := k1 ⟨hik, by simp [hl]⟩ _ (H1.dr 1)
   simpa using this
 ·have b3 : ¬ (i : Int) ≤ k := by omega
  simp [g0, b3]
  have := k2 (fun h => hik h.1) _ (H1.dr 1)
  simpa using this
theorem ahq {w0 w1 : World} {vi : Value} {a k j : Nat} {K0 Kn : KL} {K : KV} (H1 : Rf w0 w1 g e cap d) (hn : d.size = n) (h6 : n < 100000) (ha : a < n) (hj : j < n) (hk : k ≤ j + 2)
  (k1 : (k ≤ j ∧ ltInt d[k]! d[a]! = true) → ∀ w2, Rf w0 w2 g e cap d → Kn [.int .i64 ((k + 1 : Nat) : Int)] w2) (k2 : ¬ (k ≤ j ∧ ltInt d[k]! d[a]! = true) → ∀ w2, Rf w0 w2 g e cap d → K0 [.int .i64 (k : Int)] w2) :
  M.g.j10 [.int .i64 (k : Int)] [vi, .int .i64 (j : Int)] (.slice (some ⟨g, 0, none⟩) n cap) (.int .i64 (a : Int)) K0 Kn w1 K := by
 unfold M.g.j10
 by_cases hkj : k ≤ j
 ·have a1 := H1.row.at (show k < d.size by omega)
  have a2 := H1.row.at (show a < d.size by omega)
  have b1 : (k : Int) < n := by omega
  have b2 : (a : Int) < n := by omega
  have b3 : (k : Int) ≤ j := by omega
  simp [g0, g21, b1, b2, b3, a1, a2]
  refine jo _ _ ?_
  cases hl : ltInt d[k]! d[a]! with
  | true =>
   simp [jg (show k < 1000000 by omega)]
   have := k1 ⟨hkj, hl⟩ _ (H1.dr 1)
   simpa using this
  | false =>
   simp [jg (show k < 1000000 by omega)]
   have := k2 (fun h => by simp [hl] at h) _ (H1.dr 1)
   simpa using this
 ·have b3 : ¬ (k : Int) ≤ j := by omega
  simp [g0, g21, b3]
  have := k2 (fun h => hkj h.1) _ (H1.dr 1)
  simpa using this
theorem ahs {w0 w1 : World} {a k i : Nat} {K0 Kn : KL} {K : KV} (H1 : Rf w0 w1 g e cap d) (hn : d.size = n) (h6 : n < 100000) (hai : a < n ∧ 1 ≤ i) (hk : k < n)
  (k1 : (i ≤ k ∧ (!ltInt d[k]! d[a]!) = true) → ∀ w2, Rf w0 w2 g e cap d → Kn [.int .i64 ((k - 1 : Nat) : Int)] w2) (k2 : ¬ (i ≤ k ∧ (!ltInt d[k]! d[a]!) = true) → ∀ w2, Rf w0 w2 g e cap d → K0 [.int .i64 (k : Int)] w2) :
  M.g.j13 [.int .i64 (i : Int)] [.int .i64 (k : Int)] (.slice (some ⟨g, 0, none⟩) n cap) (.int .i64 (a : Int)) K0 Kn w1 K := by
 unfold M.g.j13
 by_cases hik : i ≤ k
 ·have a1 := H1.row.at (show k < d.size by omega)
  have a2 := H1.row.at (show a < d.size by omega)
  have b1 : (k : Int) < n := by omega
  have b2 : (a : Int) < n := by omega
  have b3 : (i : Int) ≤ k := by omega
  have hw : IntKind.i64.wrap ((k : Int) - 1) = ((k - 1 : Nat) : Int) := by rw [fj (by omega) (by omega)]; omega
  simp [g0, b1, b2, b3, a1, a2]
  refine jo _ _ ?_
  cases hl : ltInt d[k]! d[a]! with
  | true =>
   simp [hw]
   have := k2 (fun h => by simp [hl] at h) _ (H1.dr 1)
   simpa using this
  | false =>
   simp [hw]
   have := k1 ⟨hik, by simp [hl]⟩ _ (H1.dr 1)
   simpa using this
 ·have b3 : ¬ (i : Int) ≤ k := by omega
  simp [g0, b3]
  have := k2 (fun h => hik h.1) _ (H1.dr 1)
  simpa using this
theorem alb {w0 w1 : World} {vi : Value} {a k j : Nat} {K0 Kn : KL} {K : KV} (H1 : Rf w0 w1 g e cap d) (hn : d.size = n) (h6 : n < 100000) (ha : a < n) (hj : j < n) (hk : k ≤ j + 2)
  (k1 : (k ≤ j ∧ (!ltInt d[a]! d[k]!) = true) → ∀ w2, Rf w0 w2 g e cap d → Kn [.int .i64 ((k + 1 : Nat) : Int)] w2) (k2 : ¬ (k ≤ j ∧ (!ltInt d[a]! d[k]!) = true) → ∀ w2, Rf w0 w2 g e cap d → K0 [.int .i64 (k : Int)] w2) :
  M.j.j3 [.int .i64 (k : Int)] [vi, .int .i64 (j : Int)] (.slice (some ⟨g, 0, none⟩) n cap) (.int .i64 (a : Int)) K0 Kn w1 K := by
 unfold M.j.j3
 by_cases hkj : k ≤ j
 ·have a1 := H1.row.at (show k < d.size by omega)
  have a2 := H1.row.at (show a < d.size by omega)
  have b1 : (k : Int) < n := by omega
  have b2 : (a : Int) < n := by omega
  have b3 : (k : Int) ≤ j := by omega
  simp [g0, g21, b1, b2, b3, a1, a2]
  refine jo _ _ ?_
  cases hl : ltInt d[a]! d[k]! with
  | true =>
   simp [jg (show k < 1000000 by omega)]
   have := k2 (fun h => by simp [hl] at h) _ (H1.dr 1)
   simpa using this
  | false =>
   simp [jg (show k < 1000000 by omega)]
   have := k1 ⟨hkj, by simp [hl]⟩ _ (H1.dr 1)
   simpa using this
 ·have b3 : ¬ (k : Int) ≤ j := by omega
  simp [g0, g21, b3]
  have := k2 (fun h => hkj h.1) _ (H1.dr 1)
  simpa using this
theorem akm {w0 w1 : World} {a k i : Nat} {K0 Kn : KL} {K : KV} (H1 : Rf w0 w1 g e cap d) (hn : d.size = n) (h6 : n < 100000) (hai : a < n ∧ 1 ≤ i) (hk : k < n)
  (k1 : (i ≤ k ∧ ltInt d[a]! d[k]! = true) → ∀ w2, Rf w0 w2 g e cap d → Kn [.int .i64 ((k - 1 : Nat) : Int)] w2) (k2 : ¬ (i ≤ k ∧ ltInt d[a]! d[k]! = true) → ∀ w2, Rf w0 w2 g e cap d → K0 [.int .i64 (k : Int)] w2) :
  M.j.j6 [.int .i64 (i : Int)] [.int .i64 (k : Int)] (.slice (some ⟨g, 0, none⟩) n cap) (.int .i64 (a : Int)) K0 Kn w1 K := by
 unfold M.j.j6
 by_cases hik : i ≤ k
 ·have a1 := H1.row.at (show k < d.size by omega)
  have a2 := H1.row.at (show a < d.size by omega)
  have b1 : (k : Int) < n := by omega
  have b2 : (a : Int) < n := by omega
  have b3 : (i : Int) ≤ k := by omega
  have hw : IntKind.i64.wrap ((k : Int) - 1) = ((k - 1 : Nat) : Int) := by rw [fj (by omega) (by omega)]; omega
  simp [g0, b1, b2, b3, a1, a2]
  refine jo _ _ ?_
  cases hl : ltInt d[a]! d[k]! with
  | true =>
   simp [hw]
   have := k1 ⟨hik, hl⟩ _ (H1.dr 1)
   simpa using this
  | false =>
   simp [hw]
   have := k2 (fun h => by simp [hl] at h) _ (H1.dr 1)
   simpa using this
 ·have b3 : ¬ (i : Int) ≤ k := by omega
  simp [g0, b3]
  have := k2 (fun h => hik h.1) _ (H1.dr 1)
  simpa using this
end
def PlI (w : World) (g : Nat) (e : TypeId) (cap n a b : Nat) (R : Nat × Array Int) : KL := fun x w1 => ∃ (i j : Nat) (d : Array Int), x = [.int .i64 (i : Int), .int .i64 (j : Int)] ∧ Rf w w1 g e cap d ∧ d.size = n ∧ a < i ∧ i ≤ j + 2 ∧ j < b ∧ partLoop ltInt a i j d = R
theorem aaq {w : World} {g cap n : Nat} {e : TypeId} {d : Array Int} (H : Rw w g e cap d) (hn : d.size = n) (h6 : n < 100000) {a b pv : Nat} (hb : b ≤ n) (ha : a ≤ pv) (hp : pv < b) {K : KV}
  (h : ∀ w', Rf w w' g e cap (partition ltInt d a b pv).2.2 → K (.tuple #[.int .i64 ((partition ltInt d a b pv).1 : Nat), .bool (partition ltInt d a b pv).2.1]) w') :
  ij P F.ax [.slice (some ⟨g, 0, none⟩) n cap, .int .i64 a, .int .i64 b, .int .i64 pv] w K := by
 apply M.g.calls
 unfold M.g
 have a1 := H.at (show a < d.size by omega)
 have a2 := H.at (show pv < d.size by omega)
 have b1 : (a : Int) < n := by omega
 have b2 : (pv : Int) < n := by omega
 have f1 := H.frz a
 have f2 := H.frz pv
 have hw1 : IntKind.i64.wrap ((a : Int) + 1) = ((a + 1 : Nat) : Int) := jg (by omega)
 have hw2 : IntKind.i64.wrap ((b : Int) - 1) = ((b - 1 : Nat) : Int) := by rw [fj (by omega) (by omega)]; omega
 simp [b1, b2, a1, a2, f1, f2, gj, gp, hw1, hw2, -Int.natCast_add, -fh]
 have H1 := (H.lx.dr 1).swp (i := a) (j := pv) (by omega) (by omega)
 generalize ((dr w 1).setCell ⟨g, a, none⟩ (.int .i64 d[pv]!)).setCell ⟨g, pv, none⟩ (.int .i64 d[a]!) = w1 at *
 clear a1 a2 f1 f2
 unfold partition at h
 have hn1 : (Sort.swp d a pv).size = n := by rw [size_swp]; exact hn
 generalize Sort.swp d a pv = d1 at *
 try simp only at h
 refine xw (p := fun x => ltInt x d1[a]!) (i := a + 1) (j := b - 1) H1.row (by omega) (fun k w2 Kn hk H2 k1 k2 => by refine aku H2 hn1 h6 (by omega) (by omega) hk ?_ ?_ <;> first | exact k1 | exact k2) fun w2 H2 => ?_
 have hge := scanUp_ge (fun x => ltInt x d1[a]!) d1 (b - 1) (a + 1)
 have hle := ts (fun x => ltInt x d1[a]!) d1 (b - 1) (a + 1)
 generalize scanUp (fun x => ltInt x d1[a]!) d1 (b - 1) (a + 1) = i at *
 refine tm (n := n) (p := fun x => !ltInt x d1[a]!) H2.row (by omega) (i := i) (j := b - 1) (by omega) (fun k w3 Kn hk H3 k1 k2 => by refine akk H3 hn1 h6 (by omega) hk ?_ ?_ <;> first | exact k1 | exact k2) fun w3 H3 => ?_
 have hdl := scanDown_le (fun x => !ltInt x d1[a]!) d1 i (b - 1)
 generalize scanDown (fun x => !ltInt x d1[a]!) d1 i (b - 1) = j at *
 have H3' := H1.trans (H2.trans H3)
 unfold M.g.j3
 have c1 := H3.row.at (show a < d1.size by omega)
 have c2 := H3.row.at (show j < d1.size by omega)
 have e1 : (j : Int) < n := by omega
 have f1 := H3.row.frz a
 have f2 := H3.row.frz j
 simp only [fh, g0]
 by_cases hij : i > j
 ·have hij' : (j : Int) < i := by omega
  rw [if_pos hij] at h
  simp [hij', b1, e1, c1, c2, f1, f2, gj, gp, -Int.natCast_add]
  exact h _ ((H3'.dr 1).swp (by omega) (by omega))
 ·have hij' : ¬ (j : Int) < i := by omega
  rw [if_neg hij] at h
  simp only [nt, hij', decide_false, Eng.cond_false]
  unfold M.g.j6
  have c3 := H3.row.at (show i < d1.size by omega)
  have e2 : (i : Int) < n := by omega
  have f3 := H3.row.frz i
  have hw3 : IntKind.i64.wrap ((i : Int) + 1) = ((i + 1 : Nat) : Int) := jg (by omega)
  have hw4 : IntKind.i64.wrap ((j : Int) - 1) = ((j - 1 : Nat) : Int) := by rw [fj (by omega) (by omega)]; omega
  simp [g0, e1, e2, c2, c3, f2, f3, gj, gp, hw3, hw4, -Int.natCast_add, -fh]
  rw [fh]
  have H4 := (H3'.dr 1).swp (i := i) (j := j) (by omega) (by omega)
  generalize ((dr w3 1).setCell ⟨g, i, none⟩ (.int .i64 d1[j]!)).setCell ⟨g, j, none⟩ (.int .i64 d1[i]!) = w4 at *
  have hn2 : (Sort.swp d1 i j).size = n := by rw [size_swp]; exact hn1
  generalize Sort.swp d1 i j = d2 at *
  generalize hr : partLoop ltInt a (i + 1) (j - 1) d2 = r at *
  refine ⟨PlI w g e cap n a b r, fun x _ => ms x 1 + 2 - ms x 0, ⟨i + 1, j - 1, d2, rfl, H4, hn2, by omega, by omega, by omega, hr⟩, ?_⟩
  rintro x w5 ⟨i5, j5, d5, rfl, H5, hn5, ha5, hij5, hj5, hR⟩
  rw [partLoop_eq] at hR
  refine xw (p := fun x => ltInt x d5[a]!) (i := i5) (j := j5) H5.row hij5 (fun k w6 Kn hk H6 k1 k2 => by refine ahq H6 hn5 h6 (by omega) (by omega) hk ?_ ?_ <;> first | exact k1 | exact k2) fun w6 H6 => ?_
  have hge := scanUp_ge (fun x => ltInt x d5[a]!) d5 j5 i5
  have hle := ts (fun x => ltInt x d5[a]!) d5 j5 i5
  generalize scanUp (fun x => ltInt x d5[a]!) d5 j5 i5 = i6 at *
  unfold M.g.j9
  simp only [g21]
  refine tm (n := n) (p := fun x => !ltInt x d5[a]!) H6.row (by omega) (i := i6) (j := j5) (by omega) (fun k w7 Kn hk H7 k1 k2 => by refine ahs H7 hn5 h6 (by omega) hk ?_ ?_ <;> first | exact k1 | exact k2) fun w7 H7 => ?_
  have hdl := scanDown_le (fun x => !ltInt x d5[a]!) d5 i6 j5
  generalize scanDown (fun x => !ltInt x d5[a]!) d5 i6 j5 = j6 at *
  have H7' := H5.trans (H6.trans H7)
  try simp only at hR
  simp only [g0, fh]
  by_cases hgt : i6 > j6
  ·have hgt' : (j6 : Int) < i6 := by omega
   rw [if_pos hgt] at hR
   simp only [nt, hgt', decide_true, Eng.cond_true]
   unfold M.g.j7
   have c1 := H7.row.at (show a < d5.size by omega)
   have c2 := H7.row.at (show j6 < d5.size by omega)
   have e1 : (j6 : Int) < n := by omega
   have f1 := H7.row.frz a
   have f2 := H7.row.frz j6
   simp [g21, b1, e1, c1, c2, f1, f2, gj, gp, -Int.natCast_add]
   subst hR
   exact h _ ((H7'.dr 1).swp (by omega) (by omega))
  ·have hgt' : ¬ (j6 : Int) < i6 := by omega
   rw [if_neg hgt] at hR
   simp only [nt, hgt', decide_false, Eng.cond_false]
   unfold M.g.j15
   have c1 := H7.row.at (show i6 < d5.size by omega)
   have c2 := H7.row.at (show j6 < d5.size by omega)
   have e1 : (j6 : Int) < n := by omega
   have e2 : (i6 : Int) < n := by omega
   have f1 := H7.row.frz i6
   have f2 := H7.row.frz j6
   have hw3 : IntKind.i64.wrap ((i6 : Int) + 1) = ((i6 + 1 : Nat) : Int) := jg (by omega)
   have hw4 : IntKind.i64.wrap ((j6 : Int) - 1) = ((j6 - 1 : Nat) : Int) := by rw [fj (by omega) (by omega)]; omega
   simp [g0, e1, e2, c1, c2, f1, f2, gj, gp, hw3, hw4, -Int.natCast_add]
   refine ⟨⟨i6 + 1, j6 - 1, _, rfl, (H7'.dr 1).swp (by omega) (by omega), by rw [size_swp]; exact hn5, by omega, by omega, by omega, hR⟩, ?_⟩
   simp [ms, gv]; omega
def PeI (w : World) (g : Nat) (e : TypeId) (cap n a b : Nat) (R : Nat × Array Int) : KL := fun x w1 => ∃ (i j : Nat) (d : Array Int), x = [.int .i64 (i : Int), .int .i64 (j : Int)] ∧ Rf w w1 g e cap d ∧ d.size = n ∧ a < i ∧ i ≤ j + 2 ∧ j < b ∧ partEqLoop ltInt a i j d = R
theorem ut {w : World} {g cap n : Nat} {e : TypeId} {d : Array Int} (H : Rw w g e cap d) (hn : d.size = n) (h6 : n < 100000) {a b pv : Nat} (hb : b ≤ n) (ha : a ≤ pv) (hp : pv < b) {K : KV}
  (h : ∀ w', Rf w w' g e cap (partitionEqual ltInt d a b pv).2 → K (.int .i64 ((partitionEqual ltInt d a b pv).1 : Nat)) w') :
  ij P F.ah [.slice (some ⟨g, 0, none⟩) n cap, .int .i64 a, .int .i64 b, .int .i64 pv] w K := by
 apply M.j.calls
 unfold M.j
 have a1 := H.at (show a < d.size by omega)
 have a2 := H.at (show pv < d.size by omega)
 have b1 : (a : Int) < n := by omega
 have b2 : (pv : Int) < n := by omega
 have f1 := H.frz a
 have f2 := H.frz pv
 have hw1 : IntKind.i64.wrap ((a : Int) + 1) = ((a + 1 : Nat) : Int) := jg (by omega)
 have hw2 : IntKind.i64.wrap ((b : Int) - 1) = ((b - 1 : Nat) : Int) := by rw [fj (by omega) (by omega)]; omega
 simp [b1, b2, a1, a2, f1, f2, gj, gp, hw1, hw2, -Int.natCast_add, -fh]
 have H1 := (H.lx.dr 1).swp (i := a) (j := pv) (by omega) (by omega)
 generalize ((dr w 1).setCell ⟨g, a, none⟩ (.int .i64 d[pv]!)).setCell ⟨g, pv, none⟩ (.int .i64 d[a]!) = w1 at *
 clear a1 a2 f1 f2
 unfold partitionEqual at h
 have hn1 : (Sort.swp d a pv).size = n := by rw [size_swp]; exact hn
 generalize Sort.swp d a pv = d1 at *
 generalize hr : partEqLoop ltInt a (a + 1) (b - 1) d1 = r at *
 rw [fh]
 refine ⟨PeI w g e cap n a b r, fun x _ => ms x 1 + 2 - ms x 0, ⟨a + 1, b - 1, d1, rfl, H1, hn1, by omega, by omega, by omega, hr⟩, ?_⟩
 rintro x w5 ⟨i5, j5, d5, rfl, H5, hn5, ha5, hij5, hj5, hR⟩
 rw [partEqLoop_eq] at hR
 simp only [g20]
 refine xw (p := fun x => !ltInt d5[a]! x) (i := i5) (j := j5) H5.row hij5 (fun k w6 Kn hk H6 k1 k2 => by refine alb H6 hn5 h6 (by omega) (by omega) hk ?_ ?_ <;> first | exact k1 | exact k2) fun w6 H6 => ?_
 have hge := scanUp_ge (fun x => !ltInt d5[a]! x) d5 j5 i5
 have hle := ts (fun x => !ltInt d5[a]! x) d5 j5 i5
 generalize scanUp (fun x => !ltInt d5[a]! x) d5 j5 i5 = i6 at *
 unfold M.j.j2
 simp only [g21]
 refine tm (n := n) (p := fun x => ltInt d5[a]! x) H6.row (by omega) (i := i6) (j := j5) (by omega) (fun k w7 Kn hk H7 k1 k2 => by refine akm H7 hn5 h6 (by omega) hk ?_ ?_ <;> first | exact k1 | exact k2) fun w7 H7 => ?_
 have hdl := scanDown_le (fun x => ltInt d5[a]! x) d5 i6 j5
 generalize scanDown (fun x => ltInt d5[a]! x) d5 i6 j5 = j6 at *
 have H7' := H5.trans (H6.trans H7)
 try simp only at hR
 simp only [g0, fh]
 by_cases hgt : i6 > j6
 ·have hgt' : (j6 : Int) < i6 := by omega
  rw [if_pos hgt] at hR
  simp only [nt, hgt', decide_true, Eng.cond_true, g20]
  subst hR
  exact h _ H7'
 ·have hgt' : ¬ (j6 : Int) < i6 := by omega
  rw [if_neg hgt] at hR
  simp only [nt, hgt', decide_false, Eng.cond_false]
  unfold M.j.j8
  have c1 := H7.row.at (show i6 < d5.size by omega)
  have c2 := H7.row.at (show j6 < d5.size by omega)
  have e1 : (j6 : Int) < n := by omega
  have e2 : (i6 : Int) < n := by omega
  have f1 := H7.row.frz i6
  have f2 := H7.row.frz j6
  have hw3 : IntKind.i64.wrap ((i6 : Int) + 1) = ((i6 + 1 : Nat) : Int) := jg (by omega)
  have hw4 : IntKind.i64.wrap ((j6 : Int) - 1) = ((j6 - 1 : Nat) : Int) := by rw [fj (by omega) (by omega)]; omega
  simp [g0, e1, e2, c1, c2, f1, f2, gj, gp, hw3, hw4, -Int.natCast_add]
  refine ⟨⟨i6 + 1, j6 - 1, _, rfl, (H7'.dr 1).swp (by omega) (by omega), by rw [size_swp]; exact hn5, by omega, by omega, by omega, hR⟩, ?_⟩
  simp [ms, gv]; omega
set_option maxRecDepth 100000
open Go.Eng Go.Sort
def RvI (w : World) (g : Nat) (e : TypeId) (cap n : Nat) (R : Array Int) : KL := fun x w1 => ∃ (i j : Nat) (d : Array Int), x = [.int .i64 (i : Int), .int .i64 (j : Int)] ∧ Rf w w1 g e cap d ∧ d.size = n ∧ i ≤ n ∧ j < n ∧ reverseLoop i j d = R
theorem aec {w : World} {g cap n : Nat} {e : TypeId} {d : Array Int} (H : Rw w g e cap d) (hn : d.size = n) (h6 : n < 100000) {a b : Nat} (hb : b ≤ n) (hab : a < b) {K : KV}
  (h : ∀ w', Rf w w' g e cap (reverseRange d a b) → K (.tuple #[]) w') : ij P F.aq [.slice (some ⟨g, 0, none⟩) n cap, .int .i64 a, .int .i64 b] w K := by
 apply M.ak.calls
 unfold M.ak
 have hw2 : IntKind.i64.wrap ((b : Int) - 1) = ((b - 1 : Nat) : Int) := by rw [fj (by omega) (by omega)]; omega
 simp only [ja, hw2]
 unfold reverseRange at h
 generalize hR : reverseLoop a (b - 1) d = R at *
 refine ⟨RvI w g e cap n R, fun x _ => ms x 1 - ms x 0, ⟨a, b - 1, d, rfl, H.lx, hn, by omega, by omega, hR⟩, ?_⟩
 clear hR
 rintro x w1 ⟨i, j, d1, rfl, H1, hn1, hi, hj, hR⟩
 simp only [fh, g20, g21]
 unfold reverseLoop at hR
 by_cases hij : i < j
 ·have hij' : (i : Int) < j := by omega
  rw [if_pos hij] at hR
  simp only [ka, hij', decide_true, Eng.cond_true]
  unfold M.ak.j1
  have c1 := H1.row.at (show i < d1.size by omega)
  have c2 := H1.row.at (show j < d1.size by omega)
  have e1 : (i : Int) < n := by omega
  have e2 : (j : Int) < n := by omega
  have f1 := H1.row.frz i
  have f2 := H1.row.frz j
  have hw3 : IntKind.i64.wrap ((i : Int) + 1) = ((i + 1 : Nat) : Int) := jg (by omega)
  have hw4 : IntKind.i64.wrap ((j : Int) - 1) = ((j - 1 : Nat) : Int) := by rw [fj (by omega) (by omega)]; omega
  simp [g20, g21, e1, e2, c1, c2, f1, f2, gj, gp, hw3, hw4, -Int.natCast_add]
  refine ⟨⟨i + 1, j - 1, _, rfl, (H1.dr 1).swp (by omega) (by omega), by rw [size_swp]; exact hn1, by omega, by omega, hR⟩, ?_⟩
  simp [ms, gv]; omega
 ·have hij' : ¬ (i : Int) < j := by omega
  rw [if_neg hij] at hR
  subst hR
  simp only [ka, hij', decide_false, Eng.cond_false]
  exact h w1 H1
theorem zc (d : Array Int) (b : Nat) : ∀ m i, b - i ≤ m → i ≤ b → i ≤ scanSorted ltInt d b i ∧ scanSorted ltInt d b i ≤ b := by
 intro m
 induction m with
 | zero =>
  intro i hm hi
  unfold scanSorted
  rw [if_neg (by simp; omega)]
  omega
 | succ m ih =>
  intro i hm hi
  unfold scanSorted
  split
  ·rename_i h
   simp at h
   have := ih (i + 1) (by omega) (by omega)
   omega
  ·omega
theorem rh : ∀ (j : Nat) (d : Array Int), (shiftDown ltInt j d).size = d.size
 | 0, _ => rfl
 | j + 1, d => by
  unfold shiftDown
  split
  ·rfl
  ·rw [rh j, size_swp]
theorem aak (b : Nat) : ∀ (m j : Nat) (d : Array Int), b - j ≤ m → (shiftUp ltInt b j d).size = d.size := by
 intro m
 induction m with
 | zero =>
  intro j d hm
  unfold shiftUp
  rw [if_neg (by omega)]
 | succ m ih =>
  intro j d hm
  unfold shiftUp
  split
  ·split
   ·rfl
   ·rw [ih _ _ (by omega), size_swp]
  ·rfl
section
variable {w : World} {g cap n : Nat} {e : TypeId} {d : Array Int}
def SsI (w : World) (g : Nat) (e : TypeId) (cap : Nat) (d : Array Int) (a b r : Nat) : KL := fun x w1 => ∃ i : Nat, x = [.int .i64 (i : Int)] ∧ Rf w w1 g e cap d ∧ a < i ∧ i ≤ b ∧ scanSorted ltInt d b i = r
theorem ahv (H : Rw w g e cap d) (hn : d.size = n) (h6 : n < 100000) {a b i : Nat} (hb : b ≤ n) (ha : a < i) (hi : i ≤ b) {K4 : KL} {K : KV}
  (h : ∀ w', Rf w w' g e cap d → K4 [.int .i64 (scanSorted ltInt d b i : Nat)] w') :
  fc (fun K4 => gm [.int .i64 (i : Int)] w fun K5 x5 w => M.c.j5 x5 (.int .i64 (b : Int)) (.slice (some ⟨g, 0, none⟩) n cap) K4 K5 w K) K4 := by
 rw [fh]
 generalize hr : scanSorted ltInt d b i = r at *
 refine ⟨SsI w g e cap d a b r, fun x _ => b - ms x 0, ⟨i, rfl, H.lx, ha, hi, hr⟩, ?_⟩
 clear hr
 rintro x w1 ⟨k, rfl, H1, hak, hkb, hR⟩
 unfold M.c.j5
 unfold scanSorted at hR
 by_cases hk : k < b
 ·have a1 := H1.row.at (show k < d.size by omega)
  have a2 := H1.row.at (show k - 1 < d.size by omega)
  have b1 : (k : Int) < n := by omega
  have b2 : ((k - 1 : Nat) : Int) < n := by omega
  have b3 : (k : Int) < b := by omega
  have hw : IntKind.i64.wrap ((k : Int) - 1) = ((k - 1 : Nat) : Int) := by rw [fj (by omega) (by omega)]; omega
  simp [g0, b1, b2, b3, a1, a2, hw]
  refine jo _ _ ?_
  cases hl : ltInt d[k]! d[k - 1]! with
  | true =>
   rw [if_neg (by simp [hl])] at hR
   simp
   rw [← hR] at h
   exact h _ (H1.dr 1)
  | false =>
   rw [if_pos (by simp [hl, hk])] at hR
   simp [jg (show k < 1000000 by omega)]
   refine ⟨⟨k + 1, by simp, H1.dr 1, by omega, by omega, hR⟩, ?_⟩
   simp [ms, gv]; omega
 ·have b3 : ¬ (k : Int) < b := by omega
  rw [if_neg (by simp [hk])] at hR
  simp [g0, b3]
  rw [← hR] at h
  exact h _ (H1.dr 1)
def SdI (w : World) (g : Nat) (e : TypeId) (cap n : Nat) (R : Array Int) : KL := fun x w1 => ∃ (j : Nat) (d : Array Int), x = [.int .i64 (j : Int)] ∧ Rf w w1 g e cap d ∧ d.size = n ∧ j < n ∧ shiftDown ltInt j d = R
theorem aid (H : Rw w g e cap d) (hn : d.size = n) (h6 : n < 100000) {j : Nat} (hj : j < n) {K9 : KL} {K : KV}
  (h : ∀ w' v, Rf w w' g e cap (shiftDown ltInt j d) → K9 [v] w') :
  gm [.int .i64 (j : Int)] w fun K10 x10 w => fc (fun K11 => en P .geq T.b (.tmp 64) (.const (.int .i64 1)) (gv x10 0) (.int .i64 1) w fun t65 w => fg t65 (K11 [] w) (K9 [(gv x10 0)] w)) fun x11 w => M.c.j11 (.slice (some ⟨g, 0, none⟩) n cap) x10 K9 K10 w K := by
 generalize hr : shiftDown ltInt j d = R at *
 refine ⟨SdI w g e cap n R, fun x _ => ms x 0, ⟨j, d, rfl, H.lx, hn, hj, hr⟩, ?_⟩
 clear hr
 rintro x w1 ⟨k, d1, rfl, H1, hn1, hk, hR⟩
 simp only [fh, g0, ke]
 cases k with
 | zero =>
  have hk0 : ¬ (1 : Int) ≤ ((0 : Nat) : Int) := by omega
  simp only [hk0, decide_false, Eng.cond_false]
  unfold shiftDown at hR
  subst hR
  exact h _ _ H1
 | succ k =>
  have hk0 : (1 : Int) ≤ ((k + 1 : Nat) : Int) := by omega
  simp only [hk0, decide_true, Eng.cond_true]
  unfold M.c.j11
  unfold shiftDown at hR
  have a1 := H1.row.at (show k + 1 < d1.size by omega)
  have a2 := H1.row.at (show k < d1.size by omega)
  have b1 : ((k + 1 : Nat) : Int) < n := by omega
  have b2 : (k : Int) < n := by omega
  have f1 := H1.row.frz (k + 1)
  have f2 := H1.row.frz k
  have hw : IntKind.i64.wrap (((k + 1 : Nat) : Int) - 1) = (k : Int) := by rw [fj (by omega) (by omega)]; omega
  simp [g0, b1, b2, a1, a2, hw, -Int.natCast_add]
  refine jo _ _ ?_
  cases hl : ltInt d1[k + 1]! d1[k]! with
  | false =>
   rw [if_pos (by simp [hl])] at hR
   subst hR
   simp
   exact h _ _ (H1.dr 1)
  | true =>
   rw [if_neg (by simp [hl])] at hR
   simp [-Int.natCast_add]
   unfold M.c.j13
   simp [g0, b1, b2, a1, a2, f1, f2, hw, gj, gp, -Int.natCast_add]
   refine ⟨⟨k, _, rfl, ((H1.dr 1).dr 1).swp (by omega) (by omega), by rw [size_swp]; exact hn1, by omega, hR⟩, ?_⟩
   simp [ms, gv]
def SuI (w : World) (g : Nat) (e : TypeId) (cap n b : Nat) (R : Array Int) : KL := fun x w1 => ∃ (j : Nat) (d : Array Int), x = [.int .i64 (j : Int)] ∧ Rf w w1 g e cap d ∧ d.size = n ∧ 1 ≤ j ∧ j ≤ b ∧ shiftUp ltInt b j d = R
theorem anh (H : Rw w g e cap d) (hn : d.size = n) (h6 : n < 100000) {j b : Nat} (hb : b ≤ n) (hj : 1 ≤ j) (hjb : j ≤ b) {K3 : KL} {x4 x8 x9 : List Value} {K : KV}
  (h : ∀ w' v, Rf w w' g e cap (shiftUp ltInt b j d) → K3 [gv x4 0, gv x8 0, gv x9 0, v] w') :
  gm [.int .i64 (j : Int)] w fun K14 x14 w => M.c.j14 x14 (.int .i64 (b : Int)) K3 x4 x8 x9 (.slice (some ⟨g, 0, none⟩) n cap) K14 w K := by
 generalize hr : shiftUp ltInt b j d = R at *
 refine ⟨SuI w g e cap n b R, fun x _ => b - ms x 0, ⟨j, d, rfl, H.lx, hn, hj, hjb, hr⟩, ?_⟩
 clear hr
 rintro x w1 ⟨k, d1, rfl, H1, hn1, hk1, hk, hR⟩
 unfold M.c.j14
 simp only [fh, g0, ka]
 unfold shiftUp at hR
 by_cases hkb : k < b
 ·have hkb' : (k : Int) < b := by omega
  rw [if_pos hkb] at hR
  simp only [hkb', decide_true, Eng.cond_true]
  unfold M.c.j15
  have a1 := H1.row.at (show k < d1.size by omega)
  have a2 := H1.row.at (show k - 1 < d1.size by omega)
  have b1 : (k : Int) < n := by omega
  have b2 : ((k - 1 : Nat) : Int) < n := by omega
  have f1 := H1.row.frz k
  have f2 := H1.row.frz (k - 1)
  have hw : IntKind.i64.wrap ((k : Int) - 1) = ((k - 1 : Nat) : Int) := by rw [fj (by omega) (by omega)]; omega
  simp [g0, b1, b2, a1, a2, hw]
  refine jo _ _ ?_
  cases hl : ltInt d1[k]! d1[k - 1]! with
  | false =>
   rw [if_pos (by simp [hl])] at hR
   subst hR
   simp
   exact h _ _ (H1.dr 1)
  | true =>
   rw [if_neg (by simp [hl])] at hR
   simp
   unfold M.c.j17
   simp [g0, b1, b2, a1, a2, f1, f2, hw, gj, gp, jg (show k < 1000000 by omega)]
   refine ⟨⟨k + 1, _, by simp, ((H1.dr 1).dr 1).swp (by omega) (by omega), by rw [size_swp]; exact hn1, by omega, by omega, hR⟩, ?_⟩
   simp [ms, gv]; omega
 ·have hkb' : ¬ (k : Int) < b := by omega
  rw [if_neg hkb] at hR
  simp only [hkb', decide_false, Eng.cond_false]
  subst hR
  exact h _ _ H1
end
def PiI (w : World) (g : Nat) (e : TypeId) (cap n a b : Nat) (R : Array Int × Bool) : KL := fun x w1 => ∃ (u1 u2 u3 : Value) (i s : Nat) (d : Array Int), x = [.int .i64 (i : Int), u1, u2, u3, .int .i64 ((5 - s : Nat) : Int)] ∧ Rf w w1 g e cap d ∧ d.size = n ∧ s ≤ 5 ∧ a < i ∧ i ≤ b ∧ partialIns ltInt a b s i d = R
theorem yx {w : World} {g cap n : Nat} {e : TypeId} {d : Array Int} (H : Rw w g e cap d) (hn : d.size = n) (h6 : n < 100000) {a b : Nat} (hb : b ≤ n) (hab : a < b) {K : KV}
  (h : ∀ w', Rf w w' g e cap (partialInsertionSort ltInt d a b).1 → K (.bool (partialInsertionSort ltInt d a b).2) w') : ij P F.s [.slice (some ⟨g, 0, none⟩) n cap, .int .i64 a, .int .i64 b] w K := by
 apply M.c.calls
 unfold M.c
 simp only [iw, jg (show a < 1000000 by omega), fh]
 unfold partialInsertionSort at h
 generalize hR : partialIns ltInt a b 5 (a + 1) d = R at *
 refine ⟨PiI w g e cap n a b R, fun x _ => 5 - ms x 4, ⟨_, _, _, a + 1, 5, d, rfl, H.lx, hn, by omega, by omega, by omega, hR⟩, ?_⟩
 clear hR
 rintro x w1 ⟨u1, u2, u3, i, s, d1, rfl, H1, hn1, hs, hai, hib, hR⟩
 have q0 : ∀ a b c d e : Value, gv [a, b, c, d, e] 0 = a := fun _ _ _ _ _ => rfl
 have q1 : ∀ a b c d e : Value, gv [a, b, c, d, e] 1 = b := fun _ _ _ _ _ => rfl
 have q2 : ∀ a b c d e : Value, gv [a, b, c, d, e] 2 = c := fun _ _ _ _ _ => rfl
 have q3 : ∀ a b c d e : Value, gv [a, b, c, d, e] 3 = d := fun _ _ _ _ _ => rfl
 have q4 : ∀ a b c d e : Value, gv [a, b, c, d, e] 4 = e := fun _ _ _ _ _ => rfl
 unfold M.c.j1
 simp only [fh, q0, q1, q2, q3, q4, ka]
 cases s with
 | zero =>
  simp
  unfold partialIns at hR
  subst hR
  exact h _ H1
 | succ s =>
  rw [show 5 - (s + 1) = 4 - s from by omega]
  have hs5 : ((4 - s : Nat) : Int) < 5 := by omega
  simp only [hs5, decide_true, Eng.cond_true]
  unfold M.c.j2
  unfold partialIns at hR
  simp only at hR
  rw [fh]
  simp only [q0, q1, q2, q3, q4]
  refine ahv (a := a) H1.row hn1 h6 hb hai hib fun w2 H2 => ?_
  have hsc := zc d1 b _ i (Nat.le_refl _) hib
  generalize scanSorted ltInt d1 b i = i2 at *
  have H2' := H1.trans H2
  simp only [fh, g0, rm]
  by_cases hib2 : i2 = b
  ·have : (i2 : Int) = b := by omega
   rw [if_pos hib2] at hR
   simp only [this, decide_true, Eng.cond_true]
   subst hR
   exact h _ H2'
  have hib2' : ¬ (i2 : Int) = b := by omega
  rw [if_neg hib2] at hR
  simp only [hib2', decide_false, Eng.cond_false]
  unfold M.c.j7
  have hw0 : IntKind.i64.wrap ((b : Int) - a) = ((b - a : Nat) : Int) := na (by omega) (by omega)
  simp only [fh, ja, hw0, ka]
  by_cases h50 : b - a < 50
  ·have : ((b - a : Nat) : Int) < 50 := by omega
   rw [if_pos h50] at hR
   simp only [this, decide_true, Eng.cond_true]
   subst hR
   exact h _ H2'
  have h50' : ¬ ((b - a : Nat) : Int) < 50 := by omega
  rw [if_neg h50] at hR
  simp only [h50', decide_false, Eng.cond_false]
  unfold M.c.j8
  have a1 := H2.row.at (show i2 < d1.size by omega)
  have a2 := H2.row.at (show i2 - 1 < d1.size by omega)
  have b1 : (i2 : Int) < n := by omega
  have b2 : ((i2 - 1 : Nat) : Int) < n := by omega
  have f1 := H2.row.frz i2
  have f2 := H2.row.frz (i2 - 1)
  have hw : IntKind.i64.wrap ((i2 : Int) - 1) = ((i2 - 1 : Nat) : Int) := by rw [fj (by omega) (by omega)]; omega
  have hwa : IntKind.i64.wrap ((i2 : Int) - a) = ((i2 - a : Nat) : Int) := na (by omega) (by omega)
  simp [g0, b1, b2, a1, a2, f1, f2, hw, hwa, gj, gp, -fh]
  have H3 := (H2'.dr 1).swp (i := i2) (j := i2 - 1) (by omega) (by omega)
  generalize ((dr w2 1).setCell ⟨g, i2, none⟩ (.int .i64 d1[i2 - 1]!)).setCell ⟨g, i2 - 1, none⟩ (.int .i64 d1[i2]!) = w3 at *
  have hn3 : (Sort.swp d1 i2 (i2 - 1)).size = n := by rw [size_swp]; exact hn1
  generalize Sort.swp d1 i2 (i2 - 1) = d3 at *
  -- behind the shift gh
  have tail : ∀ (x9 : List Value) (w4 : World) (d4 : Array Int), Rf w w4 g e cap d4 → d4.size = n → partialIns ltInt a b s i2 (if b - i2 ≥ 2 then shiftUp ltInt b (i2 + 1) d4 else d4) = R → ∀ (K3 : KL) (x8 x1 : List Value),
    (∀ w' v, ∀ d5, Rf w w' g e cap d5 → d5.size = n → partialIns ltInt a b s i2 d5 = R → K3 [.int .i64 (i2 : Int), gv x8 0, gv x9 0, v] w') →
    M.c.j9 (.int .i64 b) [.int .i64 i2] K3 x8 x9 (.slice (some ⟨g, 0, none⟩) n cap) x1 w4 K := by
   intro x9 w4 d4 H4 hn4 hR4 K3 x8 x1 hK
   unfold M.c.j9
   have hwb : IntKind.i64.wrap ((b : Int) - i2) = ((b - i2 : Nat) : Int) := na (by omega) (by omega)
   simp only [g0, ja, hwb, ke]
   by_cases h2 : b - i2 ≥ 2
   ·have h2' : (2 : Int) ≤ ((b - i2 : Nat) : Int) := by omega
    rw [if_pos h2] at hR4
    simp only [h2', decide_true, Eng.cond_true, iw, jg (show i2 < 1000000 by omega)]
    refine anh H4.row hn4 h6 hb (by omega) (by omega) fun w5 v H5 => ?_
    exact hK _ v _ (H4.trans H5) (by rw [aak _ _ _ _ (Nat.le_refl _)]; exact hn4) hR4
   ·have h2' : ¬ (2 : Int) ≤ ((b - i2 : Nat) : Int) := by omega
    rw [if_neg h2] at hR4
    simp only [h2', decide_false, Eng.cond_false]
    exact hK _ _ _ H4 hn4 hR4
  have fin : ∀ w' (x : List Value) d5, gv x 0 = .int .i64 i2 → Rf w w' g e cap d5 → d5.size = n → partialIns ltInt a b s i2 d5 = R →
    PiI w g e cap n a b R [gv x 0, gv x 1, gv x 2, gv x 3, .int .i64 (IntKind.i64.wrap (((4 - s : Nat) : Int) + 1))] w' ∧ 5 - ms [gv x 0, gv x 1, gv x 2, gv x 3, .int .i64 (IntKind.i64.wrap (((4 - s : Nat) : Int) + 1))] 4 < 5 - ms [.int .i64 (i : Int), u1, u2, u3, .int .i64 ((4 - s : Nat) : Int)] 4 := by
   intro w' x d5 hx H5 hn5 hR5
   have : IntKind.i64.wrap (((4 - s : Nat) : Int) + 1) = ((5 - s : Nat) : Int) := by rw [fj (by omega) (by omega)]; omega
   rw [this, hx]
   refine ⟨⟨_, _, _, i2, s, d5, rfl, H5, hn5, by omega, by omega, by omega, hR5⟩, ?_⟩
   simp only [ms, q4]; omega
  by_cases h2 : i2 - a ≥ 2
  ·have h2' : (2 : Int) ≤ ((i2 - a : Nat) : Int) := by omega
   rw [if_pos h2] at hR
   simp only [fh, h2', decide_true, Eng.cond_true]
   refine aid H3.row hn3 h6 (by omega) fun w4 v H4 => ?_
   refine tail _ _ _ (H3.trans H4) (by rw [rh]; exact hn3) hR _ _ _ fun w' v d5 H5 hn5 hR5 => ?_
   exact fin w' [.int .i64 (i2 : Int), _, _, v] d5 rfl H5 hn5 hR5
  ·have h2' : ¬ (2 : Int) ≤ ((i2 - a : Nat) : Int) := by omega
   rw [if_neg h2] at hR
   simp only [fh, h2', decide_false, Eng.cond_false]
   refine tail _ _ _ H3 hn3 hR _ _ _ fun w' v d5 H5 hn5 hR5 => ?_
   exact fin w' [.int .i64 (i2 : Int), _, _, v] d5 rfl H5 hn5 hR5
end Go.Proofs.YtfnhoaemapheoaaGreat.Sint
set_option maxRecDepth 100000
namespace Go.Proofs.YtfnhoaemapheoaaGreat
open Go.Eng
theorem beh : ∀ v : Fin 256, ((⟨#[0, 1, 2, 2, 3, 3, 3, 3, 4, 4, 4, 4, 4, 4, 4, 4, 5, 5, 5, 5, 5, 5, 5, 5, 5, 5, 5, 5, 5, 5, 5, 5, 6, 6, 6, 6, 6, 6, 6, 6, 6, 6, 6, 6, 6, 6, 6, 6, 6, 6, 6, 6, 6, 6, 6, 6, 6, 6, 6, 6, 6, 6, 6, 6, 7, 7, 7, 7, 7, 7, 7, 7, 7, 7, 7, 7, 7, 7, 7, 7, 7, 7, 7, 7, 7, 7, 7, 7, 7, 7, 7, 7, 7, 7, 7, 7, 7, 7, 7, 7, 7, 7, 7, 7, 7, 7, 7, 7, 7, 7, 7, 7, 7, 7, 7, 7, 7, 7, 7, 7, 7, 7, 7, 7, 7, 7, 7, 7, 8, 8, 8, 8, 8, 8, 8, 8, 8, 8, 8, 8, 8, 8, 8, 8, 8, 8, 8, 8, 8, 8, 8, 8, 8, 8, 8, 8, 8, 8, 8, 8, 8, 8, 8, 8, 8, 8, 8, 8, 8, 8, 8, 8, 8, 8, 8, 8, 8, 8, 8, 8, 8, 8, 8, 8, 8, 8, 8, 8, 8, 8, 8, 8, 8, 8, 8, 8, 8, 8, 8, 8, 8, 8, 8, 8, 8, 8, 8, 8, 8, 8, 8, 8, 8, 8, 8, 8, 8, 8, 8, 8, 8, 8, 8, 8, 8, 8, 8, 8, 8, 8, 8, 8, 8, 8, 8, 8, 8, 8, 8, 8, 8, 8, 8, 8, 8, 8, 8, 8, 8, 8, 8, 8, 8, 8, 8, 8]⟩ : ByteArray).get! v.val).toNat = Sort.bitsLen v.val := by decide +kernel
theorem bfj : aau P T.ap = true := .trans (by kernel_rfl) rfl
theorem ayy {w : World} {x : Nat} (hx : x < 65536) {K : KV} (h : K (.int .i64 (Sort.bitsLen x : Nat)) w) : ij P F.dc [.int .u64 x] w K := by
 apply M.au.calls
 unfold M.au
 have h1 : ¬ (4294967296 : Int) ≤ x := by omega
 simp only [fh, ke, h1, decide_false, Eng.cond_false]
 unfold M.au.j0
 have q0 : ∀ a b : Value, gv [a, b] 0 = a := fun _ _ => rfl
 have q1 : ∀ a b : Value, gv [a, b] 1 = b := fun _ _ => rfl
 have h2 : ¬ (65536 : Int) ≤ x := by omega
 simp only [fh, q0, q1, ke, h2, decide_false, Eng.cond_false]
 unfold M.au.j1
 have u64B : qm P T.e .u64 = true := by kernel_rfl
 have u8B : qm P T.aq .u8 = true := by kernel_rfl
 have i64B : qm P T.b .i64 = true := by kernel_rfl
 have fin : ∀ (y z : Nat), y < 256 → z + Sort.bitsLen y = Sort.bitsLen x → z < 1000 → M.au.j2 [.int .u64 y, .int .i64 z] w K := by
  intro y z hy hz hz1
  unfold M.au.j2
  simp only [q0, q1]
  rw [kf u64B u8B, baw hy, bbr bfj (by exact hy)]
  have ht := beh ⟨y, hy⟩
  simp only at ht
  rw [ht, kf u8B i64B]
  have hb : Sort.bitsLen y ≤ 16 := (Sort.bitsLen_le_iff y 16).2 (by omega)
  rw [ajr (by omega), iw]
  have : ((z : Nat) : Int) + (Sort.bitsLen y : Nat) = ((Sort.bitsLen x : Nat) : Int) := by omega
  simp only [this]
  rw [ajr (by omega)]
  exact h
 simp only [fh, q0, q1, ke]
 by_cases h3 : 256 ≤ x
 ·have h3' : (256 : Int) ≤ x := by omega
  have hs : en P .shr T.e (.tmp 15) (.const (.int .u64 8)) (.int .u64 (x : Int)) (.int .u64 8) w = fun K => K (.int .u64 ((x / 256 : Nat) : Int)) w := by
   funext K
   rw [ack (by decide)]
   have : (min (8 : Int).toNat IntKind.u64.bits) = 8 := by decide
   rw [this, aka]
  have ha : IntKind.i64.wrap (0 + 8) = ((8 : Nat) : Int) := by decide
  simp only [h3', decide_true, Eng.cond_true, hs, iw, ha]
  exact fin (x / 256) 8 (by omega) (aqs h3).symm (by decide)
 ·have h3' : ¬ (256 : Int) ≤ x := by omega
  simp only [h3', decide_false, Eng.cond_false]
  exact fin x 0 (by omega) (by omega) (by decide)
theorem act {w : World} {x : Nat} (hx : x < 65536) {K : KV} (h : K (.int .i64 (Sort.bitsLen x : Nat)) w) : ij P F.ch [.int .u64 x] w K := by
 apply M.cl.calls
 unfold M.cl
 simp only [fh, Eng.cond_false]
 rw [M.au.fcall]
 exact ayy hx h
theorem asg {w : World} {x : Nat} (hx : x < 65536) {K : KV} (h : K (.int .u64 ((2 ^ Sort.bitsLen x : Nat) : Int)) w) : ij P F.bd [.int .i64 x] w K := by
 apply M.bs.calls
 unfold M.bs
 have uB : qm P T.ay .u64 = true := by kernel_rfl
 have i64B : qm P T.b .i64 = true := by kernel_rfl
 rw [kf i64B uB, xg (by omega), M.cl.fcall]
 refine act hx ?_
 have hb : Sort.bitsLen x ≤ 16 := (Sort.bitsLen_le_iff x 16).2 (by omega)
 have hp : 2 ^ Sort.bitsLen x ≤ 2 ^ 16 := Nat.pow_le_pow_right (by decide) hb
 rw [aci (by omega)]
 have e1 : (((Sort.bitsLen x : Nat) : Int)).toNat = Sort.bitsLen x := by omega
 have e2 : min (Sort.bitsLen x) IntKind.u64.bits = Sort.bitsLen x := by
  have : IntKind.u64.bits = 64 := rfl
  omega
 have e3 : (1 : Int) * 2 ^ Sort.bitsLen x = ((2 ^ Sort.bitsLen x : Nat) : Int) := by simp
 rw [e1, e2, e3, xg (by omega)]
 exact h
theorem zy {w : World} {b : Nat} {x v : Value} {e : TypeId} (h : w.heap[b]? = some (.cells #[x] e (0, 0))) : ((dr w 1).setCell ⟨b, 0, none⟩ v).heap[b]? = some (.cells #[v] e (0, 0)) :=
 jv (w := dr w 1) h
theorem aio {w : World} {sb : Nat} {x : Int} {e : TypeId} (hb : w.heap[sb]? = some (.cells #[.int .u64 x] e (0, 0))) {K : KV}
  (h : ∀ w' (y : Int), 0 ≤ y → y < 18446744073709551616 → w'.heap[sb]? = some (.cells #[.int .u64 y] e (0, 0)) → Fr (fun b => b = sb) w w' → K (.int .u64 y) w') : ij P F.be [.pointer (some ⟨sb, 0, none⟩)] w K := by
 apply M.bt.calls
 unfold M.bt
 have s13 : ∀ (x : Int) (w : World) (K : KV) (t : TypeId) (rx ry : Operand), en P .shl t rx ry (.int .u64 x) (.int .u64 13) w K = K (.int .u64 (IntKind.u64.wrap (x * 2 ^ min (13 : Int).toNat IntKind.u64.bits))) w := fun x w K t rx ry => aci (by decide)
 have s7 : ∀ (x : Int) (w : World) (K : KV) (t : TypeId) (rx ry : Operand), en P .shr t rx ry (.int .u64 x) (.int .u64 7) w K = K (.int .u64 (x.fdiv (2 ^ min (7 : Int).toNat IntKind.u64.bits))) w := fun x w K t rx ry => ack (by decide)
 have s17 : ∀ (x : Int) (w : World) (K : KV) (t : TypeId) (rx ry : Operand), en P .shl t rx ry (.int .u64 x) (.int .u64 17) w K = K (.int .u64 (IntKind.u64.wrap (x * 2 ^ min (17 : Int).toNat IntKind.u64.bits))) w := fun x w K t rx ry => aci (by decide)
 have c0 := fm hb 0
 have f0 := kj hb 0
 simp only [List.size_toArray, List.getElem?_toArray, List.getElem?_cons_zero] at c0
 simp [c0, f0, s13, s7, s17, ari, gj, gp]
 refine h _ _ (aha _).1 (aha _).2 ?_ ?_
 ·exact zy (zy (zy hb))
 ·exact (((((((Fr.refl (fun b => b = sb) w).dr 1).setCell (.inl rfl) _ _).dr 1).setCell (.inl rfl) _ _).dr 1).setCell (.inl rfl) _ _)
end Go.Proofs.YtfnhoaemapheoaaGreat
set_option maxRecDepth 100000
namespace Go.Proofs.YtfnhoaemapheoaaGreat.Sint
open Go.Eng Go.Sort
theorem Rf.vz {w w' w'' : World} {g cap sb : Nat} {e : TypeId} {d : Array Int} (h : Rf w w' g e cap d) (f : Fr (fun b => b = sb) w' w'') (hs : w.heap.size ≤ sb) (hne : sb ≠ g) : Rf w w'' g e cap d :=
 ⟨h.row.fr f fun h => hne h.symm, h.fr.kg f fun b hb he => by omega⟩
theorem Rf.new {w w' : World} {g cap : Nat} {e : TypeId} {d : Array Int} (h : Rf w w' g e cap d) (o : Obj) : Rf w (w'.alloc o) g e cap d :=
 ⟨h.row.fr ((Fr.refl (fun _ => False) w').alloc o) fun h => h, h.fr.alloc o⟩
def Sw (w : World) (sb : Nat) : Prop := ∃ x e, w.heap[sb]? = some (.cells #[.int .i64 x] e (0, 0))
theorem ug {w : World} {g cap n sb : Nat} {e : TypeId} {d : Array Int} (H : Rw w g e cap d) (hn : d.size = n) (S : Sw w sb) (hne : sb ≠ g) {a b : Nat} (ha : a < n) (hb : b < n) {K : KV}
  (h : ∀ w' x y, (x = a ∧ y = b ∨ x = b ∧ y = a) → Sw w' sb → Fr (fun b => b = sb) w w' → K (.tuple #[.int .i64 (x : Nat), .int .i64 (y : Nat)]) w') :
  ey P F.ae [.slice (some ⟨g, 0, none⟩) n cap, .int .i64 a, .int .i64 b, .pointer (some ⟨sb, 0, none⟩)] w K := by
 rw [M.bv.fcall]
 apply M.bv.calls
 unfold M.bv
 have a1 := H.at (show a < d.size by omega)
 have a2 := H.at (show b < d.size by omega)
 have b1 : (a : Int) < n := by omega
 have b2 : (b : Int) < n := by omega
 simp [b1, b2, a1, a2]
 refine jo _ _ ?_
 obtain ⟨x, e', hx⟩ := S
 cases hl : ltInt d[b]! d[a]! with
 | false =>
  simp
  exact h _ a b (.inl ⟨rfl, rfl⟩) ⟨x, e', hx⟩ ((Fr.refl _ _).dr 1)
 | true =>
  have c0 := fm hx 0
  have f0 := kj hx 0
  simp only [List.size_toArray, List.getElem?_toArray, List.getElem?_cons_zero] at c0
  simp [c0, f0]
  exact h _ b a (.inr ⟨rfl, rfl⟩) ⟨IntKind.i64.wrap (x + 1), e', zy hx⟩ (((Fr.refl (fun b => b = sb) w).dr 1).setCell (.inl rfl) _ _)
theorem yn {w : World} {g cap n sb : Nat} {e : TypeId} {d : Array Int} (H : Rw w g e cap d) (hn : d.size = n) (S : Sw w sb) (hne : sb ≠ g) {a b c : Nat} (ha : a < n) (hb : b < n) (hc : c < n) {K : KV}
  (h : ∀ w' x, (x = a ∨ x = b ∨ x = c) → Sw w' sb → Fr (fun b => b = sb) w w' → K (.int .i64 (x : Nat)) w') :
  ey P F.ad [.slice (some ⟨g, 0, none⟩) n cap, .int .i64 a, .int .i64 b, .int .i64 c, .pointer (some ⟨sb, 0, none⟩)] w K := by
 rw [M.bu.fcall]
 apply M.bu.calls
 unfold M.bu
 refine ug H hn S hne ha hb fun w1 x1 y1 h1 S1 f1 => ?_
 simp
 have H1 := H.fr f1 fun h => hne h.symm
 refine ug H1 hn S1 hne (a := y1) (b := c) (by omega) hc fun w2 x2 y2 h2 S2 f2 => ?_
 simp
 have H2 := H1.fr f2 fun h => hne h.symm
 refine ug H2 hn S2 hne (a := x1) (b := x2) (by omega) (by omega) fun w3 x3 y3 h3 S3 f3 => ?_
 simp
 exact h w3 y3 (by omega) S3 ((f1.trans f2).trans f3)
theorem aan {w : World} {g cap n sb : Nat} {e : TypeId} {d : Array Int} (H : Rw w g e cap d) (hn : d.size = n) (h6 : n < 100000) (S : Sw w sb) (hne : sb ≠ g) {a : Nat} (ha : 1 ≤ a) (hb : a + 1 < n) {K : KV}
  (h : ∀ w' x, (x = a - 1 ∨ x = a ∨ x = a + 1) → Sw w' sb → Fr (fun b => b = sb) w w' → K (.int .i64 (x : Nat)) w') :
  ey P F.j [.slice (some ⟨g, 0, none⟩) n cap, .int .i64 a, .pointer (some ⟨sb, 0, none⟩)] w K := by
 rw [M.bc.fcall]
 apply M.bc.calls
 unfold M.bc
 have hw1 : IntKind.i64.wrap ((a : Int) - 1) = ((a - 1 : Nat) : Int) := by rw [fj (by omega) (by omega)]; omega
 have hw2 : IntKind.i64.wrap ((a : Int) + 1) = ((a + 1 : Nat) : Int) := jg (by omega)
 simp only [ja, iw, hw1, hw2]
 refine yn H hn S hne (by omega) (by omega) (by omega) fun w' x hx S' f' => ?_
 exact h w' x hx S' f'
theorem ahz {w : World} {g cap n : Nat} {e : TypeId} {d : Array Int} (H : Rw w g e cap d) (hn : d.size = n) (h6 : n < 100000) {a b : Nat} (hb : b ≤ n) (hab : a + 12 < b) {K : KV}
  (h : ∀ w' (p hint : Nat), a ≤ p → p < b → hint ≤ 2 → Rf w w' g e cap d → K (.tuple #[.int .i64 (p : Nat), .int .i64 (hint : Nat)]) w') :
  ij P F.au [.slice (some ⟨g, 0, none⟩) n cap, .int .i64 a, .int .i64 b] w K := by
 apply M.ac.calls
 unfold M.ac
 have hw0 : IntKind.i64.wrap ((b : Int) - a) = ((b - a : Nat) : Int) := na (by omega) (by omega)
 generalize hl : b - a = l at *
 have q4 : IntKind.i64.wrap (((l : Nat) : Int).tdiv 4) = ((l / 4 : Nat) : Int) := by rw [Int.tdiv_eq_ediv_of_nonneg (by omega), fj (by omega) (by omega)]; omega
 have m1 : IntKind.i64.wrap (((l / 4 : Nat) : Int) * 1) = ((l / 4 : Nat) : Int) := by rw [fj (by omega) (by omega)]; omega
 have m2 : IntKind.i64.wrap (((l / 4 : Nat) : Int) * 2) = ((l / 4 * 2 : Nat) : Int) := by rw [fj (by omega) (by omega)]; omega
 have m3 : IntKind.i64.wrap (((l / 4 : Nat) : Int) * 3) = ((l / 4 * 3 : Nat) : Int) := by rw [fj (by omega) (by omega)]; omega
 have s1 : IntKind.i64.wrap ((a : Int) + ((l / 4 : Nat) : Int)) = ((a + l / 4 : Nat) : Int) := by rw [fj (by omega) (by omega)]; omega
 have s2 : IntKind.i64.wrap ((a : Int) + ((l / 4 * 2 : Nat) : Int)) = ((a + l / 4 * 2 : Nat) : Int) := by rw [fj (by omega) (by omega)]; omega
 have s3 : IntKind.i64.wrap ((a : Int) + ((l / 4 * 3 : Nat) : Int)) = ((a + l / 4 * 3 : Nat) : Int) := by rw [fj (by omega) (by omega)]; omega
 have bq : ∀ (x : Int) (t : TypeId) (rx ry : Operand) (w : World) (K : KV), en P .quo t rx ry (.int .i64 x) (.int .i64 4) w K = K (.int .i64 (IntKind.i64.wrap (x.tdiv 4))) w := fun x t rx ry w K => zw (by decide)
 have al : ∀ (w : World) (K : KV), alT P T.b w K = K (.pointer (some ⟨w.heap.size, 0, none⟩)) (w.alloc (.cells #[.int .i64 0] T.b)) := fun w K => Eq.trans (by kernel_rfl) rfl
 have c8 : (8 : Int) ≤ (l : Int) := by omega
 simp only [ja, iw, sq, bq, hw0, q4, m1, m2, m3, s1, s2, s3, al, ke, c8, decide_true, Eng.cond_true]
 clear q4 m1 m2 m3 s1 s2 s3 bq al c8 hw0
 have H0 := H.lx.new (.cells #[.int .i64 0] T.b)
 have S0 : Sw (w.alloc (.cells #[.int .i64 0] T.b)) w.heap.size := ⟨0, T.b, by rw [fx, if_pos rfl]⟩
 have hne : w.heap.size ≠ g := by have := H.lt; omega
 generalize w.alloc (.cells #[.int .i64 0] T.b) = w0 at *
 have fin : ∀ (w1 : World) (p : Nat) (v1 v2 : Value), a ≤ p → p < b → Rf w w1 g e cap d → Sw w1 w.heap.size → M.ac.j0 (.pointer (some ⟨w.heap.size, 0, none⟩)) [v1, .int .i64 (p : Nat), v2] w1 K := by
  intro w1 p v1 v2 hp1 hp2 H1 S1
  obtain ⟨x, e', hx⟩ := S1
  unfold M.ac.j0
  have c0 := fm hx 0
  simp only [List.size_toArray, List.getElem?_toArray, List.getElem?_cons_zero] at c0
  have q1 : ∀ a b c : Value, gv [a, b, c] 1 = b := fun _ _ _ => rfl
  by_cases x0 : x = 0
  ·simp [c0, q1, x0]
   exact h w1 p 1 hp1 hp2 (by decide) H1
  by_cases x12 : x = 12
  ·simp [c0, q1, x12]
   exact h w1 p 2 hp1 hp2 (by decide) H1
  ·simp [c0, q1, x0, x12]
   exact h w1 p 0 hp1 hp2 (by decide) H1
 simp only [fh]
 have jl : ∀ (w1 : World) (x y z : Nat), a ≤ x → x < b → a ≤ y → y < b → a ≤ z → z < b → Rf w w1 g e cap d → Sw w1 w.heap.size →
   ey P F.ad [.slice (some ⟨g, 0, none⟩) n cap, gv [.int .i64 (x : Int), .int .i64 (y : Int), .int .i64 (z : Int)] 0, gv [.int .i64 (x : Int), .int .i64 (y : Int), .int .i64 (z : Int)] 1, gv [.int .i64 (x : Int), .int .i64 (y : Int), .int .i64 (z : Int)] 2, .pointer (some ⟨w.heap.size, 0, none⟩)] w1 fun t48 w' =>
    M.ac.j0 (.pointer (some ⟨w.heap.size, 0, none⟩)) [gv [.int .i64 (x : Int), .int .i64 (y : Int), .int .i64 (z : Int)] 0, t48, gv [.int .i64 (x : Int), .int .i64 (y : Int), .int .i64 (z : Int)] 2] w' K := by
  intro w1 x y z hx1 hx2 hy1 hy2 hz1 hz2 H1 S1
  refine yn H1.row hn S1 hne (a := x) (b := y) (c := z) (by omega) (by omega) (by omega) fun w2 p hp S2 f2 => ?_
  exact fin w2 p _ _ (by omega) (by omega) (H1.vz f2 (Nat.le_refl _) hne) S2
 by_cases h50 : 50 ≤ l
 ·have h50' : (50 : Int) ≤ (l : Int) := by omega
  simp only [h50', decide_true, Eng.cond_true]
  refine aan H0.row hn h6 S0 hne (by omega) (by omega) fun w1 x hx S1 f1 => ?_
  have H1 := H0.vz f1 (Nat.le_refl _) hne
  refine aan H1.row hn h6 S1 hne (by omega) (by omega) fun w2 y hy S2 f2 => ?_
  have H2 := H1.vz f2 (Nat.le_refl _) hne
  refine aan H2.row hn h6 S2 hne (by omega) (by omega) fun w3 z hz S3 f3 => ?_
  have H3 := H2.vz f3 (Nat.le_refl _) hne
  exact jl w3 x y z (by omega) (by omega) (by omega) (by omega) (by omega) (by omega) H3 S3
 ·have h50' : ¬ (50 : Int) ≤ (l : Int) := by omega
  simp only [h50', decide_false, Eng.cond_false]
  exact jl w0 (a + l / 4) (a + l / 4 * 2) (a + l / 4 * 3) (by omega) (by omega) (by omega) (by omega) (by omega) (by omega) H0 S0
def BpI (w : World) (g : Nat) (e : TypeId) (cap n a b idx0 : Nat) (d : Array Int) : KL := fun x w1 => ∃ (u : Value) (k : Nat) (d1 : Array Int) (r : Int), x = [u, .int .i64 ((idx0 + k : Nat) : Int)] ∧ Rf w w1 g e cap d1 ∧ d1.size = n ∧ k ≤ 3 ∧ PermIn a b d d1 ∧ 0 ≤ r ∧ r < 18446744073709551616 ∧ w1.heap[w.heap.size]? = some (.cells #[.int .u64 r] T.q (0, 0))
theorem ahw {w : World} {g cap n : Nat} {e : TypeId} {d : Array Int} (H : Rw w g e cap d) (hn : d.size = n) (h6 : n < 60000) {a b : Nat} (hb : b ≤ n) (hab : a + 12 < b) {K : KV}
  (h : ∀ w' d', PermIn a b d d' → Rf w w' g e cap d' → K (.tuple #[]) w') :
  ij P F.am [.slice (some ⟨g, 0, none⟩) n cap, .int .i64 a, .int .i64 b] w K := by
 apply M.p.calls
 unfold M.p
 have hw0 : IntKind.i64.wrap ((b : Int) - a) = ((b - a : Nat) : Int) := na (by omega) (by omega)
 have hlb : a + (b - a) = b := by omega
 generalize hl : b - a = l at *
 have bq : ∀ (x : Int) (t : TypeId) (rx ry : Operand) (w : World) (K : KV), en P .quo t rx ry (.int .i64 x) (.int .i64 4) w K = K (.int .i64 (IntKind.i64.wrap (x.tdiv 4))) w := fun x t rx ry w K => zw (by decide)
 have q4 : IntKind.i64.wrap (((l : Nat) : Int).tdiv 4) = ((l / 4 : Nat) : Int) := by rw [Int.tdiv_eq_ediv_of_nonneg (by omega), fj (by omega) (by omega)]; omega
 have m2 : IntKind.i64.wrap (((l / 4 : Nat) : Int) * 2) = ((l / 4 * 2 : Nat) : Int) := by rw [fj (by omega) (by omega)]; omega
 have s2 : IntKind.i64.wrap ((a : Int) + ((l / 4 * 2 : Nat) : Int)) = ((a + l / 4 * 2 : Nat) : Int) := by rw [fj (by omega) (by omega)]; omega
 have s3 : IntKind.i64.wrap (((a + l / 4 * 2 : Nat) : Int) - 1) = ((a + l / 4 * 2 - 1 + 0 : Nat) : Int) := by rw [fj (by omega) (by omega)]; omega
 have s4 : IntKind.i64.wrap (((a + l / 4 * 2 : Nat) : Int) + 1) = ((a + l / 4 * 2 + 1 : Nat) : Int) := jg (by omega)
 have c8 : (8 : Int) ≤ (l : Int) := by omega
 have i64B : qm P T.b .i64 = true := by kernel_rfl
 have uB : qm P T.ay .u64 = true := by kernel_rfl
 have xB : qm P T.q .u64 = true := by kernel_rfl
 simp only [ja, hw0, ke, c8, decide_true, Eng.cond_true]
 rw [kf i64B xB, xg (by omega)]
 have hx0 : (w.alloc (.cells #[.int .u64 0] T.q)).heap[w.heap.size]? = some (.cells #[.int .u64 0] T.q (0, 0)) := by rw [fx, if_pos rfl]
 have H0 := H.lx.new (.cells #[.int .u64 0] T.q)
 have hne : w.heap.size ≠ g := by have := H.lt; omega
 have c0 := fm hx0 0
 have f0 := kj hx0 0
 simp only [List.size_toArray, List.getElem?_toArray, List.getElem?_cons_zero] at c0
 simp [c0, f0, -fh]
 have hx1 : ((w.alloc (.cells #[.int .u64 0] T.q)).setCell ⟨w.heap.size, 0, none⟩ (.int .u64 l)).heap[w.heap.size]? = some (.cells #[.int .u64 l] T.q (0, 0)) := jv hx0
 have H1 := H0.vz ((Fr.refl (fun b => b = w.heap.size) _).setCell (.inl rfl) 0 (.int .u64 (l : Int))) (Nat.le_refl _) hne
 generalize (w.alloc (.cells #[.int .u64 0] T.q)).setCell ⟨w.heap.size, 0, none⟩ (.int .u64 (l : Int)) = w1 at *
 rw [M.bs.fcall]
 refine asg (by omega) ?_
 have hp2 : 2 ^ bitsLen l ≤ 2 * l := two_pow_bitsLen_le (by omega)
 have hp1 : 0 < 2 ^ bitsLen l := Nat.pow_pos (by decide)
 simp only [bq, q4, sq, m2, iw, s2, ja, s3]
 generalize 2 ^ bitsLen l = md at *
 generalize hi0 : a + l / 4 * 2 - 1 = i0 at *
 refine ⟨BpI w g e cap n a b i0 d, fun x _ => i0 + 3 - ms x 1, ⟨_, 0, d, l, rfl, H1, hn, by omega, permIn_refl d a b, by omega, by omega, hx1⟩, ?_⟩
 rintro x w2 ⟨u, k, d2, r, rfl, H2, hn2, hk, hP, hr0, hr1, hx2⟩
 unfold M.p.j0
 simp only [fh, bq, q4, sq, m2, iw, s2, s4, g21, xv]
 by_cases hk3 : k < 3
 ·have hle : ((i0 + k : Nat) : Int) ≤ ((a + l / 4 * 2 + 1 : Nat) : Int) := by omega
  simp only [hle, decide_true, Eng.cond_true]
  unfold M.p.j1
  simp only [fh, g21]
  rw [M.bt.fcall]
  refine aio hx2 fun w3 y hy0 hy1 hx3 f3 => ?_
  have H3 := H2.vz f3 (Nat.le_refl _) hne
  obtain ⟨z, rfl⟩ : ∃ z : Nat, y = z := ⟨y.toNat, by omega⟩
  have hm1 : IntKind.u64.wrap ((md : Int) - 1) = ((md - 1 : Nat) : Int) := by rw [we (by omega) (by omega)]; omega
  have hand : (BitVec.ofInt IntKind.u64.bits (z : Int) &&& BitVec.ofInt IntKind.u64.bits ((md - 1 : Nat) : Int)).toNat ≤ md - 1 := axg (x := z) (y := md - 1) (by omega) (by omega)
  simp only [ja, hm1, akx]
  generalize (BitVec.ofInt IntKind.u64.bits (z : Int) &&& BitVec.ofInt IntKind.u64.bits ((md - 1 : Nat) : Int)).toNat = o at *
  rw [xg (by omega), kf uB i64B, ajr (by omega)]
  have tail : ∀ (o : Nat), o < l → M.p.j3 (.int .i64 a) [.int .i64 (o : Nat)] (.slice (some ⟨g, 0, none⟩) n cap) [u, .int .i64 ((i0 + k : Nat) : Int)] (fun x2 w' => BpI w g e cap n a b i0 d [gv x2 0, .int .i64 (IntKind.i64.wrap (((i0 + k : Nat) : Int) + 1))] w' ∧ i0 + 3 - ms [gv x2 0, .int .i64 (IntKind.i64.wrap (((i0 + k : Nat) : Int) + 1))] 1 < i0 + 3 - ms [u, .int .i64 ((i0 + k : Nat) : Int)] 1) w3 K := by
   intro o ho
   unfold M.p.j3
   have wr : IntKind.i64.wrap ((a : Int) + (o : Int)) = ((a + o : Nat) : Int) := by rw [fj (by omega) (by omega)]; omega
   have a1 := H3.row.at (show i0 + k < d2.size by omega)
   have a2 := H3.row.at (show a + o < d2.size by omega)
   have b1 : ((i0 + k : Nat) : Int) < n := by omega
   have b2 : ((a + o : Nat) : Int) < n := by omega
   have f1 := H3.row.frz (i0 + k)
   have f2 := H3.row.frz (a + o)
   simp [g0, g21, wr, b1, b2, a1, a2, f1, f2, gj, gp, -Int.natCast_add]
   have hw5 : IntKind.i64.wrap (((i0 + k : Nat) : Int) + 1) = ((i0 + (k + 1) : Nat) : Int) := by rw [fj (by omega) (by omega)]; omega
   rw [hw5]
   refine ⟨⟨_, k + 1, _, z, rfl, (H3.dr 1).swp (by omega) (by omega), by rw [size_swp]; exact hn2, by omega, permIn_trans _ _ _ a b hP (swp_permIn _ a b _ _ (by omega) (by omega) (by omega) (by omega) (by omega)), by omega, by omega, ?_⟩, ?_⟩
   ·rw [zk (by omega), zk (by omega)]; exact hx3
   ·simp only [ms, g21]; omega
  simp only [fh, ke, iw]
  by_cases hol : l ≤ o
  ·have hol' : (l : Int) ≤ o := by omega
   have hwo : IntKind.i64.wrap ((o : Int) - l) = ((o - l : Nat) : Int) := na (by omega) (by omega)
   simp only [hol', decide_true, Eng.cond_true, ja, hwo]
   exact tail (o - l) (by omega)
  ·have hol' : ¬ (l : Int) ≤ o := by omega
   simp only [hol', decide_false, Eng.cond_false]
   exact tail o (by omega)
 ·have hle : ¬ ((i0 + k : Nat) : Int) ≤ ((a + l / 4 * 2 + 1 : Nat) : Int) := by omega
  simp only [hle, decide_false, Eng.cond_false]
  exact h w2 d2 hP H2
set_option maxRecDepth 100000
section
theorem f5 (a0 a1 a2 a3 a4 a5 a6 a7 a8 a9 a10 a11 a12 a13 : Value) : gv [a0, a1, a2, a3, a4, a5, a6, a7, a8, a9, a10, a11, a12, a13] 5 = a5 := rfl
theorem f13 (a0 a1 a2 a3 a4 a5 a6 a7 a8 a9 a10 a11 a12 a13 : Value) : gv [a0, a1, a2, a3, a4, a5, a6, a7, a8, a9, a10, a11, a12, a13] 13 = a13 := rfl
end
structure ayr (w w1 : World) (g : Nat) (e : TypeId) (cap n a0 b0 : Nat) (d0 : Array Int) (a b limit : Nat) (wb wp : Bool) (d : Array Int) : Prop where
 rf : Rf w w1 g e cap d
 sz : d.size = n
 ab : a ≤ b
 bb : b - a ≤ b0 - a0
 bn : b ≤ n
 be : Below ltInt a b d
 fin : ∀ R, PermIn a b d R → SortedIn ltInt a b R → PermIn a0 b0 d0 R ∧ SortedIn ltInt a0 b0 R
def PdI (w : World) (g : Nat) (e : TypeId) (cap n a0 b0 : Nat) (d0 : Array Int) : KL := fun x w1 => ∃ (u0 u2 u3 u4 u6 u7 u9 u10 u11 : Value) (a b limit : Nat) (wb wp : Bool) (d : Array Int),
 x = [u0, .int .i64 (limit : Nat), u2, u3, u4, .int .i64 (a : Nat), u6, u7, .bool wp, u9, u10, u11, .bool wb, .int .i64 (b : Nat)] ∧ limit < 1000 ∧ ayr w w1 g e cap n a0 b0 d0 a b limit wb wp d
def IH (m : Nat) : Prop := ∀ {w : World} {g cap n : Nat} {e : TypeId} {d : Array Int} (_ : Rw w g e cap d) (_ : d.size = n) (_ : n < 60000) {a b limit : Nat} (_ : b - a ≤ m) (_ : a ≤ b) (_ : b ≤ n) (_ : limit < 1000) (_ : Below ltInt a b d) {K : KV}
  (_ : ∀ w' d', PermIn a b d d' → SortedIn ltInt a b d' → Rf w w' g e cap d' → K (.tuple #[]) w'), ij P F.x [.slice (some ⟨g, 0, none⟩) n cap, .int .i64 a, .int .i64 b, .int .i64 limit] w K
section
variable {m : Nat} {w : World} {g cap n : Nat} {e : TypeId} {d d5 : Array Int} {a0 b0 a b pv hint4 lim2 : Nat} {wb wp : Bool} {x0 : List Value} {K : KV}
theorem acj (ih : IH m) (h6 : n < 60000) (hm : b0 - a0 ≤ m + 1) (hbb : b - a ≤ b0 - a0) (hbn : b ≤ n) (hab : a ≤ b) (hpv1 : a ≤ pv) (hpv2 : pv < b) (hlim2 : lim2 < 1000) {w5 : World} (H5 : Rf w w5 g e cap d5) (hn5 : d5.size = n) (B5 : Below ltInt a b d5)
  (hfin5 : ∀ R, PermIn a b d5 R → SortedIn ltInt a b R → PermIn a0 b0 d R ∧ SortedIn ltInt a0 b0 R) (e5 : gv x0 5 = .int .i64 (a : Nat)) (e8 : gv x0 8 = .bool wp) (e12 : gv x0 12 = .bool wb) (e13 : gv x0 13 = .int .i64 (b : Nat)) (m5 : ms x0 5 = a) (m13 : ms x0 13 = b) (v0 : Value) :
  M.f.j6 (.slice (some ⟨g, 0, none⟩) n cap) [v0, .int .i64 (a : Nat)] x0 [.int .i64 (pv : Nat), .int .i64 (hint4 : Nat)] (.int .i64 ((b - a : Nat) : Int)) [.int .i64 (lim2 : Nat)] (fun x' w' => PdI w g e cap n a0 b0 d x' w' ∧ ms x' 13 - ms x' 5 < ms x0 13 - ms x0 5) w5 K := by
 unfold M.f.j6
 simp only [g20, g21, e13]
 rw [M.g.fcall]
 refine aaq H5.row hn5 (by omega) hbn hpv1 hpv2 fun w7 H7 => ?_
 have H7' := H5.trans H7
 obtain ⟨r1, r2, r3, rBa, rBr, rL, rR⟩ := round_part swo_ltInt (partition_holds ltInt) hpv1 hpv2 (by omega) B5 (show partition ltInt d5 a b pv = ((partition ltInt d5 a b pv).1, (partition ltInt d5 a b pv).2.1, (partition ltInt d5 a b pv).2.2) from rfl)
 generalize (partition ltInt d5 a b pv).1 = mid at *
 generalize (partition ltInt d5 a b pv).2.1 = ap at *
 generalize (partition ltInt d5 a b pv).2.2 = d7 at *
 have hn7 : d7.size = n := by omega
 have wl : IntKind.i64.wrap ((mid : Int) - a) = ((mid - a : Nat) : Int) := na (by omega) (by omega)
 have wr : IntKind.i64.wrap ((b : Int) - mid) = ((b - mid : Nat) : Int) := na (by omega) (by omega)
 have wm : IntKind.i64.wrap ((mid : Int) + 1) = ((mid + 1 : Nat) : Int) := jg (by omega)
 have bq : ∀ (x : Int) (t : TypeId) (rx ry : Operand) (w : World) (K : KV), en P .quo t rx ry (.int .i64 x) (.int .i64 8) w K = K (.int .i64 (IntKind.i64.wrap (x.tdiv 8))) w := fun x t rx ry w K => zw (by decide)
 simp only [aev, afs, g0, ja, wl, wr, bq, ka, ke]
 by_cases hlt : mid - a < b - mid
 ·have hlt' : ((mid - a : Nat) : Int) < ((b - mid : Nat) : Int) := by omega
  simp only [hlt', decide_true, Eng.cond_true]
  rw [M.f.fcall]
  refine ih H7.row hn7 h6 (by omega) r1 (by omega) hlim2 rBa fun w8 d8 P8 S8 H8 => ?_
  obtain ⟨hBL, hfinL⟩ := rL d8 P8 S8
  simp only [iw, wm]
  refine ⟨⟨_, _, _, _, _, _, _, _, _, mid + 1, b, lim2, _, ap, d8, rfl, hlim2, ⟨H7'.trans H8, by rw [P8.1]; exact hn7, by omega, by omega, hbn, hBL, fun R h1 h2 => ?_⟩⟩, ?_⟩
  ·obtain ⟨k1, k2⟩ := hfinL R h1 h2
   exact hfin5 R k1 k2
  ·have : ∀ y0 y1 y2 y3 y4 y6 y7 y8 y9 y10 y11 y12 : Value, ms [y0, y1, y2, y3, y4, .int .i64 ((mid + 1 : Nat) : Int), y6, y7, y8, y9, y10, y11, y12, .int .i64 (b : Nat)] 13 = b ∧ ms [y0, y1, y2, y3, y4, .int .i64 ((mid + 1 : Nat) : Int), y6, y7, y8, y9, y10, y11, y12, .int .i64 (b : Nat)] 5 = mid + 1 := fun _ _ _ _ _ _ _ _ _ _ _ _ => ⟨rfl, rfl⟩
   rw [(this _ _ _ _ _ _ _ _ _ _ _ _).1, (this _ _ _ _ _ _ _ _ _ _ _ _).2, m5, m13]; omega
 ·have hlt' : ¬ ((mid - a : Nat) : Int) < ((b - mid : Nat) : Int) := by omega
  simp only [hlt', decide_false, Eng.cond_false, iw, wm]
  rw [M.f.fcall]
  refine ih H7.row hn7 h6 (by omega) (by omega) hbn hlim2 rBr fun w8 d8 P8 S8 H8 => ?_
  obtain ⟨hBL, hfinL⟩ := rR d8 P8 S8
  refine ⟨⟨_, _, _, _, _, _, _, _, _, a, mid, lim2, _, ap, d8, rfl, hlim2, ⟨H7'.trans H8, by rw [P8.1]; exact hn7, by omega, by omega, by omega, hBL, fun R h1 h2 => ?_⟩⟩, ?_⟩
  ·obtain ⟨k1, k2⟩ := hfinL R h1 h2
   exact hfin5 R k1 k2
  ·have : ∀ y0 y1 y2 y3 y4 y6 y7 y8 y9 y10 y11 y12 : Value, ms [y0, y1, y2, y3, y4, .int .i64 (a : Nat), y6, y7, y8, y9, y10, y11, y12, .int .i64 (mid : Nat)] 13 = mid ∧ ms [y0, y1, y2, y3, y4, .int .i64 (a : Nat), y6, y7, y8, y9, y10, y11, y12, .int .i64 (mid : Nat)] 5 = a := fun _ _ _ _ _ _ _ _ _ _ _ _ => ⟨rfl, rfl⟩
   rw [(this _ _ _ _ _ _ _ _ _ _ _ _).1, (this _ _ _ _ _ _ _ _ _ _ _ _).2, m5, m13]; omega
theorem aso (ih : IH m) (h6 : n < 60000) (hm : b0 - a0 ≤ m + 1) (hbb : b - a ≤ b0 - a0) (hbn : b ≤ n) (hab : a ≤ b) (hpv1 : a ≤ pv) (hpv2 : pv < b) (hlim2 : lim2 < 1000) {w5 : World} (H5 : Rf w w5 g e cap d5) (hn5 : d5.size = n) (B5 : Below ltInt a b d5)
  (hfin5 : ∀ R, PermIn a b d5 R → SortedIn ltInt a b R → PermIn a0 b0 d R ∧ SortedIn ltInt a0 b0 R) (e5 : gv x0 5 = .int .i64 (a : Nat)) (e8 : gv x0 8 = .bool wp) (e12 : gv x0 12 = .bool wb) (e13 : gv x0 13 = .int .i64 (b : Nat)) (m5 : ms x0 5 = a) (m13 : ms x0 13 = b) :
  M.f.j5 x0 (.slice (some ⟨g, 0, none⟩) n cap) [.int .i64 (pv : Nat), .int .i64 (hint4 : Nat)] (fun x' w' => PdI w g e cap n a0 b0 d x' w' ∧ ms x' 13 - ms x' 5 < ms x0 13 - ms x0 5) (.int .i64 ((b - a : Nat) : Int)) [.int .i64 (lim2 : Nat)] w5 K := by
 unfold M.f.j5
 simp only [fh, ol, me, e5, e13, g20, true_and, and_true, nt, qj]
 by_cases ha0 : 0 < a
 ·have ha0' : (0 : Int) < (a : Int) := by omega
  have hwa : IntKind.i64.wrap ((a : Int) - 1) = ((a - 1 : Nat) : Int) := by rw [fj (by omega) (by omega)]; omega
  have a1 := H5.row.at (show a - 1 < d5.size by omega)
  have a2 := H5.row.at (show pv < d5.size by omega)
  have b1 : ((a - 1 : Nat) : Int) < n := by omega
  have b2 : (pv : Int) < n := by omega
  simp [ha0, ha0', hwa, a1, a2, b1, b2]
  refine jo _ _ ?_
  cases hl : ltInt d5[a - 1]! d5[pv]! with
  | true =>
   simp
   exact acj ih h6 hm hbb hbn hab hpv1 hpv2 hlim2 (H5.dr 1) hn5 B5 hfin5 e5 e8 e12 e13 m5 m13 _
  | false =>
   simp
   rw [M.j.fcall]
   refine ut (H5.dr 1).row hn5 (by omega) hbn hpv1 hpv2 fun w7 H7 => ?_
   have H7' := (H5.dr 1).trans H7
   obtain ⟨r1, r2, r3, rB, rF⟩ := round_eq swo_ltInt (partitionEqual_holds ltInt) ha0 hpv1 hpv2 (by omega) B5 hl (show partitionEqual ltInt d5 a b pv = ((partitionEqual ltInt d5 a b pv).1, (partitionEqual ltInt d5 a b pv).2) from rfl)
   generalize (partitionEqual ltInt d5 a b pv).1 = mid at *
   generalize (partitionEqual ltInt d5 a b pv).2 = d7 at *
   have hn7 : d7.size = n := by omega
   refine ⟨⟨_, _, _, _, _, _, _, _, _, mid, b, lim2, wb, wp, d7, by rw [e8, e12], hlim2, ⟨H7', hn7, r2, by omega, hbn, rB, fun R h1 h2 => ?_⟩⟩, ?_⟩
   ·obtain ⟨k1, k2⟩ := rF R h1 h2
    exact hfin5 R k1 k2
   ·have : ∀ y0 y1 y2 y3 y4 y6 y7 y8 y9 y10 y11 y12 : Value, ms [y0, y1, y2, y3, y4, .int .i64 (mid : Nat), y6, y7, y8, y9, y10, y11, y12, .int .i64 (b : Nat)] 13 = b ∧ ms [y0, y1, y2, y3, y4, .int .i64 (mid : Nat), y6, y7, y8, y9, y10, y11, y12, .int .i64 (b : Nat)] 5 = mid := fun _ _ _ _ _ _ _ _ _ _ _ _ => ⟨rfl, rfl⟩
    rw [(this _ _ _ _ _ _ _ _ _ _ _ _).1, (this _ _ _ _ _ _ _ _ _ _ _ _).2, m5, m13]; omega
 ·have ha0' : ¬ (0 : Int) < (a : Int) := by omega
  simp [ha0, ha0']
  exact acj ih h6 hm hbb hbn hab hpv1 hpv2 hlim2 (H5.dr 1) hn5 B5 hfin5 e5 e8 e12 e13 m5 m13 _
theorem ach {d1 : Array Int} (ih : IH m) (h6 : n < 60000) (hm : b0 - a0 ≤ m + 1) (hbb : b - a ≤ b0 - a0) (hbn : b ≤ n) (hab : a ≤ b) (hlim2 : lim2 < 1000) (h12 : ¬ b - a ≤ 12) (hn1 : d1.size = n) (hB1 : Below ltInt a b d1)
  (hfin : ∀ R, PermIn a b d1 R → SortedIn ltInt a b R → PermIn a0 b0 d R ∧ SortedIn ltInt a0 b0 R) (h : ∀ w' d', PermIn a0 b0 d d' → SortedIn ltInt a0 b0 d' → Rf w w' g e cap d' → K (.tuple #[]) w')
  (e5 : gv x0 5 = .int .i64 (a : Nat)) (e8 : gv x0 8 = .bool wp) (e12 : gv x0 12 = .bool wb) (e13 : gv x0 13 = .int .i64 (b : Nat)) (m5 : ms x0 5 = a) (m13 : ms x0 13 = b) {w4 : World} {d4 : Array Int} (H4 : Rf w w4 g e cap d4) (P4 : PermIn a b d1 d4) (hpv1 : a ≤ pv) (hpv2 : pv < b) :
  M.f.j4 x0 [.int .i64 (pv : Nat), .int .i64 (hint4 : Nat)] (.slice (some ⟨g, 0, none⟩) n cap) (fun x' w' => PdI w g e cap n a0 b0 d x' w' ∧ ms x' 13 - ms x' 5 < ms x0 13 - ms x0 5) (.int .i64 ((b - a : Nat) : Int)) [.int .i64 (lim2 : Nat)] w4 K := by
 have hn4 : d4.size = n := by rw [P4.1]; exact hn1
 have B4 := hB1.perm (by omega) P4
 have st5 : ∀ (w5 : World) (d5 : Array Int), Rf w w5 g e cap d5 → PermIn a b d1 d5 →
   M.f.j5 x0 (.slice (some ⟨g, 0, none⟩) n cap) [.int .i64 (pv : Nat), .int .i64 (hint4 : Nat)] (fun x' w' => PdI w g e cap n a0 b0 d x' w' ∧ ms x' 13 - ms x' 5 < ms x0 13 - ms x0 5) (.int .i64 ((b - a : Nat) : Int)) [.int .i64 (lim2 : Nat)] w5 K := fun w5 d5 H5 P5 =>
  aso ih h6 hm hbb hbn hab hpv1 hpv2 hlim2 H5 (by rw [P5.1]; exact hn1) (hB1.perm (by omega) P5) (fun R h1 h2 => hfin R (permIn_trans _ _ _ a b P5 h1) h2) e5 e8 e12 e13 m5 m13
 unfold M.f.j4
 simp only [fh, e5, e8, e12, e13, qj, g21]
 cases wb with
 | false => simp; exact st5 w4 d4 H4 P4
 | true =>
  cases wp with
  | false => simp; exact st5 w4 d4 H4 P4
  | true =>
   by_cases hh1 : hint4 = 1
   ·have hd : decide ((hint4 : Int) = 1) = true := by rw [decide_eq_true_eq]; omega
    simp only [qj, acq, rz, beq_self_eq_true, _root_.cond_true, rm, hd, Eng.cond_true]
    rw [M.c.fcall]
    refine yx H4.row hn4 (by omega) hbn (by omega) fun w5 H5 => ?_
    have hpi := partialInsertionSort_holds swo_ltInt d4 a b (by omega) (by omega) B4
    cases hr : (partialInsertionSort ltInt d4 a b).2 with
    | true =>
     simp
     obtain ⟨p1, p2⟩ := hfin _ (permIn_trans _ _ _ a b P4 hpi.1) (hpi.2 hr)
     exact h w5 _ p1 p2 (H4.trans H5)
    | false =>
     simp
     exact st5 w5 _ (H4.trans H5) (permIn_trans _ _ _ a b P4 hpi.1)
   ·have hd : decide ((hint4 : Int) = 1) = false := by rw [decide_eq_false_iff_not]; omega
    simp only [qj, acq, rz, beq_self_eq_true, _root_.cond_true, rm, hd, Eng.cond_false]
    exact st5 w4 d4 H4 P4
theorem zz {d1 : Array Int} (ih : IH m) (h6 : n < 60000) (hm : b0 - a0 ≤ m + 1) (hbb : b - a ≤ b0 - a0) (hbn : b ≤ n) (hab : a ≤ b) (hlim2 : lim2 < 1000) (h12 : ¬ b - a ≤ 12) (hn1 : d1.size = n) (hB1 : Below ltInt a b d1)
  (hfin : ∀ R, PermIn a b d1 R → SortedIn ltInt a b R → PermIn a0 b0 d R ∧ SortedIn ltInt a0 b0 R) (h : ∀ w' d', PermIn a0 b0 d d' → SortedIn ltInt a0 b0 d' → Rf w w' g e cap d' → K (.tuple #[]) w')
  (e5 : gv x0 5 = .int .i64 (a : Nat)) (e8 : gv x0 8 = .bool wp) (e12 : gv x0 12 = .bool wb) (e13 : gv x0 13 = .int .i64 (b : Nat)) (m5 : ms x0 5 = a) (m13 : ms x0 13 = b) {w2 : World} {d2 : Array Int} (H2 : Rf w w2 g e cap d2) (P2 : PermIn a b d1 d2) :
  M.f.j3 (.slice (some ⟨g, 0, none⟩) n cap) x0 (fun x' w' => PdI w g e cap n a0 b0 d x' w' ∧ ms x' 13 - ms x' 5 < ms x0 13 - ms x0 5) (.int .i64 ((b - a : Nat) : Int)) [.int .i64 (lim2 : Nat)] w2 K := by
 have hn2 : d2.size = n := by rw [P2.1]; exact hn1
 have B2 := hB1.perm (by omega) P2
 unfold M.f.j3
 simp only [e5, e13, fh]
 rw [M.ac.fcall]
 refine ahz H2.row hn2 (by omega) hbn (by omega) fun w3 p hint hp1 hp2 hh H3 => ?_
 have H3' := H2.trans H3
 simp only [aev, afs, rm]
 by_cases hh2 : hint = 2
 ·have hh2' : (hint : Int) = 2 := by omega
  simp only [hh2', decide_true, Eng.cond_true]
  rw [M.ak.fcall]
  refine aec H3.row hn2 (by omega) hbn (by omega) fun w4 H4 => ?_
  have hrev := reverseRange_holds d2 a b hab (by omega)
  have w1' : IntKind.i64.wrap ((b : Int) - 1) = ((b - 1 : Nat) : Int) := by rw [fj (by omega) (by omega)]; omega
  have w2' : IntKind.i64.wrap ((p : Int) - a) = ((p - a : Nat) : Int) := na (by omega) (by omega)
  have w3' : IntKind.i64.wrap (((b - 1 : Nat) : Int) - ((p - a : Nat) : Int)) = ((b - 1 - (p - a) : Nat) : Int) := na (by omega) (by omega)
  simp only [ja, w1', w2', w3']
  exact ach (hint4 := 1) ih h6 hm hbb hbn hab hlim2 h12 hn1 hB1 hfin h e5 e8 e12 e13 m5 m13 (H3'.trans H4) (permIn_trans _ _ _ a b P2 hrev) (by omega) (by omega)
 ·have hh2' : ¬ (hint : Int) = 2 := by omega
  simp only [hh2', decide_false, Eng.cond_false]
  exact ach ih h6 hm hbb hbn hab hlim2 h12 hn1 hB1 hfin h e5 e8 e12 e13 m5 m13 H3' P2 hp1 hp2
end
theorem aoa : ∀ (m : Nat), IH m := by
 intro m
 induction m with
 | zero =>
  intro w g cap n e d H hn h6 a b limit hm hab hb hlim hB K h
  -- nothing to sort
  have hba : b = a := by omega
  subst hba
  apply M.f.calls
  unfold M.f
  refine ⟨fun x w1 => x = [undef, .int .i64 (limit : Nat), undef, undef, undef, .int .i64 (b : Nat), undef, undef, .bool true, undef, undef, undef, .bool true, .int .i64 (b : Nat)] ∧ w1 = w, fun _ _ => 0, ⟨rfl, rfl⟩, ?_⟩
  rintro x w1 ⟨rfl, rfl⟩
  unfold M.f.j0
  have hw0 : IntKind.i64.wrap ((b : Int) - b) = 0 := by rw [fj (by omega) (by omega)]; omega
  simp only [f13, f5, ja, hw0, fh, xv]
  rw [M.k.fcall]
  simp
  refine tt H hn (by omega) hb hb fun w2 H2 => ?_
  have hi := insertionSort_holds swo_ltInt d b b (Nat.le_refl _) (by omega)
  exact h w2 _ hi.1 hi.2 H2
 | succ m ih =>
  intro w g cap n e d H hn h6 a0 b0 limit0 hm hab0 hb0 hlim0 hB K h
  apply M.f.calls
  unfold M.f
  refine ⟨PdI w g e cap n a0 b0 d, fun x _ => ms x 13 - ms x 5, ⟨_, _, _, _, _, _, _, _, _, a0, b0, limit0, true, true, d, rfl, hlim0, ⟨H.lx, hn, hab0, Nat.le_refl _, hb0, hB, fun R h1 h2 => ⟨h1, h2⟩⟩⟩, ?_⟩
  rintro x w1 ⟨u0, u2, u3, u4, u6, u7, u9, u10, u11, a, b, limit, wb, wp, d1, rfl, hlim, ⟨H1, hn1, hab, hbb, hbn, hB1, hfin⟩⟩
  generalize hx0 : [u0, .int .i64 (limit : Nat), u2, u3, u4, .int .i64 (a : Nat), u6, u7, .bool wp, u9, u10, u11, .bool wb, .int .i64 (b : Nat)] = x0
  have e1 : gv x0 1 = .int .i64 (limit : Nat) := by rw [← hx0]; rfl
  have e5 : gv x0 5 = .int .i64 (a : Nat) := by rw [← hx0]; rfl
  have e8 : gv x0 8 = .bool wp := by rw [← hx0]; rfl
  have e12 : gv x0 12 = .bool wb := by rw [← hx0]; rfl
  have e13 : gv x0 13 = .int .i64 (b : Nat) := by rw [← hx0]; rfl
  have m5 : ms x0 5 = a := by simp [ms, e5]
  have m13 : ms x0 13 = b := by simp [ms, e13]
  clear hx0
  have hw0 : IntKind.i64.wrap ((b : Int) - a) = ((b - a : Nat) : Int) := na (by omega) (by omega)
  unfold M.f.j0
  simp only [e13, e5, ja, hw0, fh, xv]
  by_cases h12 : b - a ≤ 12
  ·have h12' : ((b - a : Nat) : Int) ≤ 12 := by omega
   simp only [h12', decide_true, Eng.cond_true]
   rw [M.k.fcall]
   refine tt H1.row hn1 (by omega) hbn (by omega) fun w2 H2 => ?_
   have hi := insertionSort_holds swo_ltInt d1 a b hab (by omega)
   obtain ⟨p1, p2⟩ := hfin _ hi.1 hi.2
   exact h w2 _ p1 p2 (H1.trans H2)
  have h12' : ¬ ((b - a : Nat) : Int) ≤ 12 := by omega
  simp only [h12', decide_false, Eng.cond_false]
  unfold M.f.j1
  simp only [e1, e5, e13, fh, rm]
  by_cases hl0 : limit = 0
  ·have hl0' : (limit : Int) = 0 := by omega
   simp only [hl0', decide_true, Eng.cond_true]
   rw [M.t.fcall]
   refine abz H1.row hn1 (by omega) hbn (by omega) fun w2 H2 => ?_
   have hi := heapSort_holds swo_ltInt d1 a b hab (by omega)
   obtain ⟨p1, p2⟩ := hfin _ hi.1 hi.2
   exact h w2 _ p1 p2 (H1.trans H2)
  have hl0' : ¬ (limit : Int) = 0 := by omega
  simp only [hl0', decide_false, Eng.cond_false]
  unfold M.f.j2
  simp only [e12, e1, e5, e13, fh, ant]
  cases wb with
  | true =>
   simp
   exact zz ih h6 hm hbb hbn hab hlim h12 hn1 hB1 hfin h e5 e8 e12 e13 m5 m13 H1 (permIn_refl d1 a b)
  | false =>
   simp
   rw [M.p.fcall]
   refine ahw H1.row hn1 h6 hbn (by omega) fun w2 d2 P2 H2 => ?_
   have wl : IntKind.i64.wrap ((limit : Int) - 1) = ((limit - 1 : Nat) : Int) := by rw [fj (by omega) (by omega)]; omega
   simp only [wl]
   exact zz ih h6 hm hbb hbn hab (by omega) h12 hn1 hB1 hfin h e5 e8 e12 e13 m5 m13 (H1.trans H2) P2
theorem alc {w : World} {g cap n : Nat} {e : TypeId} {d : Array Int} (H : Rw w g e cap d) (hn : d.size = n) (h6 : n < 60000) {K : KV}
  (h : ∀ w', Rf w w' g e cap (d.toList.mergeSort fun x y => decide (x ≤ y)).toArray → K (.tuple #[]) w') : ij P F.bq [.slice (some ⟨g, 0, none⟩) n cap] w K := by
 apply M.bp.calls
 unfold M.bp
 have i64B : qm P T.b .i64 = true := by kernel_rfl
 have uB : qm P T.ay .u64 = true := by kernel_rfl
 simp
 rw [kf i64B uB, xg (by omega), M.cl.fcall]
 refine act (by omega) ?_
 rw [M.f.fcall]
 have hlen : bitsLen n ≤ 16 := (bitsLen_le_iff n 16).2 (by omega)
 refine aoa n (a := 0) H hn h6 (by omega) (Nat.zero_le _) (Nat.le_refl _) (by omega) (.inl rfl) fun w' d' h1 h2 H' => ?_
 have hs : d'.toList = d.toList.mergeSort (fun x y => decide (x ≤ y)) := by
  have := sorted_unique_holds swo_ltInt (fun x y h1 h2 => by simp [ltInt] at h1 h2; omega) d d' (by rw [hn]; exact h1) (by rw [hn]; exact h2)
  rw [this]
  congr 1
  funext x y
  simp only [ltInt]
  by_cases hxy : x ≤ y
  ·simp [hxy]
  ·have : y < x := by omega
   simp [hxy, this]
 refine h w' ?_
 rw [← hs]
 exact H'
set_option maxRecDepth 100000
open Go.Eng Go.Sort
abbrev aab (x : Int) : Value := .int .i64 x
abbrev mj (x : Int) : List Value := [.int .i64 x]
abbrev OwN (w : World) (base : Nat) (v : Value) (l : List Int) : Prop := Ow w base T.b 1 mj v l
theorem bar : asv P T.g T.b aab 8 where
 et := et.g
 by5 := by decide
 ld := fun b i w K => Eq.trans (by kernel_rfl) rfl
 st := fun b i a n c w K => Eq.trans (by kernel_rfl) rfl
 bs := fun x w K => Eq.trans (by kernel_rfl) rfl
 one := fun _ => rfl
 ne := by decide
theorem ads {g : FuncId} {gn : Func} (hg : P.funcs[g]? = some gn) (hgn : (gn.name == "runtime.NumGoroutine") = false) (hgb : gn.body.isNone = false) {cap : List Value} {w : World} {Out : List Int → Prop} (hs : aii P g cap aab Out 60000 w) {K : KV}
  (h : ∀ w' v xs, Out xs → OwN w' w.heap.size v xs → Fr (fun _ => False) w w' → K v w') : ij P F.ck [.func (.func g) #[] cap.toArray] w K := by
 apply M.cs.calls
 unfold M.cs
 have hf : ∀ (args : List Value) (w : World) (K : KV), ey P F.h args w K = ij P F.h args w K := fun args w K => agh FN.h.at (by kernel_rfl) (by kernel_rfl) args w K
 rw [hf]
 exact afq (tQ := T.be) bar FN.h.at (by kernel_rfl) (by kernel_rfl) (by kernel_rfl) hg hgn hgb hs h
theorem Ow.rw {w : World} {base g n cap : Nat} {l : List Int} (h : OwN w base (.slice (some ⟨g, 0, none⟩) n cap) l) : n = l.length ∧ base ≤ g ∧ cap ≤ maxLen ∧ Rw w g T.b cap l.toArray := by
 rcases h.2 with ⟨h0, _⟩ | ⟨g', cap', cur, hv, hb, hc, h1, h2, h3, h4⟩
 ·cases h0
 ·injection hv with q1 q2 q3
  injection q1 with q1
  injection q1 with q1
  subst q1 q2 q3
  refine ⟨rfl, hb, h2, cur, hc, by simpa using h3, by simpa using h1, fun j hj => ?_⟩
  have hj' : j < l.length := by simpa using hj
  have h5 : (cur.toList.take (l.length * 1))[j]? = (l.flatMap mj)[j]? := by rw [h4]
  rw [List.getElem?_take_of_lt (by omega)] at h5
  have h6 : (l.flatMap mj)[j]? = some (.int .i64 l[j]) := by
   have := xf (enc := mj) (sz := 1) (fun _ => rfl) l j l[j] 0 (.int .i64 l[j]) (List.getElem?_eq_getElem hj') rfl
   simpa using this
  rw [h6] at h5
  simpa [hj'] using h5
theorem xt : ∀ l : List Int, l.flatMap mj = l.map aab
 | [] => rfl
 | x :: l => by rw [List.flatMap_cons, xt l]; rfl
theorem aua {w : World} {base g cap : Nat} {l : List Int} (hb : base ≤ g) (hm : cap ≤ maxLen) (h : Rw w g T.b cap l.toArray) : OwN w base (.slice (some ⟨g, 0, none⟩) l.length cap) l := by
 obtain ⟨cur, h1, h2, h3, h4⟩ := h
 refine ⟨by rw [xt]; simp, .inr ⟨g, cap, cur, rfl, hb, h1, by simpa using h3, hm, by simpa using h2, ?_⟩⟩
 rw [xt]
 apply List.ext_getElem?
 intro j
 by_cases hj : j < l.length
 ·rw [List.getElem?_take_of_lt (by omega)]
  have := h4 j (by simpa using hj)
  simp [hj] at this ⊢
  exact this
 ·rw [List.getElem?_take_eq_none (by omega), List.getElem?_eq_none (by simp; omega)]
theorem ahh {w : World} {K : KV} (h : K (.tuple #[]) w) : ij P F.bq [.slice none 0 0] w K := by
 apply M.bp.calls
 unfold M.bp
 have i64B : qm P T.b .i64 = true := by kernel_rfl
 have uB : qm P T.ay .u64 = true := by kernel_rfl
 simp
 rw [kf i64B uB, show IntKind.u64.wrap 0 = ((0 : Nat) : Int) from by decide, M.cl.fcall]
 refine act (by omega) ?_
 rw [M.f.fcall]
 apply M.f.calls
 unfold M.f
 refine ⟨fun x w1 => gv x 5 = .int .i64 0 ∧ gv x 13 = .int .i64 0 ∧ w1 = w, fun _ _ => 0, ⟨rfl, rfl, rfl⟩, ?_⟩
 rintro x w1 ⟨e5, e13, rfl⟩
 unfold M.f.j0
 have w0 : IntKind.i64.wrap 0 = 0 := by decide
 simp [e5, e13, w0]
 rw [M.k.fcall]
 apply M.k.calls
 unfold M.k
 have w1' : IntKind.i64.wrap 1 = 1 := by decide
 simp [w1']
 refine ⟨fun x w2 => gv x 1 = .int .i64 1 ∧ w2 = w1, fun _ _ => 0, ⟨rfl, rfl⟩, ?_⟩
 rintro x w2 ⟨e1, rfl⟩
 unfold M.k.j0
 simp [e1]
 exact h
def mn (l : List Int) : List Int := l.mergeSort fun x y => decide (x ≤ y)
theorem mf (l : List Int) : (mn l).Perm l := List.mergeSort_perm ..
theorem th {l l' : List Int} (h : l.Perm l') : mn l = mn l' := by
 unfold mn
 have hs : ∀ l : List Int, (l.mergeSort fun x y => decide (x ≤ y)).Pairwise fun a b => decide (a ≤ b) = true := fun l => List.pairwise_mergeSort (fun a b c h1 h2 => by simp at *; omega) (fun a b => by simp; omega) l
 exact List.Perm.eq_of_pairwise (fun a b _ _ h1 h2 => by simp at h1 h2; omega) (hs l) (hs l') (((List.mergeSort_perm ..).trans h).trans (List.mergeSort_perm ..).symm)
theorem aga {g : FuncId} {gn : Func} (hg : P.funcs[g]? = some gn) (hgn : (gn.name == "runtime.NumGoroutine") = false) (hgb : gn.body.isNone = false) {cap : List Value} {w : World} {ks : List Int} (hk : ks.length < 60000) (hs : aii P g cap aab (fun xs => xs.Perm ks) 60000 w) {K : KV}
  (h : ∀ w' v, OwN w' w.heap.size v (mn ks) → Fr (fun _ => False) w w' → K v w') : ij P F.bk [.func (.func g) #[] cap.toArray] w K := by
 apply M.ct.calls
 unfold M.ct
 rw [M.cs.fcall]
 refine ads hg hgn hgb hs fun w1 v xs hx o1 f1 => ?_
 rw [M.bp.fcall]
 have hlen := hx.length_eq
 rcases o1.2 with ⟨rfl, h0⟩ | ⟨g1, cap1, cur, rfl, hb1, _⟩
 ·refine ahh ?_
  have hx0 : xs = [] := List.length_eq_zero_iff.1 h0
  have hk0 : ks = [] := List.length_eq_zero_iff.1 (by rw [← hlen, hx0]; rfl)
  refine h w1 _ ?_ f1
  subst hk0
  rw [show mn [] = [] from by simp [mn]]
  exact Ow.none
 ·obtain ⟨_, hbg, hcm, hrw⟩ := Ow.rw o1
  refine alc hrw (by simp) (by omega) fun w2 H2 => ?_
  have hp : mn xs = mn ks := th hx
  have hl : (mn xs).length = xs.length := (mf xs).length_eq
  refine h w2 _ ?_ (f1.kg H2.fr fun b hb he => by omega)
  rw [← hp]
  have := aua (base := w.heap.size) (l := mn xs) hbg hcm H2.row
  rw [hl] at this
  exact this
end Go.Proofs.YtfnhoaemapheoaaGreat.Sint
