/-
  Ballots and registers: the program's and the document's functions. No condition.
-/
import Derived.Test.YtfnhoaemapheoaaGreatZSrtUD
import Derived.Test.YtfnhoaemapheoaaGreatZSpn0
import Derived.Test.YtfnhoaemapheoaaGreatZEngSl
import Derived.Test.YtfnhoaemapheoaaGreatZKeyD
set_option maxRecDepth 100000
namespace Go.Proofs.YtfnhoaemapheoaaGreat
open Go.Eng
def vj (a b : Int) : Int := if a < b then -1 else if b < a then 1 else 0
theorem agh {w : World} (a b : Int) {K : KV} (h : K (.int .i64 (vj a b)) w) : fe P F.ca [.int .u64 a, .int .u64 b] w K := by
 have nan : ∀ (z : Int) {K : KV}, K (.bool false) w → fe P F.ba [.int .u64 z] w K := fun z K hK => by
  rw [M.ch.fcall]
  apply M.ch.calls
  unfold M.ch
  simpa using hK
 rw [M.br.fcall]
 apply M.br.calls
 unfold M.br
 refine nan a ?_
 refine nan b ?_
 simp
 unfold M.br.j2
 unfold vj at h
 by_cases h1 : a < b
 ·simp [h1] at h ⊢; exact h
 ·by_cases h2 : b < a
  ·simp [h1, h2] at h ⊢; exact h
  ·simp [h1, h2] at h ⊢; exact h
theorem bbv {w : World} {v : Value} {l : List Int} (hs : Sl w 1 aaj v l) (hlen : l.length ≤ 1000) {K : KV} (h : K (.int .i64 (orK l)) w) : ik P F.eb [v] w K := by
 apply M.dn.calls
 unfold M.dn
 simp only [fi]
 rw [hs.ig (by simp)]
 refine ⟨OrI w l, fun x _ => l.length - ms x 2, ⟨_, _, 0, rfl, rfl, Nat.zero_le _, fun j k _ h => by omega⟩, ?_⟩
 rintro x w1 ⟨a, b, i, rfl, rfl, hi, hz⟩
 have gv2 : gv [a, b, .int .i64 (i : Int)] 2 = .int .i64 (i : Int) := rfl
 simp only [gv2]
 by_cases hil : i < l.length
 ·obtain ⟨bb, o, cap, rfl, hb, _, hr⟩ := hs.at hil
  have e0 := hr 0 _ rfl
  simp only [Nat.mul_one, Nat.add_zero] at e0
  have hw : IntKind.i64.wrap ((i : Int) + 1) = ((i + 1 : Nat) : Int) := by rw [fl (by omega) (by omega)]; rfl
  simp [hil]
  unfold M.dn.j2
  simp only [fi, gv2]
  by_cases hk : l[i] = 0
  ·simp [hil, e0, hk, hw]
   refine ⟨⟨_, _, i + 1, rfl, rfl, by omega, fun j k hj hlt => ?_⟩, by simp [ms, gv]; omega⟩
   by_cases hji : j = i
   ·subst hji
    rw [List.getElem?_eq_getElem hil] at hj
    cases hj; exact hk
   ·exact hz j k hj (by omega)
  ·simp [hil, e0, hk]
   have : orK l = l[i] := by
    unfold orK
    have : l.find? (fun k => !decide (k = 0)) = some l[i] := by
     rw [List.find?_eq_some_iff_getElem]
     refine ⟨by simpa using hk, i, hil, rfl, fun j hj => ?_⟩
     have := hz j _ (List.getElem?_eq_getElem (by omega)) hj
     simp [this]
    rw [this]; rfl
   rw [this] at h; exact h
 ·simp [hil]
  have : orK l = 0 := by
   unfold orK
   have : l.find? (fun k => !decide (k = 0)) = none := by
    rw [List.find?_eq_none]
    intro k hk
    obtain ⟨j, hj, rfl⟩ := List.mem_iff_getElem.1 hk
    have := hz j _ (List.getElem?_eq_getElem hj) (by omega)
    simp [this]
   rw [this]; rfl
  rw [this] at h; exact h
theorem or2 (a b : Int) : orK [a, b] = if a = 0 then b else a := by
 unfold orK
 by_cases ha : a = 0 <;> by_cases hb : b = 0 <;> simp [ha, hb]
theorem awv {a b : Bal} : decide ((orK [vj a.n b.n, vj a.gg b.gg]) < 0) = a.sq b := by
 rw [or2]
 unfold vj Bal.sq
 apply decide_eq_decide.2
 repeat' split
 all_goals omega
theorem abd {w : World} {b : Nat} {x : Bal} {f : Nat × Nat} (h : w.heap[b]? = some (.cells #[.int .u64 x.n, .int .u64 x.gg] T.d f)) : fm w b 0 = some (.int .u64 x.n) ∧ fm w b 1 = some (.int .u64 x.gg) ∧ ∀ K, ldN P 2 b 0 w K = K (kb x) w :=
 ⟨by rw [fo h]; rfl, by rw [fo h]; rfl, fun K => abn (by rw [fo h]; rfl) (by rw [fo h]; rfl) K⟩
theorem bco (x y : Bal) {w : World} {Q : Value → Value → World → Prop} (h : ∀ w1 b1 b2, St w w1 (fu b2 #[.int .u64 y.n, .int .u64 y.gg] T.d :: fu b1 #[.int .u64 x.n, .int .u64 x.gg] T.d :: []) → Q (il b1) (il b2) w1) :
  ky P T.d (kb x) w fun v1 w1 => ky P T.d (kb y) w1 fun v2 w2 => Q v1 v2 w2 := by
 rw [wi, wi]
 exact h _ _ _ (acn (acn (St.jj w) #[.int .u64 x.n, .int .u64 x.gg] T.d) #[.int .u64 y.n, .int .u64 y.gg] T.d)
theorem auz {w : World} (x y : Bal) {K : KV} (h : ∀ w', Fr (fun _ => False) w w' → K (.int .i64 (orK [vj x.n y.n, vj x.gg y.gg])) w') : fe P F.du [kb x, kb y] w K := by
 rw [M.ea.fcall]
 apply M.ea.calls
 unfold M.ea
 refine bco x y fun w1 b1 b2 S1 => ?_
 have S2 := S1.iq ((Fr.refl _ w1).dr 1)
 obtain ⟨y0, y1, _⟩ := abd S2.blk
 obtain ⟨x0, x1, _⟩ := abd S2.swap.blk
 simp only [il]
 rw [oe]
 simp only [ni] at x0 x1 y0 y1
 simp [x0, x1, y0, y1]
 refine agh _ _ ?_
 simp [x1, y1]
 refine agh _ _ ?_
 simp
 have S3 : St w ((dr w1 1).alloc (.cells #[.int .i64 (vj x.n y.n), .int .i64 (vj x.gg y.gg)] T.a)) _ := acn S2 #[.int .i64 (vj x.n y.n), .int .i64 (vj x.gg y.gg)] T.a
 have hsl : Sl ((dr w1 1).alloc (.cells #[.int .i64 (vj x.n y.n), .int .i64 (vj x.gg y.gg)] T.a)) 1 aaj (.slice (some ⟨w1.heap.size, 0, none⟩) 2 2) [vj x.n y.n, vj x.gg y.gg] := by
  have hh := S3.blk
  rw [show (dr w1 1).heap.size = w1.heap.size from rfl] at hh
  refine ⟨some ⟨w1.heap.size, 0, none⟩, 2, rfl, by simp, by simp [maxLen], fun i z hz => ⟨w1.heap.size, 0, rfl, oc hh, fun j u hj => ?_⟩⟩
  rw [fo hh]
  match i, j with
  | 0, 0 => simp [aaj] at hz hj ⊢; rw [hz]; exact hj
  | 1, 0 => simp [aaj] at hz hj ⊢; rw [hz]; exact hj
  | i + 2, _ => simp at hz
  | _, j + 1 => simp [aaj] at hj
 rw [M.dn.fcall]
 exact bbv hsl (by simp) (h _ S3.fr)
theorem ape {w : World} (x y : Bal) {K : KV} (h : ∀ w', Fr (fun _ => False) w w' → K (.bool (x.sq y)) w') : fe P F.dp [kb x, kb y] w K := by
 rw [M.ee.fcall]
 apply M.ee.calls
 unfold M.ee
 refine bco x y fun w1 b1 b2 S1 => ?_
 obtain ⟨_, _, y2⟩ := abd S1.blk
 obtain ⟨_, _, x2⟩ := abd S1.swap.blk
 simp only [il]
 simp [x2, y2]
 refine auz x y fun w2 f2 => ?_
 simp
 rw [awv]
 exact h w2 (S1.fr.trans f2)
set_option maxRecDepth 100000
theorem zn (b : Nat) (w : World) (K : KV) : ou P T.e (.pointer (some ⟨b, 0, none⟩)) w K = ldN P 5 b 0 w K := .trans (by kernel_rfl) rfl
theorem axl (b : Nat) (w : World) (K : KV) : ou P T.aj (.pointer (some ⟨b, 0, none⟩)) w K = ldN P 5 b 0 w K := .trans (by kernel_rfl) rfl
section
variable {w0 w : World} {b : Nat} {t : TypeId} {R : List Asn}
def rgC (r : Rg) : Array Value := #[.int .u64 r.p.n, .int .u64 r.p.gg, .int .u64 r.t.n, .int .u64 r.t.gg, .int .i64 r.v]
theorem jk {r : Rg} (S : St w0 w (fu b (rgC r) t :: R)) : (∀ K, ldN P 2 b 0 w K = K (kb r.p) w) ∧ (∀ K, ldN P 2 b 2 w K = K (kb r.t) w) ∧ fm w b 4 = some (.int .i64 r.v) ∧ ∀ K, ldN P 5 b 0 w K = K (kt r) w :=
 ⟨fun K => S.ldA [.int .u64 r.p.n, .int .u64 r.p.gg] rfl rfl K, fun K => S.ldA [.int .u64 r.t.n, .int .u64 r.t.gg] rfl rfl K, by rw [S.cell]; rfl, fun K => S.ldA (amb r) rfl rfl K⟩
theorem xj {x : Bal} (S : St w0 w (fu b #[.int .u64 x.n, .int .u64 x.gg] t :: R)) : fm w b 0 = some (.int .u64 x.n) ∧ fm w b 1 = some (.int .u64 x.gg) ∧ ∀ K, ldN P 2 b 0 w K = K (kb x) w :=
 ⟨by rw [S.cell]; rfl, by rw [S.cell]; rfl, fun K => S.ldA [.int .u64 x.n, .int .u64 x.gg] rfl rfl K⟩
theorem si {r r' : Rg} (S : St w0 w (fu b (rgC r) t :: R)) {K : KV} (h : ∀ w', St w0 w' (fu b (rgC r') t :: R) → K undef w') : stN P b 0 [.int .u64 r'.p.n, .int .u64 r'.p.gg, .int .u64 r'.t.n, .int .u64 r'.t.gg, .int .i64 r'.v] w K :=
 S.put (vs := [.int .u64 r'.p.n, .int .u64 r'.p.gg, .int .u64 r'.t.n, .int .u64 r'.t.gg, .int .i64 r'.v]) (ako r') (by simp [rgC]) rfl h
theorem wk (S : St w0 w R) (t : TypeId) : St w0 (w.alloc (.cells #[.int .u64 0, .int .u64 0, .int .u64 0, .int .u64 0, .int .i64 0] t)) (fu w.heap.size (rgC rg0) t :: R) := S.mkB (rgC rg0) t
theorem amw {w : World} {v : Int} {K : KV} (h : K (.bool (mr v)) w) : fe P F.db [.int .i64 v] w K := by
 rw [M.dr.fcall]
 apply M.dr.calls
 unfold M.dr
 unfold mr at h
 by_cases h1 : 1 ≤ v
 ·by_cases h2 : v ≤ 3
  ·rw [decide_eq_true ⟨h1, h2⟩] at h
   simp [h1, h2]; exact h
  ·rw [decide_eq_false (fun hh => h2 hh.2)] at h
   simp [h1, h2]; exact h
 ·rw [decide_eq_false (fun hh => h1 hh.1)] at h
  simp [h1]; exact h
theorem akx {w : World} (r : Rg) (x : Bal) {K : KV} (h : ∀ w', Fr (fun _ => False) w w' → K (.bool (r.pf x)) w') : fe P F.bu [kt r, kb x] w K := by
 rw [M.cu.fcall]
 apply M.cu.calls
 unfold M.cu
 refine St.ue (St.jj w) fun b1 w1 S1 => ?_
 refine St.ue S1 fun b2 w2 S2 => ?_
 obtain ⟨x0, _, xl⟩ := xj S2
 obtain ⟨rp, _, _, _⟩ := jk S2.swap
 unfold Rg.pf at h
 by_cases hn : 0 < x.n
 ·simp [x0, hn, xl, rp]
  refine ape x r.p fun w3 f3 => ?_
  simp
  simpa [hn] using h w3 (S2.fr.trans f3)
 ·simp [x0, hn]
  simpa [hn] using h w2 S2.fr
theorem bbm {w : World} (r : Rg) (x : Bal) {K : KV} (h : ∀ w', Fr (fun _ => False) w w' → K (.tuple #[kt (r.qy x).1, .bool (r.qy x).2]) w') : fe P F.cy [kt r, kb x] w K := by
 rw [M.cg.fcall]
 apply M.cg.calls
 unfold M.cg
 refine St.ue (St.jj w) fun b1 w1 S1 => ?_
 refine St.ue S1 fun b2 w2 S2 => ?_
 simp
 have S3 := wk S2 T.e
 generalize w2.heap.size = b3 at *
 generalize w2.alloc _ = w3 at *
 obtain ⟨_, _, xl⟩ := xj S3.swap
 obtain ⟨_, _, _, rl⟩ := jk S3.up2
 simp [rl, xl]
 refine akx r x fun w4 f4 => ?_
 have S4 := S3.iq f4
 obtain ⟨_, _, xl⟩ := xj S4.swap
 obtain ⟨_, _, _, rl⟩ := jk S4.up2
 unfold Rg.qy at h
 cases hs : r.pf x with
 | false =>
  simp [rl]
  unfold kt
  simp
  refine si S4 fun w5 S5 => ?_
  obtain ⟨_, _, _, rl5⟩ := jk S5
  rw [zn, rl5]
  refine ⟨rfl, ?_⟩
  simpa [hs] using h w5 S5.fr
 | true =>
  simp
  unfold M.cg.j0
  simp [xl]
  unfold kb
  simp
  refine St.put (cs' := rgC ⟨x, r.t, r.v⟩) (vs := [.int .u64 x.n, .int .u64 x.gg]) S4.up2 (by simp) (by simp [rgC]) rfl fun w5 S5 => ?_
  obtain ⟨_, _, _, rl5⟩ := jk S5
  rw [rl5]
  unfold kt
  simp
  refine si (r' := ⟨x, r.t, r.v⟩) S5.swap fun w6 S6 => ?_
  obtain ⟨_, _, _, rl6⟩ := jk S6
  rw [zn, rl6]
  refine ⟨rfl, ?_⟩
  simpa [hs] using h w6 S6.fr
theorem bcc {w : World} (r : Rg) (x : Bal) (v : Int) {K : KV} (h : ∀ w', Fr (fun _ => False) w w' → K (.tuple #[kt (r.acc x v).1, .bool (r.acc x v).2]) w') : fe P F.de [kt r, kb x, .int .i64 v] w K := by
 rw [M.cb.fcall]
 apply M.cb.calls
 unfold M.cb
 refine St.ue (St.jj w) fun b1 w1 S1 => ?_
 refine St.ue S1 fun b2 w2 S2 => ?_
 simp
 have S3 := wk S2 T.e
 generalize w2.heap.size = b3 at *
 generalize w2.alloc _ = w3 at *
 obtain ⟨_, _, xl⟩ := xj S3.swap
 obtain ⟨_, _, _, rl⟩ := jk S3.up2
 simp [rl, xl]
 refine akx r x fun w4 f4 => ?_
 have S4 := S3.iq f4
 obtain ⟨_, _, xl⟩ := xj S4.swap
 obtain ⟨_, rt, rv, rl⟩ := jk S4.up2
 have no : (¬ (r.pf x = true ∧ mr v = true ∧ ¬ (r.t = x ∧ r.v ≠ v))) → stN P b3 0 [.int .u64 r.p.n, .int .u64 r.p.gg, .int .u64 r.t.n, .int .u64 r.t.gg, .int .i64 r.v] w4 (fun _ w => en (fun K' => ou P T.e (.pointer (some ⟨b3, 0, none⟩)) w K') w fun r0 => K (.tuple #[r0, .bool false]) w) := fun hc => by
  refine si S4 fun w5 S5 => ?_
  obtain ⟨_, _, _, rl5⟩ := jk S5
  rw [mn, zn, rl5]
  refine ⟨rfl, ?_⟩
  have fin := h w5 S5.fr
  unfold Rg.acc at fin
  rw [if_neg hc] at fin
  exact fin
 simp only [mn] at no
 cases hs : r.pf x with
 | false =>
  have no' := no (by simp [hs])
  simp [rl]
  unfold kt
  simp
  exact no'
 | true =>
  simp
  refine amw ?_
  cases hv : mr v with
  | false =>
   have no' := no (by simp [hv])
   simp [rl]
   unfold kt
   simp
   exact no'
  | true =>
   simp [rt, xl, uh]
   have yes : (r.pf x = true ∧ mr v = true ∧ ¬ (r.t = x ∧ r.v ≠ v)) → M.cb.j0 (.pointer (some ⟨b2, 0, none⟩)) (.int .i64 v) (.pointer (some ⟨b3, 0, none⟩)) w4 K := fun hc => by
    unfold M.cb.j0
    simp [xl]
    unfold kb
    simp
    refine si (r' := ⟨x, x, v⟩) S4 fun w5 S5 => ?_
    obtain ⟨_, _, _, rl5⟩ := jk S5
    rw [zn, rl5]
    refine ⟨rfl, ?_⟩
    have fin := h w5 S5.fr
    unfold Rg.acc at fin
    rw [if_pos hc] at fin
    exact fin
   by_cases ht : r.t = x
   ·by_cases hvv : r.v = v
    ·have yes' := yes ⟨hs, hv, fun hh => hh.2 hvv⟩
     simp [ht, rv, hvv]
     exact yes'
    ·have no' := no (fun hh => hh.2.2 ⟨ht, hvv⟩)
     simp [ht, rv, hvv, rl]
     unfold kt
     simp
     exact no'
   ·have yes' := yes ⟨hs, hv, fun hh => ht hh.1⟩
    simp [ht]
    exact yes'
theorem bdl : Value.agg #[.int .u64 0, .int .u64 0] = kb ib := rfl
theorem auv {w : World} (r : Rg) {K : KV} (h : ∀ w', Fr (fun _ => False) w w' → K (.bool r.right) w') : fe P F.dl [kt r] w K := by
 rw [M.ct.fcall]
 apply M.ct.calls
 unfold M.ct
 refine St.ue (St.jj w) fun b1 w1 S1 => ?_
 have S1' : St w w1 (fu b1 (rgC r) T.e :: []) := S1
 obtain ⟨rp, rt, rv, _⟩ := jk S1'
 have fin := fun f => h w1 f
 unfold Rg.right at h fin
 simp [rt, bdl, uh]
 by_cases ht : r.t = ib
 ·simp [ht, rv] at fin ⊢
  exact fin S1.fr
 ·simp [ht] at fin h ⊢
  unfold M.ct.j0
  simp [rv]
  refine amw ?_
  cases hv : mr r.v with
  | false =>
   simp [hv] at fin ⊢
   exact fin S1.fr
  | true =>
   simp [rp, rt]
   refine ape _ _ fun w2 f2 => ?_
   have := h w2 (S1.fr.trans f2)
   simpa [hv] using this
end
set_option maxRecDepth 100000
open Go.Eng
def pk0 (k tr : Int) (x s : Bal) (v : Int) (ok : Bool) : Pk := ⟨k, tr, x, s, v, ok, .slice none 0 0, .slice none 0 0, .slice none 0 0⟩
theorem zl (k tr : Int) (x s : Bal) (v : Int) (ok : Bool) : ∀ u ∈ pkC (pk0 k tr x s v ok), jt u = true := fun u hu => by
 simp only [pkC, pk0, List.mem_cons, List.not_mem_nil, or_false] at hu
 rcases hu with rfl | rfl | rfl | rfl | rfl | rfl | rfl | rfl | rfl | rfl | rfl <;> rfl
theorem bbr (w : World) (k tr : Int) (x s : Bal) (v : Int) (ok : Bool) : qt w (pk0 k tr x s v ok) [] [] [] := ⟨Sl.nil, Sl.nil, Sl.nil, by simp, by simp, by simp⟩
def pkZ : Pk := pk0 0 0 ib ib 0 false
def ajz (r : Rg) (tr : Int) (x : Bal) (ok ki : Bool) : Pk := pk0 (if ki = true then 7 else 5) tr x (if ok = false then r.p else if ki = false then r.t else ib) (if ok = true ∧ ki = false then r.v else 0) ok
section
variable {w0 w : World} {b : Nat} {R : List Asn}
theorem atd {cs : Array Value} {q : Pk} (S : St w0 w (fu b cs T.b :: R)) (hs : cs.size = 11) (h1 : ∀ u ∈ pkC q, jt u = true) {K : KV} (h : ∀ w', St w0 w' (fu b (pkC q).toArray T.b :: R) → K undef w') : stN P b 0 (pkC q) w K :=
 S.put h1 (by simp [pkC, hs]) (by
  have hl : cs.toList.length = 11 := by simpa using hs
  have h2 : (pkC q).length = 11 := rfl
  rw [h2, List.take_zero, List.nil_append, List.drop_eq_nil_of_le (by omega), List.append_nil]) h
theorem alv (S : St w0 w R) : St w0 (w.alloc (.cells #[.int .i64 0, .int .u64 0, .int .u64 0, .int .u64 0, .int .u64 0, .int .u64 0, .int .i64 0, .bool false, .slice none 0 0, .slice none 0 0, .slice none 0 0] T.b)) (fu w.heap.size (pkC pkZ).toArray T.b :: R) := S.mkB (pkC pkZ).toArray T.b
theorem yx {q : Pk} (S : St w0 w (fu b (pkC q).toArray T.b :: R)) (K : KV) : ldN P 11 b 0 w K = K (pkA q) w := S.ldA (pkC q) rfl rfl K
theorem bdp {q : Pk} (S : St w0 w (fu b (pkC q).toArray T.b :: R)) (K : KV) : ou P T.b (.pointer (some ⟨b, 0, none⟩)) w K = K (pkA q) w := by rw [afs]; exact yx S K
theorem aiu {cs : Array Value} {q : Pk} (S : St w0 w (fu b cs T.b :: R)) (hs : cs.size = 11) (h1 : ∀ u ∈ pkC q, jt u = true) {K : KV} (h : ∀ w', St w0 w' (fu b (pkC q).toArray T.b :: R) → K (pkA q) w') :
  stN P b 0 (pkC q) w fun _ w => ou P T.b (.pointer (some ⟨b, 0, none⟩)) w fun r0 w' => w' = w ∧ K r0 w :=
 atd S hs h1 fun w' S' => by rw [bdp S']; exact ⟨rfl, h w' S'⟩
theorem auq {w : World} (r : Rg) (tr : Int) (x : Bal) (ok ki : Bool) {K : KV} (h : ∀ w', Fr (fun _ => False) w w' → K (pkA (ajz r tr x ok ki)) w') : fe P F.df [kt r, .int .u64 tr, kb x, .bool ok, .bool ki] w K := by
 rw [M.cc.fcall]
 apply M.cc.calls
 unfold M.cc
 refine St.ue (St.jj w) fun b1 w1 S1 => ?_
 refine St.ue S1 fun b2 w2 S2 => ?_
 simp
 have S3 := alv S2
 generalize w2.heap.size = b3 at *
 generalize w2.alloc _ = w3 at *
 obtain ⟨_, _, xl⟩ := xj S3.swap
 rw [xl]
 unfold kb
 simp
 have S4 := alv S3
 generalize w3.heap.size = b4 at *
 generalize w3.alloc _ = w4 at *
 refine atd (q := pk0 5 tr x ib 0 ok) S4 rfl (zl _ _ _ _ _ _) fun w5 S5 => ?_
 obtain ⟨rp, rt, rv, _⟩ := jk S5.up3
 have fin : ∀ w6 (s : Bal) (v : Int), s = (if ok = false then r.p else if ki = false then r.t else ib) → v = (if ok = true ∧ ki = false then r.v else 0) → St w w6 (fu b4 (pkC (pk0 5 tr x s v ok)).toArray T.b :: fu b3 (pkC pkZ).toArray T.b :: fu b2 #[.int .u64 x.n, .int .u64 x.gg] T.d :: fu b1 (rgC r) T.e :: []) → M.cc.j0 (.bool ki) (.pointer (some ⟨b4, 0, none⟩)) (.pointer (some ⟨b3, 0, none⟩)) w6 K := fun w6 s v es ev S6 => by
  unfold M.cc.j0
  cases ki with
  | false =>
   simp
   rw [yx S6]
   have e : pkA (pk0 5 tr x s v ok) = .agg #[.int .i64 5, .int .u64 tr, .int .u64 x.n, .int .u64 x.gg, .int .u64 s.n, .int .u64 s.gg, .int .i64 v, .bool ok, .slice none 0 0, .slice none 0 0, .slice none 0 0] := rfl
   rw [e]
   simp
   refine aiu (q := pk0 5 tr x s v ok) S6.swap rfl (zl _ _ _ _ _ _) fun w7 S7 => ?_
   subst es ev
   exact h w7 S7.fr
  | true =>
   simp
   refine S6.akg rfl (by simp [pkC]) fun w7 S7 => ?_
   have S7' : St w w7 (fu b4 (pkC (pk0 7 tr x s v ok)).toArray T.b :: _) := S7
   rw [yx S7']
   have e : pkA (pk0 7 tr x s v ok) = .agg #[.int .i64 7, .int .u64 tr, .int .u64 x.n, .int .u64 x.gg, .int .u64 s.n, .int .u64 s.gg, .int .i64 v, .bool ok, .slice none 0 0, .slice none 0 0, .slice none 0 0] := rfl
   rw [e]
   simp
   refine aiu (q := pk0 7 tr x s v ok) S7'.swap rfl (zl _ _ _ _ _ _) fun w8 S8 => ?_
   subst es ev
   exact h w8 S8.fr
 cases ok with
 | false =>
  simp [rp]
  unfold kb
  simp
  refine St.put (cs' := (pkC (pk0 5 tr x r.p 0 false)).toArray) (vs := [.int .u64 r.p.n, .int .u64 r.p.gg]) S5 (by simp) (by simp [pkC]) rfl fun w6 S6 => ?_
  exact fin w6 r.p 0 rfl rfl S6
 | true =>
  cases ki with
  | true =>
   simp
   exact fin w5 ib 0 rfl rfl S5
  | false =>
   simp
   have S5d := S5.iq ((Fr.refl _ w5).dr 1)
   obtain ⟨_, rt', rv', _⟩ := jk S5d.up3
   simp only [ni] at rv'
   simp [rt', rv']
   unfold kb
   simp
   refine St.put (cs' := (pkC (pk0 5 tr x r.t 0 true)).toArray) (vs := [.int .u64 r.t.n, .int .u64 r.t.gg]) S5d (by simp) (by simp [pkC]) rfl fun w6 S6 => ?_
   obtain ⟨_, _, rv6, _⟩ := jk S6.up3
   simp [rv6]
   refine S6.akg rfl (by simp [pkC]) fun w7 S7 => ?_
   exact fin w7 r.t r.v rfl rfl S7
theorem bbl {w : World} (r : Rg) {K : KV} (h : ∀ w', Fr (fun _ => False) w w' → K (kt r) w') : fe P F.cx [kt r] w K := by
 rw [M.dc.fcall]
 apply M.dc.calls
 unfold M.dc
 refine St.ue (St.jj w) fun b1 w1 S1 => ?_
 simp
 have S2 : St w (w1.alloc (.cells #[.int .u64 0, .int .u64 0, .int .u64 0, .int .u64 0, .int .i64 0] T.aj)) (fu w1.heap.size (rgC rg0) T.aj :: fu b1 (rgC r) T.e :: []) := wk S1 _
 generalize w1.heap.size = b2 at *
 generalize w1.alloc _ = w2 at *
 obtain ⟨rp, rt, rv, _⟩ := jk S2.swap
 simp [rp, rt, rv]
 unfold kb
 simp
 refine si (r' := r) S2 fun w3 S3 => ?_
 obtain ⟨_, _, _, rl⟩ := jk S3
 rw [axl, rl]
 exact ⟨rfl, h w3 S3.fr⟩
end
set_option maxRecDepth 100000
open Go.Eng
def uj (l1 l2 : List Spn) : Bool := decide (l1.length = l2.length) && (List.zipWith xr l1 l2).all id
theorem aty {l1 l2 : List Spn} {i : Nat} (h1 : i < l1.length) (h2 : i < l2.length) (h : xr l1[i] l2[i] = false) : uj l1 l2 = false := by
 unfold uj
 have : (List.zipWith xr l1 l2).all id = false := by
  rw [List.all_eq_false]
  refine ⟨xr l1[i] l2[i], ?_, by simp [h]⟩
  rw [List.mem_iff_getElem]
  exact ⟨i, by simp; omega, by simp⟩
 rw [this, Bool.and_false]
theorem ast {l1 l2 : List Spn} (hl : l1.length = l2.length) (h : ∀ j (h1 : j < l1.length) (h2 : j < l2.length), xr l1[j] l2[j] = true) : uj l1 l2 = true := by
 unfold uj
 rw [decide_eq_true hl, Bool.true_and, List.all_eq_true]
 intro x hx
 obtain ⟨j, hj, rfl⟩ := List.getElem_of_mem hx
 simp only [List.length_zipWith] at hj
 rw [List.getElem_zipWith]
 exact h j (by omega) (by omega)
def jr (p q : Pk) : Bool := decide (p.fw = q.fw) && (decide (p.tr = q.tr) && (decide (p.b = q.b) && (decide (p.ie = q.ie) && (decide (p.v = q.v) && (p.ok == q.ok)))))
def xu (p q : Pk) (ls ls' : List Spn) (lm lm' : List Mem) (lu lu' : List Int) : Bool := decide (lm = lm') && (decide (lu = lu') && (uj ls ls' && jr p q))
theorem auu {α : Type} {l1 l2 : List α} (hl : l1.length = l2.length) (h : ∀ j (h1 : j < l1.length) (h2 : j < l2.length), l1[j] = l2[j]) : l1 = l2 := List.ext_getElem hl h
def qi (p : Pk) : Pk := ⟨p.fw, if p.fw = 3 then 0 else p.tr, if p.fw = 4 ∨ p.fw = 5 ∨ p.fw = 6 ∨ p.fw = 7 ∨ p.fw = 9 then p.b else ib, if p.fw = 5 ∨ p.fw = 7 then p.ie else ib, if p.fw = 5 ∨ p.fw = 6 ∨ p.fw = 8 then p.v else 0, if p.fw = 5 ∨ p.fw = 7 then p.ok else false,
 if p.fw = 1 ∨ p.fw = 2 ∨ p.fw = 9 then p.sv else .slice none 0 0, if p.fw = 3 then p.mv else .slice none 0 0, if p.fw = 10 then p.iv else .slice none 0 0⟩
def og (p : Pk) (l : List Spn) : List Spn := if p.fw = 1 ∨ p.fw = 2 ∨ p.fw = 9 then l else []
def oh (p : Pk) (l : List Mem) : List Mem := if p.fw = 3 then l else []
def om (p : Pk) (l : List Int) : List Int := if p.fw = 10 then l else []
theorem bcs (b : Nat) (q : Pk) (w : World) (K : KV) : stT P T.b (.pointer (some ⟨b, 0, none⟩)) (pkA q) w K = stN P b 0 (pkC q) w K := by simp [pkA, pkC]
def beh (W : World) (l1 l2 : List Spn) : KL := fun x w1 => ∃ (u0 u1 : Value) (i : Nat), x = [u0, u1, .int .i64 (i : Nat)] ∧ i ≤ l1.length ∧ (∀ j (h1 : j < l1.length) (h2 : j < l2.length), j < i → xr l1[j] l2[j] = true) ∧ Fr (fun _ => False) W w1
def beo (W : World) (l1 l2 : List Int) : KL := fun x w1 => ∃ (u0 u1 : Value) (i : Nat), x = [u0, u1, .int .i64 (i : Nat)] ∧ i ≤ l1.length ∧ (∀ j (h1 : j < l1.length) (h2 : j < l2.length), j < i → l1[j] = l2[j]) ∧ Fr (fun _ => False) W w1
theorem auk {w : World} {v1 v2 : Value} {l1 l2 : List Spn} (s1 : SlS w v1 l1) (s2 : SlS w v2 l2) (hlen : l1.length ≤ 1000000) {K : KV} (h : ∀ w', Fr (fun _ => False) w w' → K (.bool (uj l1 l2)) w') : fe P F.av [v1, v2] w K := by
 rw [M.w.fcall]
 apply M.w.calls
 unfold M.w
 simp only [fi]
 rw [s1.ig (by kernel_rfl), s2.ig (by kernel_rfl)]
 by_cases hne : l1.length = l2.length
 ·simp [hne]
  unfold M.w.j0
  simp only [fi]
  rw [s1.ig (by kernel_rfl)]
  refine ⟨beh w l1 l2, fun x _ => l1.length - ms x 2, ⟨_, _, 0, rfl, Nat.zero_le _, fun j _ _ h => by omega, Fr.refl _ _⟩, ?_⟩
  rintro x w1 ⟨u0, u1, i, rfl, hi, hpre, f1⟩
  by_cases hil : i < l1.length
  ·have hili : (i : Int) < (l1.length : Int) := by omega
   obtain ⟨b1, o1, cap1, hv1, _, _, e1⟩ := (s1.fr f1 fun _ _ _ h => h : SlS w1 v1 l1).at hil
   obtain ⟨b2, o2, cap2, hv2, _, _, e2⟩ := (s2.fr f1 fun _ _ _ h => h : SlS w1 v2 l2).at (show i < l2.length by omega)
   have hl2i : i < l2.length := by omega
   have q1 : ∀ w' K, iaT P T.t v1 (.int .i64 (i : Nat)) w' K = K (.pointer (some ⟨b1, o1 + i * 8, none⟩)) w' := fun w' K => by rw [hv1]; simp [hil]
   have q2 : ∀ w' K, iaT P T.t v2 (.int .i64 (i : Nat)) w' K = K (.pointer (some ⟨b2, o2 + i * 8, none⟩)) w' := fun w' K => by rw [hv2]; simp [hl2i]
   have g1 : ∀ K, ldN P 8 b1 (o1 + i * 8) (dr w1 1) K = K (wx l1[i]) (dr w1 1) := fun K => ldS (fun k v hk => by rw [ni]; exact e1 k v hk) K
   have g2 : ∀ K, ldN P 8 b2 (o2 + i * 8) (dr w1 1) K = K (wx l2[i]) (dr w1 1) := fun K => ldS (fun k v hk => by rw [ni]; exact e2 k v hk) K
   have hw : IntKind.i64.wrap ((i : Int) + 1) = ((i + 1 : Nat) : Int) := by rw [fl (by omega) (by omega)]; omega
   simp [hili]
   unfold M.w.j3
   simp [q1, q2, g1, g2, bbg]
   cases hs : xr l1[i] l2[i] with
   | true =>
    simp
    rw [hw]
    refine ⟨⟨_, _, i + 1, rfl, hil, fun j a1 a2 hj => ?_, f1.dr 1⟩, by simp [ms, gv]; omega⟩
    by_cases hji : j = i
    ·subst hji; exact hs
    ·exact hpre j a1 a2 (by omega)
   | false =>
    simp
    have := h _ (f1.dr 1)
    rw [aty hil hl2i hs] at this
    exact this
  ·have hili : ¬ (i : Int) < (l1.length : Int) := by omega
   simp [hili]
   have := h w1 f1
   rw [ast hne fun j a1 a2 => hpre j a1 a2 (by omega)] at this
   exact this
 ·have hni : ¬ (l1.length : Int) = (l2.length : Int) := by omega
  simp [hni]
  have := h w (Fr.refl _ _)
  have hz : uj l1 l2 = false := by unfold uj; simp [hne]
  rw [hz] at this
  exact this
theorem atj {w : World} {v1 v2 : Value} {l1 l2 : List Int} (s1 : SlU w v1 l1) (s2 : SlU w v2 l2) (hlen : l1.length ≤ 1000000) {K : KV} (h : ∀ w', Fr (fun _ => False) w w' → K (.bool (decide (l1 = l2))) w') : fe P F.be [v1, v2] w K := by
 rw [M.ag.fcall]
 apply M.ag.calls
 unfold M.ag
 simp only [fi]
 rw [s1.ig (by kernel_rfl), s2.ig (by kernel_rfl)]
 by_cases hne : l1.length = l2.length
 ·simp [hne]
  unfold M.ag.j0
  simp only [fi]
  rw [s1.ig (by kernel_rfl)]
  refine ⟨beo w l1 l2, fun x _ => l1.length - ms x 2, ⟨_, _, 0, rfl, Nat.zero_le _, fun j _ _ h => by omega, Fr.refl _ _⟩, ?_⟩
  rintro x w1 ⟨u0, u1, i, rfl, hi, hpre, f1⟩
  by_cases hil : i < l1.length
  ·have hili : (i : Int) < (l1.length : Int) := by omega
   have hl2i : i < l2.length := by omega
   obtain ⟨b1, o1, cap1, hv1, _, e1⟩ := aeg (s1.fr f1 fun _ _ _ h => h : SlU w1 v1 l1) hil
   obtain ⟨b2, o2, cap2, hv2, _, e2⟩ := aeg (s2.fr f1 fun _ _ _ h => h : SlU w1 v2 l2) hl2i
   have q1 : ∀ w' K, iaT P T.g v1 (.int .i64 (i : Nat)) w' K = K (.pointer (some ⟨b1, o1 + i, none⟩)) w' := fun w' K => by rw [hv1]; simp [hil]
   have q2 : ∀ w' K, iaT P T.g v2 (.int .i64 (i : Nat)) w' K = K (.pointer (some ⟨b2, o2 + i, none⟩)) w' := fun w' K => by rw [hv2]; simp [hl2i]
   have hw : IntKind.i64.wrap ((i : Int) + 1) = ((i + 1 : Nat) : Int) := by rw [fl (by omega) (by omega)]; omega
   simp [hili]
   unfold M.ag.j3
   simp [q1, q2, e1, e2]
   by_cases hs : l1[i] = l2[i]
   ·simp [hs]
    rw [hw]
    refine ⟨⟨_, _, i + 1, rfl, hil, fun j a1 a2 hj => ?_, f1.dr 1⟩, by simp [ms, gv]; omega⟩
    by_cases hji : j = i
    ·subst hji; exact hs
    ·exact hpre j a1 a2 (by omega)
   ·simp [hs]
    have := h _ (f1.dr 1)
    rw [decide_eq_false fun he => hs (by simp [he])] at this
    exact this
  ·have hili : ¬ (i : Int) < (l1.length : Int) := by omega
   simp [hili]
   have := h w1 f1
   rw [decide_eq_true (auu hne fun j a1 a2 => hpre j a1 a2 (by omega))] at this
   exact this
 ·have hni : ¬ (l1.length : Int) = (l2.length : Int) := by omega
  simp [hni]
  have := h w (Fr.refl _ _)
  rw [decide_eq_false fun he => hne (congrArg List.length he)] at this
  exact this
theorem axq {w : World} {p q : Pk} {ls ls' : List Spn} {lm lm' : List Mem} {lu lu' : List Int} (hp : qt w p ls lm lu) (hq : qt w q ls' lm' lu') {K : KV}
  (h : ∀ w', Fr (fun _ => False) w w' → K (.bool (xu p q ls ls' lm lm' lu lu')) w') : fe P F.ds [pkA p, pkA q] w K := by
 rw [M.ds.fcall]
 apply M.ds.calls
 unfold M.ds
 rw [amh hp, amh (hq.fr ((Fr.refl _ w).alloc _))]
 have S1 : St w (w.alloc (.cells (pkC p).toArray T.b)) (fu w.heap.size (pkC p).toArray T.b :: []) := (St.jj w).add ((Fr.refl _ w).alloc _) (B := fun x => x = w.heap.size) ⟨by rw [ga, if_pos rfl], rfl⟩ fun x hx => by subst hx; rw [ii]; omega
 generalize w.alloc (.cells (pkC p).toArray T.b) = w1 at *
 have S2 : St w (w1.alloc (.cells (pkC q).toArray T.b)) (fu w1.heap.size (pkC q).toArray T.b :: _) := S1.add ((Fr.refl _ w1).alloc _) (B := fun x => x = w1.heap.size) ⟨by rw [ga, if_pos rfl], rfl⟩ fun x hx => by subst hx; rw [ii]; omega
 generalize w1.alloc (.cells (pkC q).toArray T.b) = w2 at *
 generalize w.heap.size = pb at *
 generalize w1.heap.size = qb at *
 obtain ⟨q0, q1, q2, q4, q6, q7, q8, q9, q10, _⟩ := ly S2
 obtain ⟨p0, p1, p2, p4, p6, p7, p8, p9, p10, _⟩ := ly S2.swap
 have hbo : ahw P T.au = true := by kernel_rfl
 have no : ∀ bb : Bool, bb = false → (jr p q = false) → K (.bool bb) w2 := fun bb hb hl => by
  subst hb
  have := h w2 S2.fr
  unfold xu at this
  rw [hl, Bool.and_false, Bool.and_false, Bool.and_false] at this
  exact this
 by_cases a0 : p.fw = q.fw
 case neg =>
  simp [p0, q0, a0]
  exact no false rfl (by simp [jr, a0])
 by_cases a1 : p.tr = q.tr
 case neg =>
  simp [p0, q0, a0, p1, q1, a1]
  exact no false rfl (by simp [jr, a1])
 by_cases a2 : p.b = q.b
 case neg =>
  simp [p0, q0, a0, p1, q1, a1, p2, q2, uh, a2]
  exact no false rfl (by simp [jr, a2])
 by_cases a3 : p.ie = q.ie
 case neg =>
  simp [p0, q0, a0, p1, q1, a1, p2, q2, uh, a2, p4, q4, a3]
  exact no false rfl (by simp [jr, a3])
 by_cases a4 : p.v = q.v
 case neg =>
  simp [p0, q0, a0, p1, q1, a1, p2, q2, uh, a2, p4, q4, a3, p6, q6, a4]
  exact no false rfl (by simp [jr, a4])
 by_cases a5 : p.ok = q.ok
 case neg =>
  have a5' : (p.ok == q.ok) = false := by simpa using a5
  simp [p0, q0, a0, p1, q1, a1, p2, q2, uh, a2, p4, q4, a3, p6, q6, a4, p7, q7, aom hbo, a5']
  exact no false rfl (by simp [jr, a5])
 obtain ⟨⟨sa, sc, es⟩, ⟨ma, mc, em⟩, ua, uc, eu⟩ := hp.one
 obtain ⟨⟨sa', sc', es'⟩, ⟨ma', mc', em'⟩, ua', uc', eu'⟩ := hq.one
 simp [p0, q0, a0, p1, q1, a1, p2, q2, uh, a2, p4, q4, a3, p6, q6, a4, p7, q7, aom hbo, a5, p8, q8]
 have hp2 := hp.fr S2.fr
 have hq2 := hq.fr S2.fr
 have fb : jr p q = true := by simp [jr, a0, a1, a2, a3, a4, a5]
 have fin := h
 unfold xu at fin
 rw [fb] at fin
 refine auk hp2.s hq2.s hp.ls fun w3 f3 => ?_
 have S3 := S2.iq f3
 obtain ⟨_, _, _, _, _, _, _, q9, _, _⟩ := ly S3
 obtain ⟨_, _, _, _, _, _, _, p9, _, _⟩ := ly S3.swap
 have hp3 := hp.fr S3.fr
 have hq3 := hq.fr S3.fr
 cases hb1 : uj ls ls' with
 | false =>
  simp
  have := fin w3 S3.fr
  rw [hb1] at this
  simpa using this
 | true =>
 rw [hb1] at fin
 simp [p9, q9]
 refine atr hp3.m hq3.m hp.lm fun w4 f4 => ?_
 have S4 := S3.iq f4
 obtain ⟨_, _, _, _, _, _, _, _, q10, _⟩ := ly S4
 obtain ⟨_, _, _, _, _, _, _, _, p10, _⟩ := ly S4.swap
 have hp4 := hp.fr S4.fr
 have hq4 := hq.fr S4.fr
 by_cases hm : lm = lm'
 case neg =>
  simp [hm]
  have := fin w4 S4.fr
  simpa [hm] using this
 simp [hm, p10, q10]
 refine atj hp4.u hq4.u hp.lu fun w5 f5 => ?_
 have := fin w5 (S4.iq f5).fr
 simpa [hm] using this
def awa (ok : Bool) (ie : Bal) (v : Int) : Bool := (decide (v = 0) || (mr v && !(decide (ie = ib)))) && (if ok = true then !(decide (v = 0)) || decide (ie = ib) else decide (v = 0) && !(decide (ie = ib)))
def sr (p : Pk) (ls : List Spn) (lm : List Mem) (lu : List Int) : Bool :=
 if p.fw = 1 ∨ p.fw = 2 then ul p.tr ls else if p.fw = 3 then aff lm else if p.fw = 4 then decide (0 < p.b.n) else if p.fw = 5 then decide (0 < p.b.n) && awa p.ok p.ie p.v else if p.fw = 6 then decide (0 < p.b.n) && mr p.v else if p.fw = 7 then decide (0 < p.b.n) && (p.ok == decide (p.ie = ib)) else if p.fw = 8 then mr p.v else if p.fw = 9 then decide (0 < p.b.n) && ul p.tr ls else if p.fw = 10 then wg 0 lu && (decide (0 < lu.length) && decide (lu.length ≤ 16)) else false
def azm (p : Pk) (ls : List Spn) (lm : List Mem) (lu : List Int) : Bool := xu p (qi p) ls (og p ls) lm (oh p lm) lu (om p lu)
def uu (p : Pk) (ls : List Spn) (lm : List Mem) (lu : List Int) : Bool := (azm p ls lm lu && (decide (p.fw = 3) || decide (0 < p.tr))) && sr p ls lm lu
def anz (p : Pk) (ls : List Spn) (lm : List Mem) (lu : List Int) : Int := if uu p ls lm lu = true then 0 else 6
def nw (p : Pk) : Pk := if p.fw = 4 ∨ p.fw = 6 then ⟨if p.v = 0 then 4 else 6, p.tr, p.b, ib, p.v, false, iu, iu, iu⟩ else if p.fw = 5 ∨ p.fw = 7 then ⟨p.fw, p.tr, p.b, p.ie, p.v, p.ok, iu, iu, iu⟩ else qi p
theorem ayj {p : Pk} {ls : List Spn} {lm : List Mem} {lu : List Int} (hr : we p) (hk : 1 ≤ p.fw ∧ p.fw ≤ 10) : (px p ls lm lu && xu p (nw p) ls (og p ls) lm (oh p lm) lu (om p lu)) = uu p ls lm lu := by
 have h1 := hr.tr.1
 have h2 := hr.b.1.1
 have core : (px p ls lm lu && jr p (nw p)) = ((jr p (qi p) && (decide (p.fw = 3) || decide (0 < p.tr))) && sr p ls lm lu) := by
  obtain ⟨k, tr, b, ie, v, ok, sv, mv, iv⟩ := p
  simp only at hk h1 h2
  have hcase : k = 1 ∨ k = 2 ∨ k = 3 ∨ k = 4 ∨ k = 5 ∨ k = 6 ∨ k = 7 ∨ k = 8 ∨ k = 9 ∨ k = 10 := by omega
  rcases hcase with rfl | rfl | rfl | rfl | rfl | rfl | rfl | rfl | rfl | rfl
  ·simp [px, sr, nw, qi, jr, afk]
   cases ul tr ls <;> by_cases ht : 0 < tr <;> by_cases hb : b = ib <;> by_cases hs : ie = ib <;> by_cases hv : v = 0 <;> cases ok <;> simp [ht, hb, hs, hv]
  ·simp [px, sr, nw, qi, jr, afk]
   cases ul tr ls <;> by_cases ht : 0 < tr <;> by_cases hb : b = ib <;> by_cases hs : ie = ib <;> by_cases hv : v = 0 <;> cases ok <;> simp [ht, hb, hs, hv]
  ·simp [px, sr, nw, qi, jr]
   cases aff lm <;> by_cases ht : tr = 0 <;> by_cases hb : b = ib <;> by_cases hs : ie = ib <;> by_cases hv : v = 0 <;> cases ok <;> simp [ht, hb, hs, hv]
  ·simp [px, sr, nw, qi, jr, apd]
   by_cases ht : 0 < tr <;> by_cases hb : 0 < b.n <;> by_cases hs : ie = ib <;> by_cases hv : v = 0 <;> cases ok <;> simp [ht, hb, hs, hv]
  ·simp [px, sr, nw, qi, jr, aeh, awa]
   by_cases ht : tr = 0 <;> by_cases hb : b.n = 0 <;> by_cases hs : ie = ib <;> by_cases hv : v = 0 <;> cases ok <;> cases htl : mr v <;> simp [ht, hb, hs, hv, htl] <;> first | omega | (subst hv; simp [mr] at htl) | skip
  ·simp [px, sr, nw, qi, jr, apd]
   by_cases ht : 0 < tr <;> by_cases hb : 0 < b.n <;> by_cases hs : ie = ib <;> by_cases hv : v = 0 <;> cases ok <;> simp [ht, hb, hs, hv] <;> first | rfl | (simp [mr]; done) | skip
  ·simp [px, sr, nw, qi, jr, aeh]
   by_cases ht : tr = 0 <;> by_cases hb : b.n = 0 <;> by_cases hs : ie = ib <;> by_cases hv : v = 0 <;> cases ok <;> simp [ht, hb, hs, hv] <;> first | omega | skip
  ·simp [px, sr, nw, qi, jr, als]
   by_cases ht : 0 < tr <;> by_cases hb : b = ib <;> by_cases hs : ie = ib <;> cases ok <;> simp [ht, hb, hs]
  ·simp [px, sr, nw, qi, jr, afr]
   cases ul tr ls <;> by_cases ht : 0 < tr <;> by_cases hb : 0 < b.n <;> by_cases hs : ie = ib <;> by_cases hv : v = 0 <;> cases ok <;> simp [ht, hb, hs, hv]
  ·simp [px, sr, nw, qi, jr, ajb]
   cases wg 0 lu <;> by_cases ht : 0 < tr <;> by_cases hb : b = ib <;> by_cases hs : ie = ib <;> by_cases hv : v = 0 <;> cases ok <;> simp [ht, hb, hs, hv]
 unfold uu azm xu
 generalize decide (lm = oh p lm) = A
 generalize decide (lu = om p lu) = B
 generalize uj ls (og p ls) = C
 cases A <;> cases B <;> cases C <;> simp <;> simpa using core
theorem tt {p q q' : Pk} (h1 : q.fw = q'.fw) (h2 : q.tr = q'.tr) (h3 : q.b = q'.b) (h4 : q.ie = q'.ie) (h5 : q.v = q'.v) (h6 : q.ok = q'.ok) : jr p q = jr p q' := by
 unfold jr; rw [h1, h2, h3, h4, h5, h6]
theorem aux {w : World} {p : Pk} {ls : List Spn} {lm : List Mem} {lu : List Int} {t : Value} (ht : ThR w p ls lm lu t) (hk : 1 ≤ p.fw ∧ p.fw ≤ 10) (l1 : ls.length ≤ 1000000) (l2 : lm.length ≤ 1000000) (l3 : lu.length ≤ 1000000) {K : KV}
  (h : ∀ w' q, qt w' q (og p ls) (oh p lm) (om p lu) → (∀ x, jr x q = jr x (nw p)) → Fr (fun _ => False) w w' → K (pkA q) w') : fe P F.ad [t] w K := by
 have e0 : ([] : List Spn).length ≤ 1000000 := by simp
 have e1 : ([] : List Mem).length ≤ 1000000 := by simp
 have e2 : ([] : List Int).length ≤ 1000000 := by simp
 cases ht with
 | qh v q hs =>
  have hS : og p ls = ls := by unfold og; rw [if_pos (by omega)]
  have hM : oh p lm = [] := by unfold oh; rw [if_neg (by omega)]
  have hU : om p lu = [] := by unfold om; rw [if_neg (by omega)]
  rw [hS, hM, hU] at h
  refine ajv hs l1 fun w' v' s f => h w' _ ⟨s, Sl.nil, Sl.nil, l1, e1, e2⟩ (fun x => tt ?_ ?_ ?_ ?_ ?_ ?_) f
  all_goals rcases q with q | q <;> simp [nw, qi, q]
 | aez v q hs =>
  have hS : og p ls = [] := by unfold og; rw [if_neg (by omega)]
  have hM : oh p lm = lm := by unfold oh; rw [if_pos (by omega)]
  have hU : om p lu = [] := by unfold om; rw [if_neg (by omega)]
  rw [hS, hM, hU] at h
  refine ass hs l2 fun w' v' s f => h w' ⟨3, 0, ib, ib, 0, false, iu, v', iu⟩ ⟨Sl.nil, s, Sl.nil, e0, l2, e2⟩ (fun x => tt ?_ ?_ ?_ ?_ ?_ ?_) f
  all_goals simp [nw, qi, q]
 | ask q =>
  have hS : og p ls = [] := by unfold og; rw [if_neg (by omega)]
  have hM : oh p lm = [] := by unfold oh; rw [if_neg (by omega)]
  have hU : om p lu = [] := by unfold om; rw [if_neg (by omega)]
  rw [hS, hM, hU] at h
  refine aou fun w' f => h w' _ ⟨Sl.nil, Sl.nil, Sl.nil, e0, e1, e2⟩ (fun x => tt ?_ ?_ ?_ ?_ ?_ ?_) f
  all_goals rcases q with q | q <;> simp [nw, ayb, q]
 | xa q =>
  have hS : og p ls = [] := by unfold og; rw [if_neg (by omega)]
  have hM : oh p lm = [] := by unfold oh; rw [if_neg (by omega)]
  have hU : om p lu = [] := by unfold om; rw [if_neg (by omega)]
  rw [hS, hM, hU] at h
  refine aji fun w' f => h w' _ ⟨Sl.nil, Sl.nil, Sl.nil, e0, e1, e2⟩ (fun x => tt ?_ ?_ ?_ ?_ ?_ ?_) f
  all_goals rcases q with q | q <;> simp [nw, q]
 | tp q =>
  have hS : og p ls = [] := by unfold og; rw [if_neg (by omega)]
  have hM : oh p lm = [] := by unfold oh; rw [if_neg (by omega)]
  have hU : om p lu = [] := by unfold om; rw [if_neg (by omega)]
  rw [hS, hM, hU] at h
  refine alm fun w' f => h w' _ ⟨Sl.nil, Sl.nil, Sl.nil, e0, e1, e2⟩ (fun x => tt ?_ ?_ ?_ ?_ ?_ ?_) f
  all_goals simp [nw, qi, q]
 | tj v q hs =>
  have hS : og p ls = ls := by unfold og; rw [if_pos (by omega)]
  have hM : oh p lm = [] := by unfold oh; rw [if_neg (by omega)]
  have hU : om p lu = [] := by unfold om; rw [if_neg (by omega)]
  rw [hS, hM, hU] at h
  refine ais hs l1 fun w' v' s f => h w' _ ⟨s, Sl.nil, Sl.nil, l1, e1, e2⟩ (fun x => tt ?_ ?_ ?_ ?_ ?_ ?_) f
  all_goals simp [nw, qi, q]
 | wy v q hs =>
  have hS : og p ls = [] := by unfold og; rw [if_neg (by omega)]
  have hM : oh p lm = [] := by unfold oh; rw [if_neg (by omega)]
  have hU : om p lu = lu := by unfold om; rw [if_pos (by omega)]
  rw [hS, hM, hU] at h
  refine ajl hs l3 fun w' v' s f => h w' _ ⟨Sl.nil, Sl.nil, s, e0, e1, l3⟩ (fun x => tt ?_ ?_ ?_ ?_ ?_ ?_) f
  all_goals simp [nw, qi, q]
 | none q => exact absurd hk q
theorem auc {p : Pk} {ls : List Spn} {lm : List Mem} {lu : List Int} (h : ¬ (1 ≤ p.fw ∧ p.fw ≤ 10)) : uu p ls lm lu = false := by
 unfold uu sr
 rw [if_neg (by omega), if_neg (by omega), if_neg (by omega), if_neg (by omega), if_neg (by omega), if_neg (by omega), if_neg (by omega), if_neg (by omega), if_neg (by omega), Bool.and_false]
theorem ane {w : World} {p : Pk} {ls : List Spn} {lm : List Mem} {lu : List Int} (hp : qt w p ls lm lu) (hr : we p) {K : KV} (h : ∀ w', Fr (fun _ => False) w w' → K (.int .i64 (anz p ls lm lu)) w') : fe P F.dr [pkA p] w K := by
 rw [M.dq.fcall]
 apply M.dq.calls
 unfold M.dq
 refine St.ue (St.jj w) fun pb w1 S1 => ?_
 have S1' : St w w1 (fu pb (pkC p).toArray T.b :: []) := S1
 have pl := fun K => yx S1' K
 simp [pl]
 refine ale (hp.fr S1.fr) fun w2 t ht f2 => ?_
 have S2 := S1'.iq f2
 have S3 := S2.iq ((Fr.refl _ w2).dr 1)
 unfold anz at h
 by_cases hk : 1 ≤ p.fw ∧ p.fw ≤ 10
 case neg =>
  rw [ht.bdi hk]
  rw [auc hk] at h
  simp [bao]
  exact h _ S3.fr
 rw [← ayj hr hk] at h
 simp [ht.eqn hk]
 have ht3 := ht.fr ((Fr.refl _ w2).dr 1)
 refine bag ht3 hk hp.ls hp.lm hp.lu fun w4 f4 => ?_
 have S4 := S3.iq f4
 have pl4 := fun K => yx S4 K
 cases hb : px p ls lm lu with
 | false =>
  rw [hb] at h
  simp
  exact h _ S4.fr
 | true =>
 rw [hb, Bool.true_and] at h
 simp [pl4]
 refine aux (ht3.fr f4) hk hp.ls hp.lm hp.lu fun w5 q hq hf f5 => ?_
 have S5 := S4.iq f5
 have pl5 := fun K => yx S5 K
 simp [pl5]
 refine axq (hp.fr S5.fr) hq fun w6 f6 => ?_
 have S6 := S5.iq f6
 have fin := h w6 S6.fr
 have e : xu p q ls (og p ls) lm (oh p lm) lu (om p lu) = xu p (nw p) ls (og p ls) lm (oh p lm) lu (om p lu) := by unfold xu; rw [hf p]
 rw [e]
 generalize xu p (nw p) ls (og p ls) lm (oh p lm) lu (om p lu) = bb at *
 cases bb with
 | true => simp at fin ⊢; exact fin
 | false => simp at fin ⊢; exact fin
theorem axb {w : World} {p : Pk} {ls : List Spn} {lm : List Mem} {lu : List Int} (hp : qt w p ls lm lu) (hr : we p) {K : KV} (h1 : uu p ls lm lu = true → ∀ w' t, ThR w' p ls lm lu t → Fr (fun _ => False) w w' → K (.tuple #[t, .int .i64 0]) w') (h0 : uu p ls lm lu = false → ∀ w', Fr (fun _ => False) w w' → K (.tuple #[.nilIface, .int .i64 6]) w') : fe P F.dz [pkA p] w K := by
 rw [M.ef.fcall]
 apply M.ef.calls
 unfold M.ef
 refine St.ue (St.jj w) fun pb w1 S1 => ?_
 have S1' : St w w1 (fu pb (pkC p).toArray T.b :: []) := S1
 have pl := fun K => yx S1' K
 simp [pl]
 refine ane (hp.fr S1.fr) hr fun w2 f2 => ?_
 have S2 := S1'.iq f2
 unfold anz
 cases he : uu p ls lm lu with
 | false =>
  simp
  exact h0 he w2 S2.fr
 | true =>
  simp
  have pl2 := fun K => yx S2 K
  simp [pl2]
  refine ale (hp.fr S2.fr) fun w3 t ht f3 => ?_
  exact h1 he w3 t ht (S2.iq f3).fr
structure avz (ls : List Spn) (lm : List Mem) (lu : List Int) : Prop where
 s : ls.length ≤ 40
 m : lm.length ≤ 100
 u : lu.length ≤ 100
 nm : ∀ x ∈ ls, x.name.size ≤ 200 ∧ x.lr.size ≤ 200
theorem abr.asi {w : World} {p : Pk} {ls : List Spn} {lm : List Mem} {lu : List Int} (h : abr w p ls lm lu) (l : avz ls lm lu) : qt w p ls lm lu := h.rd (by have := l.s; omega) (by have := l.m; omega) (by have := l.u; omega)
def LiI (W : World) (pb : Nat) (p : Pk) (ls : List Spn) : KL := fun x w1 => ∃ (u : Value) (i : Nat), x = [u, .int .i64 (i : Nat)] ∧ i ≤ ls.length ∧ (∀ j (h : j < ls.length), j < i → ls[j].name.size ≤ 200 ∧ ls[j].lr.size ≤ 200) ∧ St W w1 (fu pb (pkC p).toArray T.b :: [])
theorem avw {w : World} {p : Pk} {ls : List Spn} {lm : List Mem} {lu : List Int} (hp : abr w p ls lm lu) {K : KV} (h : ∀ bb w', (bb = true → avz ls lm lu) → Fr (fun _ => False) w w' → K (.bool bb) w') : fe P F.cs [pkA p] w K := by
 rw [M.be.fcall]
 apply M.be.calls
 unfold M.be
 refine St.ue (St.jj w) fun pb w1 S1 => ?_
 have S1' : St w w1 (fu pb (pkC p).toArray T.b :: []) := S1
 obtain ⟨_, _, _, _, _, _, c8, c9, c10, _⟩ := ly S1'
 have l1 : ∀ w' K, biT P .len #[T.t] T.a [false] [p.sv] w' K = K (.int .i64 ls.length) w' := fun w' K => hp.s.ig (by kernel_rfl) [false]
 have l2 : ∀ w' K, biT P .len #[T.v] T.a [false] [p.mv] w' K = K (.int .i64 lm.length) w' := fun w' K => hp.m.ig (by kernel_rfl) [false]
 have l3 : ∀ w' K, biT P .len #[T.g] T.a [false] [p.iv] w' K = K (.int .i64 lu.length) w' := fun w' K => hp.u.ig (by kernel_rfl) [false]
 have no : ∀ w', Fr (fun _ => False) w w' → K (.bool false) w' := fun w' f => h false w' (fun h => by cases h) f
 by_cases h1 : 40 < ls.length
 ·have h1' : (40 : Int) < ls.length := by omega
  simp [c8, l1, h1']
  exact no _ S1.fr
 have h1' : ¬ (40 : Int) < ls.length := by omega
 by_cases h2 : 100 < lm.length
 ·have h2' : (100 : Int) < lm.length := by omega
  simp [c8, l1, h1', c9, l2, h2']
  exact no _ S1.fr
 have h2' : ¬ (100 : Int) < lm.length := by omega
 by_cases h3 : 100 < lu.length
 ·have h3' : (100 : Int) < lu.length := by omega
  simp [c8, l1, h1', c9, l2, h2', c10, l3, h3']
  exact no _ S1.fr
 have h3' : ¬ (100 : Int) < lu.length := by omega
 simp [c8, l1, h1', c9, l2, h2', c10, l3, h3']
 refine ⟨LiI w pb p ls, fun x _ => ls.length - ms x 1, ⟨_, 0, rfl, Nat.zero_le _, fun j _ h => by omega, S1'⟩, ?_⟩
 rintro x w2 ⟨u, i, rfl, hi, hpre, S2⟩
 unfold M.be.j2
 obtain ⟨_, _, _, _, _, _, c8, _⟩ := ly S2
 by_cases hil : i < ls.length
 ·have hili : (i : Int) < (ls.length : Int) := by omega
  have hwi : IntKind.i64.wrap ((i : Int) + 1) = ((i + 1 : Nat) : Int) := by rw [fl (by omega) (by omega)]; rfl
  obtain ⟨b, o, cap, hv, _, _, k1⟩ := (hp.fr S2.fr).s.at hil
  have hia : ∀ w' K, iaT P T.t p.sv (.int .i64 (i : Nat)) w' K = K (.pointer (some ⟨b, o + i * 8, none⟩)) w' := fun w' K => by rw [hv]; simp [hil]
  have n6 := k1 6 _ rfl
  have n5 := k1 5 _ rfl
  have lstr : ∀ (s : ByteArray) w' K, biT P .len #[T.an] T.a [false] [.string s] w' K = K (.int .i64 s.size) w' := fun s w' K => aqw (by kernel_rfl) [false] s w' K
  simp [c8, l1, hil]
  unfold M.be.j3
  by_cases q1 : 200 < ls[i].name.size
  ·have q1' : (200 : Int) < (ls[i].name.size : Int) := by omega
   simp [c8, hia, n6, lstr, q1']
   exact no _ S2.fr
  have q1' : ¬ (200 : Int) < (ls[i].name.size : Int) := by omega
  by_cases q2 : 200 < ls[i].lr.size
  ·have q2' : (200 : Int) < (ls[i].lr.size : Int) := by omega
   simp [c8, hia, n6, n5, lstr, q1', q2']
   exact no _ S2.fr
  have q2' : ¬ (200 : Int) < (ls[i].lr.size : Int) := by omega
  simp [c8, hia, n6, n5, lstr, q1', q2', hwi]
  refine ⟨⟨_, i + 1, rfl, by omega, fun j hj hlt => ?_, S2⟩, by simp [ms, gv]; omega⟩
  by_cases hji : j = i
  ·subst hji; omega
  ·exact hpre j hj (by omega)
 ·have hili : ¬ (i : Int) < (ls.length : Int) := by omega
  simp [c8, l1, hil]
  refine h true _ (fun _ => ⟨by omega, by omega, by omega, fun x hx => ?_⟩) S2.fr
  obtain ⟨j, hj, rfl⟩ := List.getElem_of_mem hx
  exact hpre j hj (by omega)
section
variable {i : Nat} {g : Nat → Rg} {val gg : Nat → Int} {prop : Nat → Prop} {tk : List (Nat × Nat)}
end
set_option maxRecDepth 100000
open Go.Eng Go.Proofs.YtfnhoaemapheoaaGreat.Sint
structure RI (s f : Int) (L : Lg) (F : Nat) (D : Dk) (m : ip) : Prop where
 pz : lw s f L F D
 fp : uy (fq L.fj)
 set : so (fq L.fj) F m
 le : F ≤ (fq L.fj).length
section
variable {s f : Int} {L : Lg} {F : Nat} {D : Dk} {m : ip}
theorem RI.arb (h : RI s f L F D m) : jd (fq L.fj) = m := abg h.set h.le
theorem RI.ok (h : RI s f L F D m) : ∀ p ∈ m, okE p := by rw [← h.arb]; exact bar h.fp
theorem RI.asc (h : RI s f L F D m) : Asc m := by rw [← h.arb]; exact tq _
theorem axy (h : RI s f L F D m) {L' : Lg} {D' : Dk} {i : Nat} (g : lw s f L' F D') (e : fq L'.fj = fq L.fj ++ (jh m).take i) : RI s f L' F D' m :=
 ⟨g, by rw [e]; exact adm h.fp h.ok i, by rw [e]; exact adw h.set h.le h.ok i, by rw [e, List.length_append]; have := h.le; omega⟩
end
set_option maxRecDepth 100000
open Go.Eng Go.Proofs.YtfnhoaemapheoaaGreat.Sint
theorem ben (a b c d e : Int) (w : World) (K : KV) : ir P T.ah #[(0, .int .u64 a), (1, .int .u64 b), (2, .int .u64 c), (3, .int .u64 d), (4, .int .u64 e)] w K = K (.agg #[.int .u64 a, .int .u64 b, .int .u64 c, .int .u64 d, .int .u64 e]) w := .trans (by kernel_rfl) rfl
theorem bdn (a b c d e : Value) (w : World) (K : KV) : ixT P T.ah (.agg #[a, b, c, d, e]) (.int .i64 0) w K = K a w := .trans (by kernel_rfl) rfl
theorem bdm (a b c d e : Value) (w : World) (K : KV) : ixT P T.ah (.agg #[a, b, c, d, e]) (.int .i64 1) w K = K b w := .trans (by kernel_rfl) rfl
theorem bdo (a b c d e : Value) (w : World) (K : KV) : ixT P T.ah (.agg #[a, b, c, d, e]) (.int .i64 2) w K = K c w := .trans (by kernel_rfl) rfl
theorem bdw (a b c d e : Value) (w : World) (K : KV) : ixT P T.ah (.agg #[a, b, c, d, e]) (.int .i64 3) w K = K d w := .trans (by kernel_rfl) rfl
theorem bdv (a b c d e : Value) (w : World) (K : KV) : ixT P T.ah (.agg #[a, b, c, d, e]) (.int .i64 4) w K = K e w := .trans (by kernel_rfl) rfl
theorem azh (b : Nat) (w : World) (K : KV) : iaT P T.ah (.pointer (some ⟨b, 0, none⟩)) (.int .i64 0) w K = K (.pointer (some ⟨b, 0, none⟩)) w := .trans (by kernel_rfl) rfl
theorem azu (b : Nat) (w : World) (K : KV) : iaT P T.ah (.pointer (some ⟨b, 0, none⟩)) (.int .i64 1) w K = K (.pointer (some ⟨b, 1, none⟩)) w := .trans (by kernel_rfl) rfl
theorem azk (b : Nat) (w : World) (K : KV) : iaT P T.ah (.pointer (some ⟨b, 0, none⟩)) (.int .i64 2) w K = K (.pointer (some ⟨b, 2, none⟩)) w := .trans (by kernel_rfl) rfl
theorem azr (b : Nat) (w : World) (K : KV) : iaT P T.ah (.pointer (some ⟨b, 0, none⟩)) (.int .i64 3) w K = K (.pointer (some ⟨b, 3, none⟩)) w := .trans (by kernel_rfl) rfl
theorem azn (b : Nat) (w : World) (K : KV) : iaT P T.ah (.pointer (some ⟨b, 0, none⟩)) (.int .i64 4) w K = K (.pointer (some ⟨b, 4, none⟩)) w := .trans (by kernel_rfl) rfl
theorem adj : ∀ l : List Int, (l.flatMap ka).length = l.length * 8
 | [] => rfl
 | x :: l => by rw [List.flatMap_cons, List.length_append, oy, adj l, List.length_cons]; omega
def abu (k : Int) (r : Rg) : List Int := [k, r.p.n, r.p.gg, r.t.n, r.t.gg]
def ShI (w0 : World) (k : Int) (r : Rg) (R : List Asn) : KL := fun x w1 => ∃ (u v : Value) (i : Nat), x = [u, v, .int .i64 (i : Nat)] ∧ i ≤ 5 ∧ St w0 w1 (je v (((abu k r).take i).flatMap ka) :: R)
section
variable {w0 w : World} {R : List Asn}
theorem bbn (a b c d e : Int) {i : Nat} (hi : i < 5) (w : World) (K : KV) : ixT P T.ah (.agg #[.int .u64 a, .int .u64 b, .int .u64 c, .int .u64 d, .int .u64 e]) (.int .i64 (i : Nat)) w K = K (.int .u64 ([a, b, c, d, e][i]'hi)) w := by
 match i, hi with
 | 0, _ => exact bdn _ _ _ _ _ _ _
 | 1, _ => exact bdm _ _ _ _ _ _ _
 | 2, _ => exact bdo _ _ _ _ _ _ _
 | 3, _ => exact bdw _ _ _ _ _ _ _
 | 4, _ => exact bdv _ _ _ _ _ _ _
theorem bcb (b : Nat) {i : Nat} (hi : i < 5) (w : World) (K : KV) : iaT P T.ah (.pointer (some ⟨b, 0, none⟩)) (.int .i64 (i : Nat)) w K = K (.pointer (some ⟨b, i, none⟩)) w := by
 match i, hi with
 | 0, _ => exact azh _ _ _
 | 1, _ => exact azu _ _ _
 | 2, _ => exact azk _ _ _
 | 3, _ => exact azr _ _ _
 | 4, _ => exact azn _ _ _
theorem aqi (S : St w0 w R) (k : Int) {r : Rg} (hv : 0 ≤ r.v ∧ r.v ≤ 3) {K : KV} (h : ∀ w' v', St w0 w' (je v' (kr k r) :: R) → K v' w') : fe P F.cu [.int .u64 k, kt r] w K := by
 rw [M.ci.fcall]
 apply M.ci.calls
 unfold M.ci
 refine St.ue S fun b w1 S1 => ?_
 have S1' : St w0 w1 (fu b (rgC r) T.e :: R) := S1
 have c0 : fm w1 b 0 = some (.int .u64 r.p.n) := by rw [S1'.cell]; rfl
 have c1 : fm w1 b 1 = some (.int .u64 r.p.gg) := by rw [S1'.cell]; rfl
 have c2 : fm w1 b 2 = some (.int .u64 r.t.n) := by rw [S1'.cell]; rfl
 have c3 : fm w1 b 3 = some (.int .u64 r.t.gg) := by rw [S1'.cell]; rfl
 simp [c0, c1, c2, c3, ben]
 refine ⟨ShI w0 k r (fu b (rgC r) T.e :: R), fun x _ => 5 - ms x 2, ⟨_, _, 0, rfl, Nat.zero_le _, pq S1'⟩, ?_⟩
 rintro x w2 ⟨u, v, i, rfl, hi, S2⟩
 by_cases hil : i < 5
 ·have hili : (i : Int) < 5 := by omega
  have hwi : IntKind.i64.wrap ((i : Int) + 1) = ((i + 1 : Nat) : Int) := by rw [fl (by omega) (by omega)]; rfl
  simp [hili]
  unfold M.ci.j2
  simp [bbn _ _ _ _ _ hil]
  have hlen : (((abu k r).take i).flatMap ka).length ≤ 100000000 := by
   rw [adj, List.length_take]
   omega
  refine aoz S2 hlen _ fun w3 v3 S3 => ?_
  simp [hwi]
  refine ⟨⟨_, _, i + 1, rfl, by omega, ?_⟩, by simp [ms, gv]; omega⟩
  have e : (((abu k r).take (i + 1)).flatMap ka) = (((abu k r).take i).flatMap ka) ++ ka ((abu k r)[i]'hil) := by
   rw [List.take_add_one, List.getElem?_eq_getElem (show i < (abu k r).length from hil), List.flatMap_append]
   show _ ++ ([_] : List Int).flatMap ka = _
   simp only [List.flatMap_cons, List.flatMap_nil, List.append_nil]
   rfl
  rw [e]
  exact S3
 ·have hi5 : i = 5 := by omega
  subst hi5
  simp
  unfold M.ci.j0
  have cv : fm w2 b 4 = some (.int .i64 r.v) := by rw [S2.swap.cell]; rfl
  simp [cv]
  rw [km (ks := .i64) (kd := .u8) (by kernel_rfl) (by kernel_rfl)]
  have hw8 : IntKind.u8.wrap r.v = r.v := by
   obtain ⟨n, hn⟩ : ∃ n : Nat, r.v = n := ⟨r.v.toNat, by omega⟩
   rw [hn]; exact azs (by omega)
  rw [hw8]
  simp
  have S3 := ayx S2 r.v
  refine Go.Eng.vq et.c ij vm S3.swap (l2 := [r.v]) (S3.row ij) ?_ (by decide) fun w4 v4 S4 => ?_
  ·have : (((abu k r).take 5).flatMap ka).length = 40 := by
    rw [adj]
    rfl
   rw [this]; simp
  ·refine h w4 v4 ?_
   have e : ((abu k r).take 5).flatMap ka ++ [r.v] = kr k r := by
    show ((abu k r).flatMap ka) ++ [r.v] = _
    unfold abu kr
    simp only [List.flatMap_cons, List.flatMap_nil, List.append_nil, List.append_assoc]
   rw [e] at S4
   exact (S4.swap.drop).swap.drop
end
def ago (b : List Int) (i : Nat) : Array Value := ((List.range 5).map fun j => if j < i then Value.int .u64 (lq (b.drop (8 * j))) else .int .u64 0).toArray
theorem ayw (b : List Int) {i : Nat} (hi : i < 5) : (ago b i).setIfInBounds i (.int .u64 (lq (b.drop (8 * i)))) = ago b (i + 1) := by
 match i, hi with
 | 0, _ => rfl
 | 1, _ => rfl
 | 2, _ => rfl
 | 3, _ => rfl
 | 4, _ => rfl
def RdI (W : World) (ab rb : Nat) (b : List Int) : KL := fun x w1 => ∃ (u : Value) (i : Nat), x = [u, .int .i64 (i : Nat)] ∧ i ≤ 5 ∧ St W w1 (fu ab (ago b i) T.ah :: fu rb (rgC rg0) T.e :: [])
theorem ayu {w : World} {v : Value} {b : List Int} (hs : SlB w v b) {k : Int} {r : Rg} (hr : afw b = some (k, r)) {K : KV} (h : ∀ w', Fr (fun _ => False) w w' → K (.tuple #[.int .u64 k, kt r, .bool true]) w') : fe P F.dt [v] w K := by
 unfold afw at hr
 by_cases hl : b.length = 41
 case neg => rw [if_pos hl] at hr; cases hr
 rw [if_neg (by simp [hl])] at hr
 split at hr
 case isFalse => cases hr
 rename_i hc
 obtain ⟨hk0, hrt⟩ := hc
 simp only [Option.some.injEq, Prod.mk.injEq] at hr
 obtain ⟨ek, er⟩ := hr
 rw [er] at hrt
 have hln : ∀ w' K, biT P .len #[T.c] T.a [false] [v] w' K = K (.int .i64 (41 : Nat)) w' := fun w' K => by rw [hs.ig (by kernel_rfl) [false], hl]
 rw [M.bl.fcall]
 apply M.bl.calls
 unfold M.bl
 simp
 have S1 := wk (St.jj w) T.e
 generalize w.heap.size = rb at *
 generalize w.alloc _ = w1 at *
 simp [hln]
 unfold M.bl.j0
 simp
 have S2 : St w (w1.alloc (.cells #[.int .u64 0, .int .u64 0, .int .u64 0, .int .u64 0, .int .u64 0] T.ah)) (fu w1.heap.size (ago b 0) T.ah :: _) := S1.mkB (ago b 0) T.ah
 generalize w1.heap.size = ab at *
 generalize w1.alloc _ = w2 at *
 refine ⟨RdI w ab rb b, fun x _ => 5 - ms x 1, ⟨_, 0, rfl, Nat.zero_le _, S2⟩, ?_⟩
 rintro x w3 ⟨u, i, rfl, hi, S3⟩
 by_cases hil : i < 5
 ·have hili : (i : Int) < 5 := by omega
  have hwi : IntKind.i64.wrap ((i : Int) + 1) = ((i + 1 : Nat) : Int) := by rw [fl (by omega) (by omega)]; rfl
  have hw8 : IntKind.i64.wrap (8 * (i : Int)) = ((8 * i : Nat) : Int) := by rw [fl (by omega) (by omega)]; omega
  simp [hili]
  unfold M.bl.j3
  have hs3 : SlB w3 v b := hs.fr S3.fr fun _ _ _ h => h
  obtain ⟨v', s', _, hsub⟩ := hs3.sub (P := P) (t := T.c) (lo := some (.int .i64 ((8 * i : Nat) : Int))) (hi := none) (i := 8 * i) (j := b.length) (by kernel_rfl) (by kernel_rfl) (.inr ⟨_, rfl⟩) (.inl ⟨rfl, rfl⟩) (by omega) (Nat.le_refl _)
  have e4 : (List.take (b.length - 8 * i) (List.drop (8 * i) b)) = b.drop (8 * i) := List.take_of_length_le (by simp)
  rw [e4] at s'
  simp [hw8]
  rw [show (8 * (i : Int)) = ((8 * i : Nat) : Int) by omega, hsub]
  refine atp s' (by simp; omega) ?_
  simp [bcb ab hil]
  refine S3.akg rfl (by simp [ago]; omega) fun w4 S4 => ?_
  rw [ayw b hil] at S4
  simp [hwi]
  exact ⟨⟨_, i + 1, rfl, by omega, S4⟩, by simp [ms, gv]; omega⟩
 ·have hi5 : i = 5 := by omega
  subst hi5
  simp
  unfold M.bl.j1
  have S3d := S3.iq ((Fr.refl _ w3).dr 1)
  have c0 : fm w3 ab 0 = some (.int .u64 (lq b)) := by rw [S3.cell]; rfl
  have c1 : fm w3 ab 1 = some (.int .u64 (lq (b.drop 8))) := by rw [S3.cell]; rfl
  have c2 : fm w3 ab 2 = some (.int .u64 (lq (b.drop 16))) := by rw [S3.cell]; rfl
  have c3 : fm w3 ab 3 = some (.int .u64 (lq (b.drop 24))) := by rw [S3.cell]; rfl
  have c4 : fm w3 ab 4 = some (.int .u64 (lq (b.drop 32))) := by rw [S3.cell]; rfl
  obtain ⟨vb, vo, vc, hv, hvb, _, hcv⟩ := hs.at (i := 40) (by omega)
  have cb0 := hcv 0 _ rfl
  simp only [Nat.mul_one, Nat.add_zero] at cb0
  have eg : b[40]'(by omega) = r.v := by
   have := congrArg Rg.v er
   simp only at this
   rw [List.getD_eq_getElem?_getD, List.getElem?_eq_getElem (by omega)] at this
   exact this
  rw [eg] at cb0
  have cbW : ∀ {w' : World}, Fr (fun _ => False) w w' → fm w' vb (vo + 40) = some (.int .u8 r.v) := fun f => by rw [um (f.jc vb hvb fun h => h)]; exact cb0
  have cb := cbW S3.fr
  have hiv : ∀ w' K, iaT P T.c v (.int .i64 40) w' K = K (.pointer (some ⟨vb, vo + 40, none⟩)) w' := fun w' K => by rw [hv]; simp [hl]
  have hvr : 0 ≤ r.v ∧ r.v ≤ 3 := by
   unfold Rg.right at hrt
   split at hrt
   ·simp at hrt; omega
   ·simp [mr] at hrt; omega
  have hcvt : ∀ w' K, cvT P T.ap T.r (.int .u8 r.v) w' K = K (.int .i64 r.v) w' := fun w' K => by
   rw [km (ks := .u8) (kd := .i64) (by kernel_rfl) (by kernel_rfl), fl (by omega) (by omega)]
  simp [azh, azu, azk, azr, azn, c0, c1, c2, c3, c4, hiv, cb, hcvt]
  have er1 : r.p.n = lq (b.drop 8) := by rw [← er]
  have er2 : r.p.gg = lq (b.drop 16) := by rw [← er]
  have er3 : r.t.n = lq (b.drop 24) := by rw [← er]
  have er4 : r.t.gg = lq (b.drop 32) := by rw [← er]
  rw [← er1, ← er2, ← er3, ← er4]
  rw [← er1] at c1
  rw [← er2] at c2
  rw [← er3] at c3
  rw [← er4] at c4
  rw [ek] at c0
  have S4 : St w ((dr w3 1).alloc (.cells #[.int .u64 0, .int .u64 0, .int .u64 0, .int .u64 0, .int .i64 0] T.e)) (fu (dr w3 1).heap.size (rgC rg0) T.e :: _) := wk S3d T.e
  rw [show (dr w3 1).heap.size = w3.heap.size from rfl] at S4
  generalize w3.heap.size = qb at *
  generalize (dr w3 1).alloc _ = w4 at *
  have cb4 := cbW S4.fr
  have arrC : ∀ {w' : World} {L : List Asn}, St w w' (fu ab (ago b 5) T.ah :: L) → fm w' ab 0 = some (.int .u64 k) ∧ fm w' ab 1 = some (.int .u64 r.p.n) ∧ fm w' ab 2 = some (.int .u64 r.p.gg) ∧ fm w' ab 3 = some (.int .u64 r.t.n) ∧ fm w' ab 4 = some (.int .u64 r.t.gg) := fun {w' L} S' => by
   have e0 : fm w' ab 0 = some (.int .u64 (lq b)) := by rw [S'.cell]; rfl
   have e1 : fm w' ab 1 = some (.int .u64 (lq (b.drop 8))) := by rw [S'.cell]; rfl
   have e2 : fm w' ab 2 = some (.int .u64 (lq (b.drop 16))) := by rw [S'.cell]; rfl
   have e3 : fm w' ab 3 = some (.int .u64 (lq (b.drop 24))) := by rw [S'.cell]; rfl
   have e4 : fm w' ab 4 = some (.int .u64 (lq (b.drop 32))) := by rw [S'.cell]; rfl
   rw [ek] at e0
   rw [← er1] at e1
   rw [← er2] at e2
   rw [← er3] at e3
   rw [← er4] at e4
   exact ⟨e0, e1, e2, e3, e4⟩
  obtain ⟨d0, d1, d2, d3, d4⟩ := arrC S4.swap
  simp [cb4, d1, d2, d3, d4]
  refine si (r' := r) S4 fun w5 S5 => ?_
  have S5d := S5.iq ((Fr.refl _ w5).dr 1)
  obtain ⟨e0, _⟩ := arrC S5d.swap
  simp only [ni] at e0
  obtain ⟨_, _, _, rl5⟩ := jk S5d
  have hkp : 0 < k := by omega
  simp [e0, rl5, hkp]
  refine auv r fun w6 f6 => ?_
  have S6 := S5d.iq f6
  obtain ⟨g0, _⟩ := arrC S6.swap
  obtain ⟨_, _, _, rl6⟩ := jk S6
  rw [hrt]
  simp [g0, rl6]
  unfold kt
  simp
  refine si (r' := r) S6.up2 fun w7 S7 => ?_
  obtain ⟨_, _, _, rl7⟩ := jk S7
  rw [zn, rl7]
  exact ⟨rfl, h w7 S7.fr⟩
end Go.Proofs.YtfnhoaemapheoaaGreat
set_option maxRecDepth 100000
namespace Go.Proofs.YtfnhoaemapheoaaGreat.KeyR
open Go.Eng Go.Sort Go.Proofs.YtfnhoaemapheoaaGreat.Suint64
def KI (w W : World) (U : Nat → Prop) (r : Nat) (m : MP) (J : List Int → Asn) : KL := fun x w1 => ∃ (done : List Int) (U1 : Nat → Prop), x.length = 1 ∧ wh w1 W.heap.size r .u64 m done ∧ (J done.reverse).ok w1 U1 ∧ (∀ b, U1 b → w.heap.size ≤ b ∧ b < w1.heap.size ∧ b ≠ W.heap.size) ∧ Fr (fun b => w.heap.size ≤ b) W w1
theorem aar {w : World} {it r : Nat} {k : IntKind} {m : MP} {done : List Int} (h : wh w it r k m done) : done.Nodup ∧ ∀ x ∈ done, x ∈ im m := by
 obtain ⟨es, clk, since, c0, ie, _, _, _, _, _, _, _, _, _, h1, h2⟩ := h
 exact ⟨h1, h2⟩
theorem ahd {w : World} {r Bm : Nat} {m : MP} {e : TypeId} (hm : nk w r .u64 m) (hn : (im m).Nodup) (hB : w.heap[Bm]? = some (.cells #[.map (some r)] e (0, 0))) (hl : m.length < 60000) :
  agy P F.a [.pointer (some ⟨Bm, 0, none⟩)] zw (fun xs => xs.Perm (im m)) 60000 w := by
 intro l J W U K hf hJ hU hround hend
 apply M.s.calls
 unfold M.s
 have hBm : W.heap[Bm]? = some (.cells #[.map (some r)] e (0, 0)) := hf.heap hB fun h => h
 have c0 := fo hBm 0
 simp only [List.size_toArray, List.getElem?_toArray, List.getElem?_cons_zero] at c0
 have hm' : nk W r .u64 m := hm.xe (hf.jc r hm.lt fun h => h)
 have hrw := hm.lt
 simp [c0]
 refine avi mt.m hm' fun w1 hi f1 => ?_
 have hWs := hf.size
 have hWlt := (hi.lt).1
 refine ⟨KI w W U r m J, fun _ w1 => td w1 W.heap.size m.length, ⟨[], U, rfl, hi, (J []).jc hJ f1 fun _ _ h => h, fun b hb => ?_, f1.mono fun _ _ h => h.elim⟩, ?_⟩
 ·have := hU b hb
  have := f1.size
  exact ⟨by omega, by omega, by omega⟩
 rintro x w2 ⟨done, U1, hx1, hi2, hJ2, hU2, f2⟩
 unfold M.s.j0
 refine atx hi2 hn T.be (fun hall => ?_) fun y v w3 hy hyd hc3 f3 hlt => ?_
 ·have e0 : ∀ w K, exT P (.tuple #[.bool false]) 0 w K = K (.bool false) w := fun _ _ => rfl
  simp [e0]
  obtain ⟨h1, h2⟩ := aar hi2
  refine hend _ w2 done.reverse U1 ?_ hJ2 f2
  refine (List.reverse_perm done).trans ?_
  refine (List.perm_ext_iff_of_nodup h1 hn).2 fun z => ⟨h2 z, fun hz => ?_⟩
  obtain ⟨p, hp, rfl⟩ := List.mem_map.1 hz
  exact hall p hp
 ·simp
  rw [aum hc3]
  simp
  have hnit : ∀ b, U1 b → ¬ b = W.heap.size := fun b hb => (hU2 b hb).2.2
  have hJ3 := (J done.reverse).jc hJ2 f3 hnit
  have hlen : done.length < m.length := by
   obtain ⟨h1, h2⟩ := aar hi2
   have := sk (l := y :: done) (l' := im m) (List.nodup_cons.2 ⟨hyd, h1⟩) fun z hz => by
    rcases List.mem_cons.1 hz with rfl | hz
    ·exact List.mem_map_of_mem hy
    ·exact h2 z hz
   simp only [im, List.length_map, List.length_cons] at this
   omega
  have hs3 := f3.size
  refine hround done.reverse y w3 U1 _ hJ3 (fun b hb => ⟨(hU2 b hb).1, by have := (hU2 b hb).2.1; omega⟩) (by simp; omega) fun w4 U4 hJ4 hU4 f4 => ?_
  simp
  have hit : ¬ U1 W.heap.size := fun h => hnit _ h rfl
  have hr1 : ¬ U1 r := fun h => by have := (hU2 r h).1; omega
  have hi3 : wh w3 W.heap.size r .u64 m (y :: done) := hc3.1
  have hi4 := hi3.jc (f4.jc _ hi3.lt.1 hit) (f4.jc _ hi3.lt.2 hr1)
  refine ⟨⟨y :: done, U4, rfl, hi4, by simpa using hJ4, fun b hb => ?_, ?_⟩, ?_⟩
  ·rcases hU4 b hb with h | h
   ·have := hU2 b h
    have := f4.size
    exact ⟨by omega, by omega, by omega⟩
   ·have := hi3.lt.1
    have := f2.size
    exact ⟨by omega, by omega, by omega⟩
  ·refine (f2.kg f3 fun b hb he => by omega).kg f4 fun b hb he => (hU2 b he).1
  ·have : td w4 W.heap.size m.length = td w3 W.heap.size m.length := by
    unfold td
    rw [f4.jc _ hi3.lt.1 hit]
   rw [this]; exact hlt
theorem ajq {w : World} {r : Nat} {m : MP} (hm : nk w r .u64 m) (hn : (im m).Nodup) (hl : m.length < 60000) {K : KV}
  (h : ∀ w' v, OwN w' w.heap.size v (mw (im m)) → Fr (fun _ => False) w w' → K v w') :
  fe P F.e [.map (some r)] w fun t w => fe P F.bb [t] w K := by
 rw [M.aa.fcall]
 apply M.aa.calls
 unfold M.aa
 rw [wi, apa]
 show fe P F.bb _ _ K
 rw [M.cs.fcall]
 have f1 : Fr (fun _ => False) w (w.alloc (.cells #[.map (some r)] T.m)) := (Fr.refl _ w).alloc _
 have hB : (w.alloc (.cells #[.map (some r)] T.m)).heap[w.heap.size]? = some (.cells #[.map (some r)] T.m (0, 0)) := by rw [ga, if_pos rfl]
 have hsz : w.heap.size ≤ (w.alloc (.cells #[.map (some r)] T.m)).heap.size := by simp
 refine afc (ks := im m) FN.a.at (by kernel_rfl) (by kernel_rfl) (by simpa [im] using hl) (ahd (hm.xe (f1.jc r hm.lt fun h => h)) hn hB hl) fun w2 v o2 f2 => ?_
 exact h w2 v (o2.mono hsz) (f1.trans f2)
end Go.Proofs.YtfnhoaemapheoaaGreat.KeyR
set_option maxRecDepth 100000
namespace Go.Proofs.YtfnhoaemapheoaaGreat
open Go.Eng Go.Proofs.YtfnhoaemapheoaaGreat.Sint
def adn (m : ip) (mm : MP) : Prop := ∀ k, kq mm k = (lk m k).map kt
def mj (hb p r : Nat) (gc : Bool) : Array Value := #[.pointer (some ⟨hb, 0, none⟩), .pointer (some ⟨p, 0, none⟩), .map (some r), .bool gc]
def ju (q hb : Nat) (m : ip) (L : Lg) (gc : Bool) : Asn where
 ok w B := ∃ p r mm, adn m mm ∧ Rs [fu q (mj hb p r gc) T.i, jv r .u64 mm, jx p hb L] w B
 jc := by
  rintro w w' B S ⟨p, r, mm, h1, h2⟩ hf hn
  exact ⟨p, r, mm, h1, h2.jc hf hn⟩
section
variable {w0 w : World} {R : List Asn} {q hb p r : Nat} {m : ip} {L : Lg} {gc : Bool} {mm : MP}
theorem St.s22 {a b c d : Asn} (S : St w0 w (a :: b :: c :: d :: R)) : St w0 w (c :: d :: a :: b :: R) := S.perm ((List.perm_append_comm (l₁ := [a, b]) (l₂ := [c, d])).append_right R)
theorem yz (S : St w0 w (ju q hb m L gc :: R)) : ∃ p r mm, adn m mm ∧ St w0 w (fu q (mj hb p r gc) T.i :: jv r .u64 mm :: jx p hb L :: R) := by
 obtain ⟨B, ⟨p, r, mm, h1, h2⟩, _, cl⟩ := S.open
 exact ⟨p, r, mm, h1, cl w [fu q (mj hb p r gc) T.i, jv r .u64 mm, jx p hb L] (Fr.refl _ _) (h2.mono fun b hb => .inl hb)⟩
theorem aba (h : adn m mm) (S : St w0 w (fu q (mj hb p r gc) T.i :: jv r .u64 mm :: jx p hb L :: R)) : St w0 w (ju q hb m L gc :: R) := by
 obtain ⟨U, h4, _, g⟩ := St.yr (L := [fu q (mj hb p r gc) T.i, jv r .u64 mm, jx p hb L]) (R := R) S
 exact g w [ju q hb m L gc] (Fr.refl _ _) ⟨U, ⟨p, r, mm, h, h4⟩, fun b hb => .inl hb, trivial⟩
theorem lz (S : St w0 w (fu q (mj hb p r gc) T.i :: R)) : fm w q 0 = some (.pointer (some ⟨hb, 0, none⟩)) ∧ fm w q 1 = some (il p) ∧ fm w q 2 = some (.map (some r)) ∧ fm w q 3 = some (.bool gc) :=
 ⟨by rw [S.cell]; rfl, by rw [S.cell]; rfl, by rw [S.cell]; rfl, by rw [S.cell]; rfl⟩
theorem anb (h : adn m mm) (ha : Asc m) (k : Int) (x : Rg) : adn (oa m k x) (pt mm k (kt x)) := fun k' => by
 rw [aax, afn ha, h k']
 split <;> rfl
theorem ays : adn [] [] := fun k => rfl
theorem auj (h : adn m mm) (ha : Asc m) (hn : (im mm).Nodup) : Suint64.mw (im mm) = m.map (·.1) := by
 have hmem : ∀ k, k ∈ im mm ↔ k ∈ m.map (·.1) := fun k => by
  have h1 := adt mm k
  have h2 : lk m k = none ↔ k ∉ m.map (·.1) := by
   unfold lk
   rw [Option.map_eq_none_iff, List.find?_eq_none]
   simp only [decide_eq_true_eq, List.mem_map, not_exists, not_and]
  have h3 := h k
  constructor
  ·intro hk
   apply Classical.byContradiction
   intro hc
   rw [h2.2 hc] at h3
   exact h1.1 h3 hk
  ·intro hk
   apply Classical.byContradiction
   intro hc
   rw [h1.2 hc] at h3
   have : lk m k = none := by
    cases hl : lk m k with
    | none => rfl
    | some x => rw [hl] at h3; cases h3
   exact h2.1 this hk
 have hnd : (m.map (·.1)).Nodup := by
  unfold Asc at ha
  rw [List.nodup_iff_pairwise_ne, List.pairwise_map]
  exact ha.imp fun h => by omega
 have hp : (im mm).Perm (m.map (·.1)) := (List.perm_ext_iff_of_nodup hn hnd).2 hmem
 have hs : (m.map (·.1)).Pairwise fun a b => a ≤ b := by
  unfold Asc at ha
  rw [List.pairwise_map]
  exact ha.imp fun h => by omega
 rw [Suint64.th hp]
 show List.mergeSort _ _ = _
 exact List.mergeSort_of_pairwise (hs.imp fun h => by simpa using h)
theorem atm (S : St w0 w (ju q hb m L gc :: R)) (k : Int) {K : KV} (h : ∀ w', St w0 w' (ju q hb m L gc :: R) → K (kt (my m k)) w') : fe P F.bn [il q, .int .u64 k] w K := by
 obtain ⟨p, r, mm, hm, S1⟩ := yz S
 rw [M.bj.fcall]
 apply M.bj.calls
 unfold M.bj il
 simp
 have S2 := wk S1 T.e
 generalize w.heap.size = tb at *
 generalize w.alloc _ = w2 at *
 obtain ⟨_, _, c2, _⟩ := lz S2.swap
 unfold M.bj.j0
 simp [c2]
 rw [zc mt.m (vp S2.up2).1, hm k]
 have e : ((lk m k).map kt).getD (.agg #[.int .u64 0, .int .u64 0, .int .u64 0, .int .u64 0, .int .i64 0]) = kt (my m k) := by
  unfold my
  cases lk m k <;> rfl
 rw [e]
 unfold kt
 simp
 refine si (r' := my m k) S2 fun w3 S3 => ?_
 obtain ⟨_, _, _, rl⟩ := jk S3
 rw [zn, rl]
 exact ⟨rfl, h w3 (aba hm S3.drop)⟩
theorem afg (S : St w0 w (ju q hb m L gc :: R)) (ha : Asc m) (hl : m.length < 60000) {K : KV} (h : ∀ w' v', St w0 w' (rdA 1 wu v' (m.map (·.1)) :: ju q hb m L gc :: R) → K v' w') : fe P F.ah [il q] w K := by
 obtain ⟨p, r, mm, hm, S1⟩ := yz S
 rw [M.ba.fcall]
 apply M.ba.calls
 unfold M.ba il
 simp
 unfold M.ba.j0
 obtain ⟨_, _, c2, _⟩ := lz S1
 simp [c2]
 obtain ⟨hmp, hn⟩ := vp S1.swap
 have hk := auj hm ha hn
 have hlen : mm.length < 60000 := by
  have := congrArg List.length hk
  rw [(Suint64.mq _).length_eq] at this
  simp [im] at this
  omega
 refine KeyR.ajq hmp hn hlen fun w2 v2 o2 f2 => ?_
 rw [hk] at o2
 have o3 : OwU w2 w.heap.size v2 (m.map (·.1)) := o2
 exact h w2 v2 (S.add f2 (B := fun x => v2.ownBlock = some x) ⟨o3.sl ahm, fun b hb => hb⟩ fun b hb => o3.lt hb)
theorem vy {s f : Int} {G : Nat} {D : Dk} (S : St w0 w (ju q hb m L gc :: fx hb D :: R)) (hg : lw s f L G D) {K : KV} (h : ∀ w', St w0 w' (ju q hb m L gc :: fx hb D :: R) → K (.int .i64 (fq L.fj).length) w') : fe P F.j [il q] w K := by
 obtain ⟨p, r, mm, hm, S1⟩ := yz S
 rw [M.bv.fcall]
 apply M.bv.calls
 unfold M.bv il
 obtain ⟨_, c1, _, _⟩ := lz S1
 simp [c1]
 have S2 := St.s22 S1
 refine agx S2 hg fun w3 v3 S3 => ?_
 obtain ⟨lm, elm, rdm⟩ := azz S3
 have hlm := fun w' K => rdm.len w' K
 have : lm.length = (fq L.fj).length := by rw [← elm, bap]
 rw [this] at hlm
 simp [hlm]
 exact h w3 (aba hm (St.s22 S3.drop))
end
set_option maxRecDepth 100000
open Go.Eng Go.Proofs.YtfnhoaemapheoaaGreat.Sint
def wrF (L : Lg) (D : Dk) (fp : List (List Int)) : (Lg × Dk) × Int :=
 if (pi L D fp).2 = 0 then (((pi L D fp).1.1, ((pi L D fp).1.1.lc (pi L D fp).1.2).1), ((pi L D fp).1.1.lc (pi L D fp).1.2).2) else pi L D fp
theorem amj {L : Lg} {D : Dk} {b : List Int} {r : List (List Int)} (h : (L.append D b).2 = 0) : wrF L D (b :: r) = wrF (L.append D b).1.1 (L.append D b).1.2 r := by
 have e : pi L D (b :: r) = pi (L.append D b).1.1 (L.append D b).1.2 r := by rw [pi, if_pos h]
 unfold wrF; rw [e]
theorem axs {L : Lg} {D : Dk} {b : List Int} {r : List (List Int)} (h : (L.append D b).2 ≠ 0) : wrF L D (b :: r) = L.append D b := by
 have e : pi L D (b :: r) = L.append D b := by rw [pi, if_neg h]
 unfold wrF; rw [e, if_neg h]
def wrL (lv : Value) (vs : List SV) (fp : List (List Int)) (q p hb r : Nat) (dn : Bool) (mm : MP) (L : Lg) (D : Dk) (R : List Asn) : List Asn :=
 jx p hb L :: fx hb D :: ny (lh vs fp) :: Eng.jb T.c 1 mf lv vs :: fu q (mj hb p r dn) T.i :: jv r .u64 mm :: R
section
variable {w0 w : World} {R : List Asn} {q hb p r : Nat} {m : ip} {L : Lg} {dn : Bool} {mm : MP} {D : Dk} {G : Nat} {s f : Int} {lv : Value} {vs : List SV} {fp : List (List Int)}
def WrI (w0 : World) (lv : Value) (vs : List SV) (fp : List (List Int)) (q p hb r : Nat) (dn : Bool) (mm : MP) (s f : Int) (G : Nat) (L : Lg) (D : Dk) (R : List Asn) : KL := fun x w1 => ∃ (u : Value) (i : Nat) (Li : Lg) (Di : Dk), x = [u, .int .i64 0, .int .i64 (i : Nat)] ∧ i ≤ fp.length ∧ lw s f Li G Di ∧ f + (fq Li.fj).length + (fp.length - i : Nat) ≤ 1000000000000 ∧ wrF L D fp = wrF Li Di (fp.drop i) ∧ St w0 w1 (wrL lv vs fp q p hb r dn mm Li Di R)
theorem ave (S : St w0 w (wrL lv vs fp q p hb r dn mm L D R)) {k : Int} {x4 : List Value} (hx : gv x4 0 = .int .i64 k) {K : KV} (h : ∀ w', St w0 w' (wrL lv vs fp q p hb r (dn || decide (k = 10)) mm L D R) → K (.int .i64 k) w') : M.v.j4 (il q) x4 w K := by
 have S1 : St w0 w (fu q (mj hb p r dn) T.i :: jx p hb L :: fx hb D :: ny (lh vs fp) :: Eng.jb T.c 1 mf lv vs :: jv r .u64 mm :: R) := St.up4 (R := jv r .u64 mm :: R) S
 obtain ⟨_, _, _, c3⟩ := lz S1
 unfold M.v.j4 il
 rw [hx]
 have fin : ∀ d, d = (dn || decide (k = 10)) → ∀ w', St w0 w' (fu q ((mj hb p r dn).setIfInBounds 3 (.bool d)) T.i :: jx p hb L :: fx hb D :: ny (lh vs fp) :: Eng.jb T.c 1 mf lv vs :: jv r .u64 mm :: R) → K (.int .i64 k) w' := fun d e w' S' => by
  subst e
  exact h w' (St.dn4 (R := jv r .u64 mm :: R) S')
 cases dn with
 | true =>
  simp [c3]
  exact S1.akg rfl (by simp [mj]) fun w' S' => fin true (by simp) w' S'
 | false =>
  by_cases hk : k = 10
  ·simp [c3, hk]
   refine S1.akg rfl (by simp [mj]) fun w' S' => ?_
   have := fin true (by simp [hk]) w' S'
   rwa [hk] at this
  ·simp [c3, hk]
   exact S1.akg rfl (by simp [mj]) fun w' S' => fin false (by simp [hk]) w' S'
theorem aos (S : St w0 w (ju q hb m L dn :: fx hb D :: jg lv fp :: R)) (hg : lw s f L G D) (hr : ∀ b ∈ fp, b.length ≤ 8192) (hn : f + (fq L.fj).length + fp.length ≤ 1000000000000) (hrl : fp.length ≤ 100000) {K : KV}
  (h : ∀ w', St w0 w' (ju q hb m (wrF L D fp).1.1 (dn || decide ((wrF L D fp).2 = 10)) :: fx hb (wrF L D fp).1.2 :: R) → K (.int .i64 (wrF L D fp).2) w') : fe P F.bd [il q, lv] w K := by
 obtain ⟨p, r, mm, hm, S1⟩ := yz S
 have S2 : St w0 w (jg lv fp :: fu q (mj hb p r dn) T.i :: jv r .u64 mm :: jx p hb L :: fx hb D :: R) := St.up4 S1
 obtain ⟨vs, hvs, S3⟩ := aah S2
 have hlen := fun w' K => xk S2 w' K
 have S4 : St w0 w (wrL lv vs fp q p hb r dn mm L D R) := S3.perm (by
  have p1 := List.perm_append_comm (l₁ := [Eng.jb T.c 1 mf lv vs, ny (lh vs fp), fu q (mj hb p r dn) T.i, jv r .u64 mm]) (l₂ := [jx p hb L, fx hb D])
  refine (p1.append_right R).trans ?_
  exact List.Perm.cons _ (List.Perm.cons _ (List.Perm.swap _ _ _)))
 rw [M.v.fcall]
 apply M.v.calls
 unfold M.v
 simp [hlen]
 have arw : ∀ {L' : Lg} {D' : Dk} {dn' : Bool} {w' : World}, St w0 w' (wrL lv vs fp q p hb r dn' mm L' D' R) → St w0 w' (ju q hb m L' dn' :: fx hb D' :: R) := fun {L' D' dn' w'} S' => by
  have T1 : St w0 w' (ny (lh vs fp) :: jx p hb L' :: fx hb D' :: Eng.jb T.c 1 mf lv vs :: fu q (mj hb p r dn') T.i :: jv r .u64 mm :: R) := St.up2 S'
  have T2 := T1.drop
  have T3 : St w0 w' (Eng.jb T.c 1 mf lv vs :: jx p hb L' :: fx hb D' :: fu q (mj hb p r dn') T.i :: jv r .u64 mm :: R) := St.up2 T2
  exact aba hm (St.s22 T3.drop)
 refine ⟨WrI w0 lv vs fp q p hb r dn mm s f G L D R, fun x _ => fp.length - ms x 2, ⟨_, 0, L, D, rfl, Nat.zero_le _, hg, by simpa using hn, by simp, S4⟩, ?_⟩
 rintro x w1 ⟨u, i, Li, Di, rfl, hi, gi, bi, ei, Si⟩
 by_cases hil : i < fp.length
 ·have hili : (i : Int) < (fp.length : Int) := by omega
  have hwi : IntKind.i64.wrap ((i : Int) + 1) = ((i + 1 : Nat) : Int) := by rw [fl (by omega) (by omega)]; rfl
  have hdrop : fp.drop i = fp[i] :: fp.drop (i + 1) := List.drop_eq_getElem_cons hil
  simp [hil]
  unfold M.v.j2 il
  have hi' : i < vs.length := by omega
  have Srow : St w0 w1 (Eng.jb T.c 1 mf lv vs :: jx p hb Li :: fx hb Di :: ny (lh vs fp) :: fu q (mj hb p r dn) T.i :: jv r .u64 mm :: R) := St.up3 Si
  obtain ⟨b, o, cap, hv, _, _, hc⟩ := (Srow.jb pn : Sl w1 1 mf lv vs).at hi'
  have c0 := hc 0 _ rfl
  simp only [Nat.mul_one, Nat.add_zero] at c0
  have hia : ∀ w' K, iaT P T.j lv (.int .i64 (i : Nat)) w' K = K (.pointer (some ⟨b, o + i, none⟩)) w' := fun w' K => by rw [hv]; simp [hi']
  have Sq : St w0 w1 (fu q (mj hb p r dn) T.i :: jx p hb Li :: fx hb Di :: ny (lh vs fp) :: Eng.jb T.c 1 mf lv vs :: jv r .u64 mm :: R) := St.up4 Si
  obtain ⟨_, c1, _, _⟩ := lz Sq
  simp [hia, c0, c1]
  refine asl (av := (vs[i]).v) (rec := fp[i]) Si (bcy Si.swap gi) (by have := hr _ (List.getElem_mem hil); omega) (fun w' L' S' => ?_) fun w2 S5 => ?_
  ·have S6 : St w0 w' (ny (lh vs fp) :: (L' ++ Eng.jb T.c 1 mf lv vs :: fu q (mj hb p r dn) T.i :: jv r .u64 mm :: R)) := S'.perm List.perm_middle
   have S7 := St.aij (j := i) (L := lh vs fp) (by simp [lh]; omega) S6
   unfold lh at S7
   rw [List.getElem_zipWith] at S7
   exact S7.row ij
  have ha := axw (b := fp[i]) gi (by omega)
  rw [hdrop] at ei
  by_cases h0 : (Li.append Di fp[i]).2 = 0
  ·rw [amj h0] at ei
   generalize Li.append Di fp[i] = z at *
   cases ha with
   | aiw => simp at h0
   | qd => simp at h0
   | gc => simp at h0
   | ok L' D' g' e1 =>
    simp [hwi]
    refine ⟨⟨_, i + 1, L', D', rfl, by omega, g', ?_, ei, S5⟩, by simp [ms, gv]; omega⟩
    rw [e1, List.length_append, List.length_singleton]
    omega
  ·rw [axs h0] at ei
   rw [ei] at h
   simp [h0]
   unfold M.v.j0
   simp [h0]
   exact ave S5 rfl fun w3 S8 => h w3 (arw S8)
 ·have hili : ¬ (i : Int) < (fp.length : Int) := by omega
  have hie : i = fp.length := by omega
  subst hie
  rw [List.drop_length] at ei
  have e0 : wrF Li Di [] = ((Li, (Li.lc Di).1), (Li.lc Di).2) := by unfold wrF pi; simp
  rw [e0] at ei
  rw [ei] at h
  simp
  unfold M.v.j0 il
  have Sq : St w0 w1 (fu q (mj hb p r dn) T.i :: jx p hb Li :: fx hb Di :: ny (lh vs fp) :: Eng.jb T.c 1 mf lv vs :: jv r .u64 mm :: R) := St.up4 Si
  obtain ⟨_, c1, _, _⟩ := lz Sq
  simp [c1]
  refine apb Si (by have := gi.vir.len; omega) fun w2 S5 => ?_
  exact ave S5 rfl fun w3 S8 => h w3 (arw S8)
end
set_option maxRecDepth 100000
open Go.Eng Go.Proofs.YtfnhoaemapheoaaGreat.Sint
section
variable {w0 w : World} {R : List Asn} {q hb p r : Nat} {m : ip} {L : Lg} {dn : Bool} {mm : MP} {D D' : Dk} {G : Nat} {s f : Int} {fy : Int} {Q' : List Prt}
def OpR (w0 : World) (rv : Value) (fp : List (List Int)) (q p hb r : Nat) (L : Lg) (D : Dk) (R : List Asn) : KL := fun x w1 => ∃ (u0 u1 u2 u3 u4 u5 : Value) (i : Nat) (mm : MP), x = [u0, u1, u2, u3, u4, u5, .int .i64 (i : Nat)] ∧ i ≤ fp.length ∧ adn (jd (fp.take i)) mm ∧
 St w0 w1 (jg rv fp :: fu q (mj hb p r false) T.i :: jv r .u64 mm :: jx p hb L :: fx hb D :: R)
theorem bax (S : St w0 w R) : St w0 (w.alloc (.map #[] 0)) (jv w.heap.size .u64 [] :: R) := S.add (a := jv w.heap.size .u64 []) ((Fr.refl _ w).alloc _) (B := fun x => x = w.heap.size) ⟨⟨aet w .u64, List.nodup_nil⟩, rfl⟩ fun b hb => by subst hb; rw [ii]; omega
theorem awy (S : St w0 w (fx hb D :: R)) (hmx : fy < 9223372036854775808) (eo : xw D fy = ((D', some Q'), 0)) (g : lw s f ⟨fy, Q'⟩ G D') (es : (Lg.lc ⟨fy, Q'⟩ D').2 = 0) (hr : uy (fq Q')) {K : KV}
  (h : ∀ w' q, St w0 w' (ju q hb (jd (fq Q')) ⟨fy, Q'⟩ false :: fx hb (Lg.lc ⟨fy, Q'⟩ D').1 :: R) → K (.tuple #[il q, .int .i64 0]) w') : fe P F.bz [.pointer (some ⟨hb, 0, none⟩), .int .i64 fy] w K := by
 rw [M.bb.fcall]
 apply M.bb.calls
 unfold M.bb
 refine bbw S hmx (fun w2 hn _ => by rw [eo] at hn; cases hn) fun w2 p qs hs S2 => ?_
 rw [eo] at hs S2
 have hqs : qs = Q' := by simpa using (congrArg (·.1.2) hs).symm
 subst hqs
 simp only at S2
 simp only [il]
 simp
 unfold M.bb.j0
 rw [anj]
 have S3 := bax S2
 have z3 : (w2.alloc (.map #[] 0)).heap.size = w2.heap.size + 1 := ii _ _
 generalize hrr : w2.heap.size = r at *
 generalize w2.alloc (.map #[] 0) = w3 at *
 have e : ir P T.i #[(0, .pointer (some ⟨hb, 0, none⟩)), (1, .pointer (some ⟨p, 0, none⟩)), (2, .map (some r))] w3 = fun K => K (.agg (mj hb p r false)) w3 := by funext K; simp [mj]
 rw [e]
 refine St.ue S3 fun q w4 S4 => ?_
 have S5 : St w0 w4 (jx p hb ⟨fy, qs⟩ :: fx hb D' :: fu q (mj hb p r false) T.i :: jv r .u64 [] :: R) := St.s22 S4
 simp
 refine agx S5 g fun w5 rv S6 => ?_
 have hlen := fun w' K => xk S6 w' K
 simp only at hlen S6
 simp [hlen]
 refine ⟨OpR w0 rv (fq qs) q p hb r ⟨fy, qs⟩ D' R, fun x _ => (fq qs).length - ms x 6, ⟨_, _, _, _, _, _, 0, [], rfl, Nat.zero_le _, by simpa [jd] using ays, S6.tail ((List.perm_append_comm (l₁ := [jx p hb ⟨fy, qs⟩, fx hb D']) (l₂ := [fu q (mj hb p r false) T.i, jv r .u64 []])).append_right R)⟩, ?_⟩
 rintro x w6 ⟨u0, u1, u2, u3, u4, u5, i, mm, rfl, hi, hm, S7⟩
 by_cases hil : i < (fq qs).length
 ·have hwi : IntKind.i64.wrap ((i : Int) + 1) = ((i + 1 : Nat) : Int) := by
   have := ano S5.swap g
   simp only at this
   rw [fl (by omega) (by omega)]; rfl
  simp [hil]
  unfold M.bb.j3
  obtain ⟨b, o, sv, hia, _, c0, hsl⟩ := ack S7 hil
  obtain ⟨pr, ho, he⟩ := hr _ (List.getElem_mem hil)
  have hrd : afw (fq qs)[i] = some (pr.1, pr.2) := by rw [he]; exact zh ho.1 ho.2.1 ho.2.2.1 ho.2.2.2
  simp [hia, c0]
  refine ayu hsl hrd fun w7 f7 => ?_
  have S8 := S7.iq f7
  simp
  have S9 := wk S8 T.e
  generalize w7.heap.size = tb at *
  generalize w7.alloc _ = w8 at *
  unfold kt
  simp
  refine si (r' := pr.2) S9 fun w9 S10 => ?_
  unfold M.bb.j5
  have S10d := S10.iq ((Fr.refl _ w9).dr 1)
  have Sb : St w0 (dr w9 1) (fu q (mj hb p r false) T.i :: fu tb (rgC pr.2) T.e :: jg rv (fq qs) :: jv r .u64 mm :: jx p hb ⟨fy, qs⟩ :: fx hb D' :: R) := St.up2 S10d
  obtain ⟨_, _, c2, _⟩ := lz Sb
  obtain ⟨_, _, _, rl⟩ := jk S10d
  simp only [ni] at c2
  simp [c2, rl]
  have Sm : St w0 (dr w9 1) (jv r .u64 mm :: fu tb (rgC pr.2) T.e :: jg rv (fq qs) :: fu q (mj hb p r false) T.i :: jx p hb ⟨fy, qs⟩ :: fx hb D' :: R) := St.up3 S10d
  refine ama mt.m (vp Sm).1 pr.1 _ _ fun ob hob => ?_
  have S11 := aog Sm hob
  refine ⟨⟨_, _, _, _, _, _, i + 1, pt mm pr.1 (kt pr.2), by rw [hwi], by omega, ?_, ?_⟩, by rw [hwi]; simp [ms, gv]; omega⟩
  ·rw [List.take_add_one, List.getElem?_eq_getElem hil]
   show adn (jd ((fq qs).take i ++ [(fq qs)[i]])) _
   rw [he, afd ho.1 ho.2.1 ho.2.2.1 ho.2.2.2]
   exact anb hm (tq _) _ _
  ·have T1 : St w0 _ (fu tb (rgC pr.2) T.e :: jv r .u64 (pt mm pr.1 (kt pr.2)) :: jg rv (fq qs) :: fu q (mj hb p r false) T.i :: jx p hb ⟨fy, qs⟩ :: fx hb D' :: R) := S11.swap
   exact St.dn2 T1.drop
 ·have hie : i = (fq qs).length := by omega
  subst hie
  rw [List.take_length] at hm
  simp
  unfold M.bb.j1
  have T1 : St w0 w6 (jx p hb ⟨fy, qs⟩ :: fx hb D' :: fu q (mj hb p r false) T.i :: jv r .u64 mm :: R) := St.s22 S7.drop
  refine apb (p := p) T1 (by have := g.vir.len; simp only at this ⊢; omega) fun w7 T2 => ?_
  rw [es]
  simp
  exact h w7 q (aba hm (St.s22 T2))
end
set_option maxRecDepth 100000
open Go.Eng Go.Proofs.YtfnhoaemapheoaaGreat.Sint
theorem aiq (w : World) (K : KV) : taT P .nilIface T.ao T.k true w K = K (.tuple #[.agg #[.int .u64 0, .int .u64 0, .int .u64 0, .int .i64 0], .bool false]) w := .trans (by kernel_rfl) rfl
theorem apv (a b c d : Value) (w : World) (K : KV) : taT P (.iface T.k (.agg #[a, b, c, d])) T.ao T.k true w K = K (.tuple #[.agg #[a, b, c, d], .bool true]) w := .trans (by kernel_rfl) rfl
theorem ThR.bdk {w : World} {p : Pk} {ls : List Spn} {lm : List Mem} {lu : List Int} {t : Value} (h : ThR w p ls lm lu t) (hk : ¬ (p.fw = 4 ∨ p.fw = 6)) (w' : World) (K : KV) : taT P t T.ao T.k true w' K = K (.tuple #[.agg #[.int .u64 0, .int .u64 0, .int .u64 0, .int .i64 0], .bool false]) w' := by
 cases h with
 | qh v q hs => exact aoe _ _ _
 | aez v q hs => exact ajs _ _ _
 | ask q => exact absurd q hk
 | xa q => exact zq _ _ _
 | tp q => exact abm _ _ _
 | tj v q hs => exact yn _ _ _
 | wy v q hs => exact zy _ _ _
 | none q => exact aiq _ _
theorem ThR.bdt {w : World} {p : Pk} {ls : List Spn} {lm : List Mem} {lu : List Int} {t : Value} (h : ThR w p ls lm lu t) (hk : p.fw = 4 ∨ p.fw = 6) : t = afi p.tr p.b p.v := by
 cases h with
 | ask q => rfl
 | qh v q hs => omega
 | aez v q hs => omega
 | xa q => omega
 | tp q => omega
 | tj v q hs => omega
 | wy v q hs => omega
 | none q => omega
def qe (p : Pk) (ls : List Spn) (lm : List Mem) (lu : List Int) : Bool := (decide (p.fw = 4) || decide (p.fw = 6)) && uu p ls lm lu
def nj (L : Lg) (D : Dk) (tr : Int) (r : Rg) : (Lg × Dk) × Int := wrF L D [kr tr r]
theorem agu {p : Pk} {ls : List Spn} {lm : List Mem} {lu : List Int} (h : qe p ls lm lu = true) (hr : we p) : (p.fw = 4 ∨ p.fw = 6) ∧ 0 < p.tr ∧ 0 < p.b.n := by
 unfold qe at h
 simp only [Bool.and_eq_true, Bool.or_eq_true, decide_eq_true_eq] at h
 obtain ⟨hk, h⟩ := h
 unfold uu sr at h
 have h1 := hr.tr.1
 have h2 := hr.b.1.1
 rcases hk with hk | hk <;> simp [hk] at h
 ·exact ⟨.inl hk, h.1.2, h.2⟩
 ·exact ⟨.inr hk, h.1.2, h.2.1⟩
section
variable {w0 w : World} {R : List Asn} {q hb : Nat} {m : ip} {L : Lg} {dn : Bool} {D : Dk} {G : Nat} {s f : Int} {p : Pk} {ls : List Spn} {lm : List Mem} {lu : List Int}
def hdL (ab tb pb q hb : Nat) (p : Pk) (m : ip) (L : Lg) (dn : Bool) (D : Dk) (R : List Asn) : List Asn := fu ab #[.int .u64 p.tr, .int .u64 p.b.n, .int .u64 p.b.gg, .int .i64 p.v] T.k :: fu tb (pkC pkZ).toArray T.b :: fu pb (pkC p).toArray T.b :: ju q hb m L dn :: fx hb D :: R
theorem ta {ab : Nat} {R : List Asn} (S : St w0 w (fu ab #[.int .u64 p.tr, .int .u64 p.b.n, .int .u64 p.b.gg, .int .i64 p.v] T.k :: R)) : fm w ab 0 = some (.int .u64 p.tr) ∧ (∀ K, ldN P 2 ab 1 w K = K (kb p.b) w) ∧ fm w ab 3 = some (.int .i64 p.v) :=
 ⟨by rw [S.cell]; rfl, fun K => S.ldA [.int .u64 p.b.n, .int .u64 p.b.gg] rfl rfl K, by rw [S.cell]; rfl⟩
theorem arr {tb : Nat} {R1 R2 : List Asn} (S : St w0 w (fu tb (pkC pkZ).toArray T.b :: R1)) {k : Int} {K : KV} (h : ∀ w', St w0 w' R1 → K (.tuple #[pkA pkZ, .int .i64 k]) w') :
  stN P tb 0 [.int .i64 0, .int .u64 0, .int .u64 0, .int .u64 0, .int .u64 0, .int .u64 0, .int .i64 0, .bool false, .slice none 0 0, .slice none 0 0, .slice none 0 0] w fun _ w => ou P T.b (.pointer (some ⟨tb, 0, none⟩)) w fun r0 w' => w' = w ∧ K (.tuple #[r0, .int .i64 k]) w :=
 aiu (q := pkZ) S rfl (zl _ _ _ _ _ _) (K := fun r0 w => K (.tuple #[r0, .int .i64 k]) w) fun w' S' => h w' S'.drop
theorem aqh (S : St w0 w (ju q hb m L dn :: fx hb D :: R)) (hp : ∀ w' R', St w0 w' (R' ++ R) → qt w' p ls lm lu) (hr : we p) (hG : dn = false → D.gc = false → ∃ F, RI s f L F D m) (hf : f + (fq L.fj).length + 1 ≤ 1000000000000) {K : KV}
  (hno : qe p ls lm lu = false → ∀ w', St w0 w' (ju q hb m L dn :: fx hb D :: R) → K (.tuple #[pkA pkZ, .int .i64 6]) w')
  (hdn : qe p ls lm lu = true → (dn || D.gc) = true → ∀ w', St w0 w' (ju q hb m L dn :: fx hb D :: R) → K (.tuple #[pkA pkZ, .int .i64 10]) w')
  (hsame : qe p ls lm lu = true → dn = false → D.gc = false → (jf m (decide (p.fw = 6)) p.tr p.b p.v).1 = my m p.tr → ∀ w', St w0 w' (ju q hb m L dn :: fx hb D :: R) → K (.tuple #[pkA (ajz (jf m (decide (p.fw = 6)) p.tr p.b p.v).1 p.tr p.b (jf m (decide (p.fw = 6)) p.tr p.b p.v).2 (decide (p.fw = 6))), .int .i64 0]) w')
  (hbad : qe p ls lm lu = true → dn = false → D.gc = false → (jf m (decide (p.fw = 6)) p.tr p.b p.v).1 ≠ my m p.tr → (nj L D p.tr (jf m (decide (p.fw = 6)) p.tr p.b p.v).1).2 ≠ 0 → ∀ w', St w0 w' (ju q hb m (nj L D p.tr (jf m (decide (p.fw = 6)) p.tr p.b p.v).1).1.1 (decide ((nj L D p.tr (jf m (decide (p.fw = 6)) p.tr p.b p.v).1).2 = 10)) :: fx hb (nj L D p.tr (jf m (decide (p.fw = 6)) p.tr p.b p.v).1).1.2 :: R) → K (.tuple #[pkA pkZ, .int .i64 (nj L D p.tr (jf m (decide (p.fw = 6)) p.tr p.b p.v).1).2]) w')
  (hok : qe p ls lm lu = true → dn = false → D.gc = false → (jf m (decide (p.fw = 6)) p.tr p.b p.v).1 ≠ my m p.tr → (nj L D p.tr (jf m (decide (p.fw = 6)) p.tr p.b p.v).1).2 = 0 → ∀ w', St w0 w' (ju q hb (oa m p.tr (jf m (decide (p.fw = 6)) p.tr p.b p.v).1) (nj L D p.tr (jf m (decide (p.fw = 6)) p.tr p.b p.v).1).1.1 false :: fx hb (nj L D p.tr (jf m (decide (p.fw = 6)) p.tr p.b p.v).1).1.2 :: R) → K (.tuple #[pkA (ajz (jf m (decide (p.fw = 6)) p.tr p.b p.v).1 p.tr p.b (jf m (decide (p.fw = 6)) p.tr p.b p.v).2 (decide (p.fw = 6))), .int .i64 0]) w') :
  fe P F.l [il q, pkA p] w K := by
 rw [M.n.fcall]
 apply M.n.calls
 unfold M.n il
 refine St.ue S fun pb w1 S1 => ?_
 have S1' : St w0 w1 (fu pb (pkC p).toArray T.b :: ju q hb m L dn :: fx hb D :: R) := S1
 simp
 have S2 := alv S1'
 generalize w1.heap.size = tb at *
 generalize w1.alloc _ = w2 at *
 unfold M.n.j0
 simp [fun K => yx S2.swap K]
 have hp2 : qt w2 p ls lm lu := hp w2 (fu tb (pkC pkZ).toArray T.b :: fu pb (pkC p).toArray T.b :: ju q hb m L dn :: fx hb D :: []) S2
 have noW : ∀ (t : Value) (k : Int) (w3 : World), qe p ls lm lu = false → (∀ w' K', taT P t T.ao T.k true w' K' = K' (.tuple #[.agg #[.int .u64 0, .int .u64 0, .int .u64 0, .int .i64 0], .bool false]) w') → St w0 w3 (fu tb (pkC pkZ).toArray T.b :: fu pb (pkC p).toArray T.b :: ju q hb m L dn :: fx hb D :: R) → True := fun _ _ _ _ _ _ => trivial
 refine axb hp2 hr (fun hre w3 t ht f3 => ?_) (fun hre w3 f3 => ?_)
 ·have S3 := S2.iq f3
  by_cases hk : p.fw = 4 ∨ p.fw = 6
  ·have hae : qe p ls lm lu = true := by unfold qe; rw [hre]; simpa using hk
   obtain ⟨_, htr, hbn⟩ := agu hae hr
   rw [ht.bdt hk]
   unfold afi aro
   simp [apv]
   have S4 : St w0 (w3.alloc (.cells #[.int .u64 0, .int .u64 0, .int .u64 0, .int .i64 0] T.k)) (fu w3.heap.size #[.int .u64 0, .int .u64 0, .int .u64 0, .int .i64 0] T.k :: _) := S3.mkB #[.int .u64 0, .int .u64 0, .int .u64 0, .int .i64 0] T.k
   generalize w3.heap.size = ab at *
   generalize w3.alloc _ = w4 at *
   refine St.put (cs' := #[.int .u64 p.tr, .int .u64 p.b.n, .int .u64 p.b.gg, .int .i64 p.v]) (vs := [.int .u64 p.tr, .int .u64 p.b.n, .int .u64 p.b.gg, .int .i64 p.v]) S4 (by simp) (by simp) rfl fun w5 S5 => ?_
   have S5' : St w0 w5 (hdL ab tb pb q hb p m L dn D R) := S5
   have Sr : St w0 w5 (ju q hb m L dn :: fu ab #[.int .u64 p.tr, .int .u64 p.b.n, .int .u64 p.b.gg, .int .i64 p.v] T.k :: fu tb (pkC pkZ).toArray T.b :: fu pb (pkC p).toArray T.b :: fx hb D :: R) := St.up3 S5
   obtain ⟨lp, rp, mm, hm, Su⟩ := yz Sr
   obtain ⟨c0, _, _, c3⟩ := lz Su
   have outDn : (dn || D.gc) = true → stN P tb 0 [.int .i64 0, .int .u64 0, .int .u64 0, .int .u64 0, .int .u64 0, .int .u64 0, .int .i64 0, .bool false, .slice none 0 0, .slice none 0 0, .slice none 0 0] w5 fun _ w => ou P T.b (.pointer (some ⟨tb, 0, none⟩)) w fun r0 w' => w' = w ∧ K (.tuple #[r0, .int .i64 10]) w := fun hd =>
    arr (R2 := []) S5'.swap fun w' S' => hdn hae hd w' S'.drop.drop
   cases dn with
   | true =>
    have od := outDn rfl
    simp [c3]
    exact od
   | false =>
    simp [c3, c0]
    refine ach (St.up4 S5') ?_
    cases hd : D.gc with
    | true =>
     have od := outDn (by simp [hd])
     simp
     exact od
    | false =>
     simp
     obtain ⟨F0, I⟩ := hG rfl hd
     have hlu : ∀ {w' : World} {L' : List Asn}, St w0 w' (jv rp .u64 mm :: L') → ∀ K, luT P T.m (.map (some rp)) (.int .u64 p.tr) false w' K = K (kt (my m p.tr)) w' := fun {w' L'} S' K => by
      rw [zc mt.m (vp S').1, hm p.tr]
      congr 1
      unfold my
      cases lk m p.tr <;> rfl
     unfold M.n.j1
     have T1 := Su.iq ((Fr.refl _ w5).dr 1)
     obtain ⟨_, _, c2, _⟩ := lz T1
     obtain ⟨a0, _, _⟩ := ta (St.up3 T1)
     simp only [ni] at c2 a0
     have l1 := hlu T1.swap
     simp [c2, a0, l1]
     have T2 := wk T1 T.e
     rw [show (Eng.dr w5 1).heap.size = w5.heap.size from rfl] at T2
     generalize w5.heap.size = gb at *
     generalize (Eng.dr w5 1).alloc _ = w6 at *
     obtain ⟨_, _, c2, _⟩ := lz T2.swap
     obtain ⟨a0, _, _⟩ := ta (St.up4 T2)
     have l2 := hlu T2.up2
     simp [c2, a0, l2]
     unfold kt
     simp
     refine si (r' := my m p.tr) T2 fun w7 T3 => ?_
     obtain ⟨_, _, _, g7⟩ := jk T3
     obtain ⟨_, b7, _⟩ := ta (St.up4 T3)
     simp [g7, b7]
     refine bbm _ _ fun w8 f8 => ?_
     have T4 := T3.iq f8
     simp
     have T5 := wk T4 T.e
     generalize w8.heap.size = nb at *
     generalize w8.alloc _ = w9 at *
     unfold kt
     simp
     refine si (r' := ((my m p.tr).qy p.b).1) T5 fun w10 T6 => ?_
     have Tp : St w0 w10 (fu pb (pkC p).toArray T.b :: fu nb (rgC ((my m p.tr).qy p.b).1) T.e :: fu gb (rgC (my m p.tr)) T.e :: fu q (mj hb lp rp false) T.i :: jv rp .u64 mm :: jx lp hb L :: fu ab #[.int .u64 p.tr, .int .u64 p.b.n, .int .u64 p.b.gg, .int .i64 p.v] T.k :: fu tb (pkC pkZ).toArray T.b :: fx hb D :: R) := T6.perm (List.perm_middle (l₁ := [_, _, _, _, _, _, _]))
     obtain ⟨k0, _⟩ := ly Tp
     simp [k0]
     have hokE : okE (p.tr, (jf m (decide (p.fw = 6)) p.tr p.b p.v).1) := ahe I.ok hr.tr htr hr.b
     have fin : ∀ (x1 : List Value) w', St w0 w' (fu nb (rgC (jf m (decide (p.fw = 6)) p.tr p.b p.v).1) T.e :: fu gb (rgC (my m p.tr)) T.e :: fu q (mj hb lp rp false) T.i :: jv rp .u64 mm :: jx lp hb L :: fu ab #[.int .u64 p.tr, .int .u64 p.b.n, .int .u64 p.b.gg, .int .i64 p.v] T.k :: fu tb (pkC pkZ).toArray T.b :: fu pb (pkC p).toArray T.b :: fx hb D :: R) →
       M.n.j2 (.pointer (some ⟨nb, 0, none⟩)) (.pointer (some ⟨gb, 0, none⟩)) (.pointer (some ⟨ab, 0, none⟩)) (.pointer (some ⟨q, 0, none⟩)) (.pointer (some ⟨tb, 0, none⟩)) x1 [.bool (jf m (decide (p.fw = 6)) p.tr p.b p.v).2] (.bool (decide (p.fw = 6))) w' K := by
      have hsame' := hsame hae rfl hd
      have hbad' := hbad hae rfl hd
      have hok' := hok hae rfl hd
      clear hno hdn hsame hbad hok outDn
      intro x1 w' S'
      generalize (jf m (decide (p.fw = 6)) p.tr p.b p.v).1 = r1 at *
      generalize (jf m (decide (p.fw = 6)) p.tr p.b p.v).2 = ok1 at *
      generalize decide (p.fw = 6) = tk at *
      -- what it answers at its end
      have ans : ∀ w2 (L2 : List Asn), St w0 w2 (fu nb (rgC r1) T.e :: fu ab #[.int .u64 p.tr, .int .u64 p.b.n, .int .u64 p.b.gg, .int .i64 p.v] T.k :: fu tb (pkC pkZ).toArray T.b :: L2) → (∀ w3, St w0 w3 L2 → K (.tuple #[pkA (ajz r1 p.tr p.b ok1 tk), .int .i64 0]) w3) →
        M.n.j3 (.pointer (some ⟨nb, 0, none⟩)) (.pointer (some ⟨ab, 0, none⟩)) [.bool ok1] (.bool tk) (.pointer (some ⟨tb, 0, none⟩)) w2 K := fun w2 L2 S2 hK => by
       obtain ⟨_, _, _, rl⟩ := jk S2
       obtain ⟨a0, b0, _⟩ := ta S2.swap
       unfold M.n.j3
       simp [rl, a0, b0]
       refine auq _ _ _ _ _ fun w3 f3 => ?_
       rw [bcs]
       exact aiu (S2.iq f3).up2 rfl (zl _ _ _ _ _ _) (K := fun r0 w => K (.tuple #[r0, .int .i64 0]) w) fun w4 S4 => hK w4 S4.drop.drop.drop
      obtain ⟨_, _, _, n1⟩ := jk S'
      obtain ⟨_, _, _, g1⟩ := jk S'.swap
      have Z1 := aba hm (St.up4 (St.up4 (St.up4 S')))
      have Z2 := (St.up4 (St.up2 Z1).drop).drop
      unfold M.n.j2
      simp [n1, g1, bcx]
      by_cases hne : r1 = my m p.tr
      ·simp [hne]
       exact ans w' _ (St.dn3 Z2) fun w3 S3 => hsame' hne w3 S3
      ·simp [hne]
       obtain ⟨a0, _, _⟩ := ta Z2.up2
       obtain ⟨_, _, _, n2⟩ := jk Z2.swap
       simp [a0, n2]
       have hv : 0 ≤ r1.v ∧ r1.v ≤ 3 := by
        have := hokE.2.2.2
        simp only at this
        unfold Rg.right at this
        split at this
        ·simp at this; omega
        ·simp [mr] at this; omega
       refine aqi Z2 p.tr hv fun w2 v2 Z3 => ?_
       obtain ⟨sv, hsv⟩ := afm Z3
       subst hsv
       refine ank Z3 fun w3 sl Z4 => ?_
       refine aos (St.up2 (up5 Z4)) I.pz (fun b hb => by rw [List.mem_singleton.1 hb, xd]; omega) (by simpa using hf) (by simp) fun w4 Z5 => ?_
       have hwe : wrF L D [kr p.tr r1] = nj L D p.tr r1 := rfl
       rw [hwe] at Z5 ⊢
       by_cases h0 : (nj L D p.tr r1).2 = 0
       ·have hk := hok' hne h0
        rw [h0] at Z5
        rw [h0]
        simp
        unfold M.n.j4
        obtain ⟨lp2, rp2, mm2, hm2, Y1⟩ := yz Z5
        have Y2 := Y1.iq ((Fr.refl _ w4).dr 1)
        obtain ⟨_, _, e2, _⟩ := lz Y2
        have Y3 : St w0 (Eng.dr w4 1) (fu nb (rgC r1) T.e :: fu q _ T.i :: jv rp2 .u64 mm2 :: jx lp2 hb _ :: fx hb _ :: _) := St.up4 Y2
        obtain ⟨_, _, _, n3⟩ := jk Y3
        obtain ⟨a3, _, _⟩ := ta (up5 Y2)
        simp only [ni] at e2 a3
        simp [e2, a3, n3]
        refine ama mt.m (vp Y2.swap).1 p.tr _ _ fun ob hob => ?_
        have Y4 := aba (anb hm2 I.asc p.tr r1) (aog Y2.swap hob).swap
        refine ans _ _ (St.up4 (St.up4 (St.up4 Y4))) fun w6 Y6 => ?_
        exact hk w6 Y6
       ·have hb' := hbad' hne h0
        simp [h0]
        refine arr (R2 := []) (St.up4 Z5) fun w5 Y1 => ?_
        refine hb' w5 ?_
        have Y2 := (St.up2 (St.up2 Y1).drop).drop
        simpa using Y2
     by_cases h6 : p.fw = 6
     ·obtain ⟨_, _, _, g10⟩ := jk T6.swap
      obtain ⟨_, b10, v10⟩ := ta (up5 T6)
      have e1 : (jf m (decide (p.fw = 6)) p.tr p.b p.v) = (my m p.tr).acc p.b p.v := by unfold jf; simp [h6]
      rw [e1] at fin
      simp only [h6, decide_true] at fin
      simp [h6, g10, b10, v10]
      refine bcc _ _ _ fun w11 f11 => ?_
      have T7 := T6.iq f11
      simp
      unfold kt
      simp
      refine si (r' := ((my m p.tr).acc p.b p.v).1) T7 fun w12 T8 => ?_
      exact fin _ w12 T8
     ·simp [h6]
      have e1 : (jf m (decide (p.fw = 6)) p.tr p.b p.v) = (my m p.tr).qy p.b := by unfold jf; simp [h6]
      rw [e1] at fin
      have := fin
      simp only [h6, decide_false] at this
      exact this _ w10 T6
  ·have hae : qe p ls lm lu = false := by
    unfold qe
    have : (decide (p.fw = 4) || decide (p.fw = 6)) = false := by simpa using hk
    rw [this]; rfl
   simp [ht.bdk hk]
   have S4 := S3.mkB #[.int .u64 0, .int .u64 0, .int .u64 0, .int .i64 0] T.k
   generalize w3.heap.size = ab at *
   generalize w3.alloc _ = w4 at *
   refine St.put (cs' := #[.int .u64 0, .int .u64 0, .int .u64 0, .int .i64 0]) (vs := [.int .u64 0, .int .u64 0, .int .u64 0, .int .i64 0]) S4 (by simp) (by simp) rfl fun w5 S5 => ?_
   exact arr (R2 := []) S5.swap fun w' S' => hno hae w' S'.drop.drop
 ·have hae : qe p ls lm lu = false := by unfold qe; rw [hre, Bool.and_false]
  have S3 := S2.iq f3
  simp [aiq]
  have S4 := S3.mkB #[.int .u64 0, .int .u64 0, .int .u64 0, .int .i64 0] T.k
  generalize w3.heap.size = ab at *
  generalize w3.alloc _ = w4 at *
  refine St.put (cs' := #[.int .u64 0, .int .u64 0, .int .u64 0, .int .i64 0]) (vs := [.int .u64 0, .int .u64 0, .int .u64 0, .int .i64 0]) S4 (by simp) (by simp) rfl fun w5 S5 => ?_
  exact arr (R2 := []) S5.swap fun w' S' => hno hae w' S'.drop.drop
end
set_option maxRecDepth 100000
open Go.Eng Go.Proofs.YtfnhoaemapheoaaGreat.Sint
theorem avd {m : ip} (ha : Asc m) {i : Nat} (hi : i < m.length) : lk m m[i].1 = some m[i].2 := by
 induction m generalizing i with
 | nil => simp at hi
 | cons p t ih =>
  obtain ⟨x, y⟩ := p
  unfold Asc at ha
  rw [List.pairwise_cons] at ha
  cases i with
  | zero => rw [List.getElem_cons_zero, mh, if_pos rfl]
  | succ j =>
   simp only [List.length_cons] at hi
   rw [List.getElem_cons_succ, mh, if_neg]
   ·exact ih ha.2 (by omega)
   ·have := ha.1 t[j] (List.getElem_mem (by omega))
    simp only at this
    omega
inductive WrR (s f : Int) (L : Lg) (G : Nat) (D : Dk) (fp : List (List Int)) : (Lg × Dk) × Int → Prop
 | ok (L' : Lg) (D' : Dk) : lw s f L' (fq L'.fj).length D' → fq L'.fj = fq L.fj ++ fp → L'.fy = L.fy → D'.gp = D.gp → (D.ic = false → D'.ic = false) → WrR s f L G D fp ((L', D'), 0)
 | qd (i : Nat) (L' : Lg) (D' : Dk) : i < fp.length → lw s f L' G D' → fq L'.fj = fq L.fj ++ fp.take i → L'.fy = L.fy → D'.gp = D.gp → (D.ic = false → D'.ic = false) → WrR s f L G D fp ((L', D'), 9)
 | gc (i : Nat) (L' : Lg) (D' : Dk) (Q : List Prt) : D.ic = true → L'.fy = L.fy → L'.fj.length ≤ 63 → D'.gc = true → Vir s f Q G D' False → fq Q = fq L.fj ++ fp.take i → D'.gp = D.gp → f + (fq L'.fj).length ≤ f + (fq L.fj).length + fp.length → WrR s f L G D fp ((L', D'), 10)
theorem ajw {s f : Int} {L : Lg} {G : Nat} {D : Dk} {fp : List (List Int)} (g : lw s f L G D) (hl : ∀ b ∈ fp, b.length ≤ 8192) (hn : f + (fq L.fj).length + fp.length ≤ 1000000000000) : WrR s f L G D fp (wrF L D fp) := by
 have ha := bca fp g hl hn
 unfold wrF
 generalize pi L D fp = z at *
 cases ha with
 | ok L' D' g' e1 e2 e3 e4 =>
  obtain ⟨y1, y2, y3, y4, _, y6, _⟩ := alw g'.vir g'.up
  rw [if_pos rfl, y1]
  exact .ok L' _ ⟨y2, g'.size, y3⟩ e1 e2 (by rw [y6, e3]) fun h => by rw [y4]; exact e4 h
 | qd i L' D' hi g' e1 e2 e3 e4 =>
  rw [if_neg (by simp)]
  exact .qd i L' D' hi g' e1 e2 e3 e4
 | gc i j L' D0 D' Q b1 b2 b3 b4 b5 b6 b7 b8 =>
  rw [if_neg (by simp)]
  refine .gc i L' D' Q b1 b4 b2.vir.len b5 b6 b7 b8 ?_
  rw [b3, List.length_append, List.length_take]
  omega
section
variable {w0 w : World} {R : List Asn} {q hb : Nat} {m : ip} {L : Lg} {dn : Bool} {D : Dk} {s f : Int}
def agc (L : Lg) (D : Dk) (m : ip) : (Lg × Dk) × Int :=
 if (wrF L D (jh m)).2 = 0 then Lg.drop (wrF L D (jh m)).1.1 (wrF L D (jh m)).1.2 (IntKind.i64.wrap (L.jj + (fq L.fj).length)) else wrF L D (jh m)
def CmI (w0 : World) (tv : Value) (m : ip) (q hb : Nat) (L : Lg) (D : Dk) (R : List Asn) : KL := fun x w1 => ∃ (u v : Value) (i : Nat), x = [u, v, .int .i64 (i : Nat)] ∧ i ≤ m.length ∧ St w0 w1 (jg v (jh (m.take i)) :: rdA 1 wu tv (m.map (·.1)) :: ju q hb m L false :: fx hb D :: R)
theorem bav (S : St w0 w (ju q hb m L dn :: fx hb D :: R)) (hG : dn = false → D.gc = false → ∃ F, RI s f L F D m) (hf : f + (fq L.fj).length + m.length ≤ 1000000000000) (hml : m.length ≤ 50000) {K : KV}
  (hdn : (dn || D.gc) = true → ∀ w', St w0 w' (ju q hb m L dn :: fx hb D :: R) → K (.int .i64 10) w')
  (hbad : dn = false → D.gc = false → (wrF L D (jh m)).2 ≠ 0 → ∀ w', St w0 w' (ju q hb m (wrF L D (jh m)).1.1 (decide ((wrF L D (jh m)).2 = 10)) :: fx hb (wrF L D (jh m)).1.2 :: R) → K (.int .i64 (wrF L D (jh m)).2) w')
  (hok : dn = false → D.gc = false → (wrF L D (jh m)).2 = 0 → ∀ w', St w0 w' (ju q hb m (agc L D m).1.1 false :: fx hb (agc L D m).1.2 :: R) → K (.int .i64 (agc L D m).2) w') :
  fe P F.az [il q] w K := by
 rw [M.x.fcall]
 apply M.x.calls
 unfold M.x il
 obtain ⟨lp, rp, mm, hm, S1⟩ := yz S
 obtain ⟨c0, _, _, c3⟩ := lz S1
 cases dn with
 | true =>
  simp [c3]
  exact hdn rfl w S
 | false =>
 simp [c3, c0]
 refine ach S.swap ?_
 cases hd : D.gc with
 | true =>
  simp
  exact hdn (by simp [hd]) w S
 | false =>
 obtain ⟨F0, I⟩ := hG rfl hd
 simp
 unfold M.x.j0
 have T1 := S1.iq ((Fr.refl _ w).dr 1)
 obtain ⟨_, c1, _, _⟩ := lz T1
 simp only [ni] at c1
 simp [c1]
 have T2 : St w0 (Eng.dr w 1) (jx lp hb L :: fx hb D :: fu q (mj hb lp rp false) T.i :: jv rp .u64 mm :: R) := St.s22 T1
 refine axo T2 ?_
 simp [c1]
 refine agx T2 I.pz fun w2 v2 T3 => ?_
 have hlen := fun w' K => xk T3 w' K
 simp [hlen]
 have T4 := aba hm (St.s22 T3.drop)
 refine afg T4 I.asc (by omega) fun w3 tv T5 => ?_
 have hl5 := fun w' K => (T5.rd).ig (P := P) (t := T.g) (ty := T.a) (w := w') (by kernel_rfl) [false] (K := K)
 rw [List.length_map] at hl5
 simp [hl5]
 refine ⟨CmI w0 tv m q hb L D R, fun x _ => m.length - ms x 2, ⟨_, _, 0, rfl, Nat.zero_le _, ajr T5⟩, ?_⟩
 rintro x w4 ⟨u, v, i, rfl, hi, T6⟩
 by_cases hil : i < m.length
 ·have hwi : IntKind.i64.wrap ((i : Int) + 1) = ((i + 1 : Nat) : Int) := by rw [fl (by omega) (by omega)]; rfl
  simp [hil]
  unfold M.x.j3
  have hrd : SlU w4 tv (m.map (·.1)) := T6.swap.rd
  obtain ⟨b, o, cap, hv, _, hc⟩ := aeg hrd (i := i) (by simpa using hil)
  rw [List.getElem_map] at hc
  have hia : ∀ w' K, iaT P T.g tv (.int .i64 (i : Nat)) w' K = K (.pointer (some ⟨b, o + i, none⟩)) w' := fun w' K => by rw [hv]; simp [hil]
  obtain ⟨lp2, rp2, mm2, hm2, U1⟩ := yz T6.up2
  obtain ⟨_, _, e2, _⟩ := lz U1
  simp [hia, hc, e2]
  rw [zc mt.m (vp U1.swap).1, hm2 m[i].1, avd I.asc hil]
  show fe P F.cu [_, kt m[i].2] w4 _
  have hv3 : 0 ≤ (m[i].2).v ∧ (m[i].2).v ≤ 3 := by
   have := (I.ok _ (List.getElem_mem hil)).2.2.2
   unfold Rg.right at this
   split at this
   ·simp at this; omega
   ·simp [mr] at this; omega
  refine aqi T6 m[i].1 hv3 fun w5 v5 T7 => ?_
  obtain ⟨sv, hsv⟩ := afm T7
  subst hsv
  have hpush := fun {K' : KV} {cs : List Bool} {ty : TypeId} (hh : ∀ w' v', St w0 w' (jg v' (jh (m.take i) ++ [kr m[i].1 m[i].2]) :: rdA 1 wu tv (m.map (·.1)) :: ju q hb m L false :: fx hb D :: R) → K' v' w') => aav (cs := cs) (ty := ty) (K := K') T7 (by unfold jh; simp; omega) hh
  refine hpush fun w6 v6 T8 => ?_
  simp [hwi]
  refine ⟨⟨_, _, i + 1, rfl, by omega, ?_⟩, by simp [ms, gv]; omega⟩
  have e : jh (m.take (i + 1)) = jh (m.take i) ++ [kr m[i].1 m[i].2] := by
   unfold jh
   rw [List.take_add_one, List.getElem?_eq_getElem hil, List.map_append]
   rfl
  rw [e]
  exact T8
 ·have hie : i = m.length := by omega
  subst hie
  rw [List.take_length] at T6
  simp
  unfold M.x.j1
  have hbl : ∀ b ∈ jh m, b.length ≤ 8192 := fun b hb => by
   unfold jh at hb
   obtain ⟨p, _, rfl⟩ := List.mem_map.1 hb
   rw [xd]; omega
  have hall : (jh m).length = m.length := by unfold jh; simp
  have U1 : St w0 w4 (ju q hb m L false :: fx hb D :: jg v (jh m) :: rdA 1 wu tv (m.map (·.1)) :: R) := St.s22 T6
  refine aos U1 I.pz hbl (by rw [hall]; exact hf) (by rw [hall]; omega) fun w5 U2 => ?_
  have U3 := (St.up2 U2).drop
  by_cases h0 : (wrF L D (jh m)).2 = 0
  ·rw [h0] at U3
   rw [h0]
   have hok' := hok rfl hd h0
   unfold agc at hok'
   rw [if_pos h0] at hok'
   obtain ⟨lp2, rp2, mm2, hm2, U4⟩ := yz U3
   obtain ⟨_, e1, _, _⟩ := lz U4
   simp [e1]
   have U5 : St w0 w5 (jx lp2 hb _ :: fx hb _ :: fu q (mj hb lp2 rp2 _) T.i :: jv rp2 .u64 mm2 :: R) := St.s22 U4
   have hfew : (wrF L D (jh m)).1.1.fj.length ≤ 1000000 := by
    have hw := ajw I.pz hbl (by rw [hall]; exact hf)
    generalize wrF L D (jh m) = z at *
    cases hw with
    | ok L' D' g' => have := g'.vir.len; simp only; omega
    | qd => simp at h0
    | gc => simp at h0
   refine azx U5 hfew _ fun w6 U6 => ?_
   have U7 := aba hm2 (St.s22 U6)
   exact hok' w6 (by simpa using U7)
  ·simp [h0]
   exact hbad rfl hd h0 w5 (by simpa using U3)
end
set_option maxRecDepth 100000
open Go.Eng Go.Proofs.YtfnhoaemapheoaaGreat.Sint
theorem ldO {w : World} {b i : Nat} {x : Int × Rg} (h : ∀ k v, (abl x)[k]? = some v → fm w b (i + k) = some v) (K : KV) : ldN P 6 b i w K = K (acy x) w := wq (abl x) 6 rfl h K
def ars (m : ip) (p : Pk) (ls : List Spn) (lm : List Mem) (lu : List Int) : ip := if qe p ls lm lu = true then zg m (decide (p.fw = 6)) p.tr p.b p.v else m
def yv (m : ip) (p : Pk) (ls : List Spn) (lm : List Mem) (lu : List Int) : Pk := if qe p ls lm lu = true then ajz (jf m (decide (p.fw = 6)) p.tr p.b p.v).1 p.tr p.b (jf m (decide (p.fw = 6)) p.tr p.b p.v).2 (decide (p.fw = 6)) else pkZ
section
variable {w0 w : World} {R : List Asn} {v : Value} {m : ip} {p : Pk} {ls : List Spn} {lm : List Mem} {lu : List Int}
end
set_option maxRecDepth 100000
open Go.Eng Go.Proofs.YtfnhoaemapheoaaGreat.Sint
def bef (W : World) (l1 l2 : ip) : KL := fun x w1 => ∃ (u : Value) (i : Nat), x = [u, .int .i64 (i : Nat)] ∧ i ≤ l1.length ∧ (∀ j (h1 : j < l1.length) (h2 : j < l2.length), j < i → l1[j] = l2[j]) ∧ Fr (fun _ => False) W w1
theorem aef {w : World} {v1 v2 : Value} {l1 l2 : ip} (s1 : SlO w v1 l1) (s2 : SlO w v2 l2) (hlen : l1.length ≤ 1000000) {K : KV} (h : ∀ w', Fr (fun _ => False) w w' → K (.bool (decide (l1 = l2))) w') : fe P F.bw [v1, v2] w K := by
 rw [M.bi.fcall]
 apply M.bi.calls
 unfold M.bi
 have k1 : ∀ w' K, biT P .len #[T.ab] T.a [false] [v1] w' K = K (.int .i64 l1.length) w' := fun w' K => s1.ig (by kernel_rfl) [false]
 have k2 : ∀ w' K, biT P .len #[T.ab] T.a [false] [v2] w' K = K (.int .i64 l2.length) w' := fun w' K => s2.ig (by kernel_rfl) [false]
 by_cases hne : l1.length = l2.length
 case neg =>
  have hne' : ¬ (l1.length : Int) = (l2.length : Int) := by omega
  simp [k1, k2, hne']
  have := h w (Fr.refl _ _)
  rwa [decide_eq_false fun he => hne (congrArg List.length he)] at this
 have hne' : (l1.length : Int) = (l2.length : Int) := by omega
 simp [k1, k2, hne']
 refine ⟨bef w l1 l2, fun x _ => l1.length - ms x 1, ⟨_, 0, rfl, Nat.zero_le _, fun j _ _ h => by omega, Fr.refl _ _⟩, ?_⟩
 rintro x w1 ⟨u, i, rfl, hi, hpre, f1⟩
 unfold M.bi.j2
 by_cases hil : i < l1.length
 ·have hil2 : i < l2.length := by omega
  have hwi : IntKind.i64.wrap ((i : Int) + 1) = ((i + 1 : Nat) : Int) := by rw [fl (by omega) (by omega)]; rfl
  obtain ⟨b1, o1, c1, e1, _, _, g1⟩ := (s1.fr f1 fun _ _ _ h => h : SlO w1 v1 l1).at hil
  obtain ⟨b2, o2, c2, e2, _, _, g2⟩ := (s2.fr f1 fun _ _ _ h => h : SlO w1 v2 l2).at hil2
  have i1 : ∀ w' K, iaT P T.ab v1 (.int .i64 (i : Nat)) w' K = K (.pointer (some ⟨b1, o1 + i * 6, none⟩)) w' := fun w' K => by rw [e1]; simp [hil]
  have i2 : ∀ w' K, iaT P T.ab v2 (.int .i64 (i : Nat)) w' K = K (.pointer (some ⟨b2, o2 + i * 6, none⟩)) w' := fun w' K => by rw [e2]; simp [hil2]
  have d1 : ∀ K, ldN P 6 b1 (o1 + i * 6) (dr w1 1) K = K (acy l1[i]) (dr w1 1) := fun K => ldO (fun k v hk => by rw [ni]; exact g1 k v hk) K
  have d2 : ∀ K, ldN P 6 b2 (o2 + i * 6) (dr w1 1) K = K (acy l2[i]) (dr w1 1) := fun K => ldO (fun k v hk => by rw [ni]; exact g2 k v hk) K
  simp [k1, hil]
  unfold M.bi.j3
  by_cases he : l1[i] = l2[i]
  ·simp [i1, i2, d1, d2, aun, he, hwi]
   refine ⟨⟨_, i + 1, rfl, by omega, fun j a1 a2 hj => ?_, f1.dr 1⟩, by simp [ms, gv]; omega⟩
   by_cases hji : j = i
   ·subst hji; exact he
   ·exact hpre j a1 a2 (by omega)
  ·simp [i1, i2, d1, d2, aun, he]
   have := h _ (f1.dr 1)
   rwa [decide_eq_false fun hee => he (by simp [hee])] at this
 ·simp [k1, hil]
  have := h _ f1
  rwa [decide_eq_true (auu hne fun j a1 a2 => hpre j a1 a2 (by omega))] at this
section
variable {w0 w : World} {R : List Asn} {q hb : Nat} {m : ip} {L : Lg} {dn : Bool}
def bem (w0 : World) (tv : Value) (q hb : Nat) (m : ip) (L : Lg) (dn : Bool) (R : List Asn) : KL := fun x w1 => ∃ (v : Value) (i : Nat), x = [v, .int .i64 (i : Nat)] ∧ i ≤ m.length ∧ St w0 w1 (sp T.ae 6 abl v (m.take i) :: rdA 1 wu tv (m.map (·.1)) :: ju q hb m L dn :: R)
theorem ahu (S : St w0 w (ju q hb m L dn :: R)) (ha : Asc m) (hl : m.length ≤ 50000) {K : KV} (h : ∀ w' v', St w0 w' (sp T.ae 6 abl v' m :: ju q hb m L dn :: R) → K v' w') : fe P F.bm [il q] w K := by
 rw [M.ck.fcall]
 apply M.ck.calls
 unfold M.ck
 refine afg S ha (by omega) fun w2 tv S2 => ?_
 have hl5 := fun w' K => (S2.rd).ig (P := P) (t := T.g) (ty := T.a) (w := w') (by kernel_rfl) [false] (K := K)
 rw [List.length_map] at hl5
 simp only [fi]
 refine ⟨bem w0 tv q hb m L dn R, fun x _ => m.length - ms x 1, ⟨_, 0, rfl, Nat.zero_le _, Go.Eng.pq S2⟩, ?_⟩
 rintro x w3 ⟨v, i, rfl, hi, S3⟩
 by_cases hil : i < m.length
 ·have hwi : IntKind.i64.wrap ((i : Int) + 1) = ((i + 1 : Nat) : Int) := by rw [fl (by omega) (by omega)]; rfl
  have hrd : ∀ {w' : World} {L' : List Asn}, St w0 w' (rdA 1 wu tv (m.map (·.1)) :: L') → SlU w' tv (m.map (·.1)) := fun S' => S'.rd
  obtain ⟨b, o, cap, hv, _, hc⟩ := aeg (hrd S3.swap) (i := i) (by simpa using hil)
  rw [List.getElem_map] at hc
  have hia : ∀ w' K, iaT P T.g tv (.int .i64 (i : Nat)) w' K = K (.pointer (some ⟨b, o + i, none⟩)) w' := fun w' K => by rw [hv]; simp [hil]
  have hcell : ∀ {w' : World} {L' : List Asn}, St w0 w' (rdA 1 wu tv (m.map (·.1)) :: L') → fm w' b (o + i) = some (.int .u64 m[i].1) := fun {w' L'} S' => by
   obtain ⟨b', o', cap', hv', _, hc'⟩ := aeg (hrd S') (i := i) (by simpa using hil)
   rw [List.getElem_map] at hc'
   rw [hv] at hv'
   simp only [Value.slice.injEq, Option.some.injEq, Addr.mk.injEq] at hv'
   obtain ⟨⟨rfl, rfl, _⟩, _⟩ := hv'
   exact hc'
  simp [hl5, hil]
  unfold M.ck.j2
  have S3d := S3.iq ((Fr.refl _ w3).dr 1)
  simp [hia, hc]
  have hq : (Value.pointer (some ⟨q, 0, none⟩)) = il q := rfl
  refine atm S3d.up2 m[i].1 fun w4 S4 => ?_
  have S4' := S4.dn2
  have e : my m m[i].1 = m[i].2 := by unfold my; rw [avd ha hil]; rfl
  rw [e]
  simp [hcell S4'.swap]
  refine bbl _ fun w5 f5 => ?_
  have S5 := S4'.iq f5
  simp [hcell S5.swap]
  unfold kt
  simp
  have S6 : St w0 (w5.alloc (.cells #[.int .u64 m[i].1, .int .u64 (m[i].2).p.n, .int .u64 (m[i].2).p.gg, .int .u64 (m[i].2).t.n, .int .u64 (m[i].2).t.gg, .int .i64 (m[i].2).v] T.ae)) (sp T.ae 6 abl (.slice (some ⟨w5.heap.size, 0, none⟩) 1 1) [m[i]] :: _) := St.acs (l := [m[i]]) S5 qg rfl (by simp [maxLen])
  refine Go.Eng.vq et.ab qg aym S6.swap (l2 := [m[i]]) (S6.row qg) (by simp; omega) (by decide) fun w7 v7 S7 => ?_
  rw [hwi]
  refine ⟨⟨v7, i + 1, rfl, by omega, ?_⟩, by simp [ms, gv]; omega⟩
  have e2 : m.take (i + 1) = m.take i ++ [m[i]] := by rw [List.take_add_one, List.getElem?_eq_getElem hil]; rfl
  rw [e2]
  exact S7.swap.drop
 ·have hie : i = m.length := by omega
  subst hie
  rw [List.take_length] at S3
  simp [hl5]
  exact h w3 v S3.swap.drop
end
set_option maxRecDepth 100000
open Go.Eng Go.Proofs.YtfnhoaemapheoaaGreat.Sint
section
variable {w0 w : World} {R : List Asn} {p hb : Nat} {v : Value} {L : Lg} {D : Dk} {s f : Int} {G : Nat} {l : List PB} {ls : List (List Int)} {vs : List SV}
end
set_option maxRecDepth 100000
open Go.Eng Go.Proofs.YtfnhoaemapheoaaGreat.Sint
theorem aud {L : Lg} {s f : Int} (h : Chn s f L.fj) (h0 : L.fj = [] → f = 0) : L.jj = f := by
 unfold Lg.jj
 cases hq : L.fj with
 | nil => exact (h0 hq).symm
 | cons q r => rw [hq] at h; exact h.2.1
def Cut (ds : List (List Int)) (F : Nat) (m1 m2 : ip) : Prop := ∀ j, F ≤ (ds.take j).length → jd (ds.take j) = m1 ∨ jd (ds.take j) = m2
theorem acq {ds : List (List Int)} {F : Nat} {m : ip} (h : so ds F m) : Cut ds F m m := fun j hj => .inl (aaq h hj)
theorem axe {ds : List (List Int)} {F : Nat} {m : ip} {p : Int × Rg} (h : so ds F m) (hF : F ≤ ds.length) (hp : okE p) : Cut (ds ++ [kr p.1 p.2]) F m (oa m p.1 p.2) := fun j hj => amz h hF hp hj
theorem baz {ds : List (List Int)} {F : Nat} {m : ip} (p : ip) (h : so ds F m) : Cut ds F m p := fun j hj => .inl (aaq h hj)
theorem aix (n : Int) : ∀ (qs : List Prt) (D : Dk), (jw n qs D).1.2.ic = D.ic ∧ (jw n qs D).1.2.gp = D.gp ∧ (jw n qs D).1.2.left = D.left
 | [], D => ⟨rfl, rfl, rfl⟩
 | [_], D => ⟨rfl, rfl, rfl⟩
 | q :: q2 :: r, D => by
  have hr : (D.mu q.no).1.ic = D.ic ∧ (D.mu q.no).1.gp = D.gp ∧ (D.mu q.no).1.left = D.left := by
   unfold Dk.mu
   split
   ·exact ⟨rfl, rfl, rfl⟩
   ·split <;> exact ⟨rfl, rfl, rfl⟩
  rw [jw]
  split
  ·split
   ·have := aix n (q2 :: r) (D.mu q.no).1
    rw [this.1, this.2.1, this.2.2]
    exact hr
   ·exact hr
  ·exact ⟨rfl, rfl, rfl⟩
theorem ahj (gp fy : Int) : lw 0 0 ⟨fy, []⟩ 0 ⟨gp, 0, false, false, []⟩ :=
 ⟨⟨trivial, by omega, by omega, by simp, by simp [fq], .inl ⟨rfl, rfl, rfl⟩, fun _ => ⟨rfl, rfl⟩, fun q h => by simp at h⟩, fun q h => by simp at h, rfl⟩
theorem ail (gp fy : Int) : RI 0 0 ⟨fy, []⟩ 0 ⟨gp, 0, false, false, []⟩ [] :=
 ⟨ahj gp fy, fun d hd => by simp [fq] at hd, fun j _ => by simp [fq, jd], Nat.zero_le _⟩
section
variable {w0 w : World} {R : List Asn} {q hb : Nat} {m m1 m2 : ip} {L : Lg} {D : Dk} {G : Nat} {s f : Int} {Q : List Prt} {x : Prop} {fy : Int}
theorem aaw (S : St w0 w (fx hb D :: R)) (hv : Vir s f Q G D x) (hd : D.gc = false) (hm : 64 ≤ fy ∧ fy ≤ 1048576) (hr : uy (fq Q)) (hc : Cut (fq Q) G m1 m2) {K : KV}
  (h : ∀ w' q m' s' f' L' D', (m' = m1 ∨ m' = m2) → RI s' f' L' (fq L'.fj).length D' m' → L'.fy = fy → f' + (fq L'.fj).length ≤ f + (fq Q).length → D'.ic = D.ic → D'.gp = D.gp → (x → L'.fj = Q) → (fq L'.fj).length ≤ (fq Q).length → St w0 w' (ju q hb m' L' false :: fx hb D' :: R) → K (.tuple #[il q, .int .i64 0]) w') : fe P F.bz [.pointer (some ⟨hb, 0, none⟩), .int .i64 fy] w K := by
 obtain ⟨s', f', Q', D', eo, g, e2, e3, ⟨j, e4⟩, e5, _, e6, _, _, e7⟩ := bcn hv hd hm
 obtain ⟨y1, y2, y3, y4, _, y6, _⟩ := alw g.vir g.up
 have hr' : uy (fq Q') := by rw [e4]; exact avj hr j
 refine awy S (by omega) eo g y1 hr' fun w2 q S2 => ?_
 have hl : (fq Q').length ≤ (fq Q).length := by rw [e4]; exact List.length_take_le' _ _
 have hcm : jd (fq Q') = m1 ∨ jd (fq Q') = m2 := by rw [e4]; exact hc j (by rw [← e4]; exact e5)
 exact h w2 q (jd (fq Q')) s' f' ⟨fy, Q'⟩ _ hcm ⟨⟨y2, g.size, y3⟩, hr', aai _, Nat.le_refl _⟩ rfl (by show f' + ((fq Q').length : Int) ≤ _; omega) (by rw [y4, e2]) (by rw [y6, e3]) (fun hx => (e6 hx).2.1) hl S2
inductive agv (s f : Int) (fy : Int) (B : Int) (arm : Bool) (gp : Int) (m1 m2 : ip) : Int → ip → Bool → Lg → Dk → Prop
 | ok (F : Nat) (L : Lg) (D : Dk) (s' f' : Int) : RI s' f' L F D m2 → L.fy = fy → f' + (fq L.fj).length ≤ B → (arm = false → D.ic = false) → D.gp = gp → agv s f fy B arm gp m1 m2 0 m2 false L D
 | qd (F : Nat) (L : Lg) (D : Dk) : RI s f L F D m1 → L.fy = fy → f + (fq L.fj).length ≤ B → (arm = false → D.ic = false) → D.gp = gp → agv s f fy B arm gp m1 m2 9 m1 false L D
 | gc (F : Nat) (L : Lg) (D : Dk) (Q : List Prt) : arm = true → D.gc = true → Vir s f Q F D False → uy (fq Q) → Cut (fq Q) F m1 m2 → f + (fq Q).length ≤ B → D.gp = gp → L.fy = fy → f + (fq L.fj).length ≤ B → agv s f fy B arm gp m1 m2 10 m1 true L D
variable {p : Pk} {ls : List Spn} {lm : List Mem} {lu : List Int} {F0 : Nat}
theorem ade {B : Int} {k : Int × Rg} (I : RI s f L F0 D m) (hp : okE k) (hB : f + (fq L.fj).length + 1 ≤ B) (hB2 : B ≤ 1000000000000) :
  ((nj L D k.1 k.2).2 = 0 → agv s f L.fy B D.ic D.gp m (oa m k.1 k.2) 0 (oa m k.1 k.2) false (nj L D k.1 k.2).1.1 (nj L D k.1 k.2).1.2) ∧ ((nj L D k.1 k.2).2 ≠ 0 → agv s f L.fy B D.ic D.gp m (oa m k.1 k.2) (nj L D k.1 k.2).2 m (decide ((nj L D k.1 k.2).2 = 10)) (nj L D k.1 k.2).1.1 (nj L D k.1 k.2).1.2) := by
 have hw : WrR s f L F0 D [kr k.1 k.2] (nj L D k.1 k.2) := ajw I.pz (fun b hb => by rw [List.mem_singleton.1 hb, xd]; omega) (by simp; omega)
 have hsnoc : ∀ {ds : List (List Int)}, uy ds → uy (ds ++ [kr k.1 k.2]) := fun {ds} hr d hd => by
  rcases List.mem_append.1 hd with hd | hd
  ·exact hr d hd
  ·exact ⟨k, hp, List.mem_singleton.1 hd⟩
 generalize nj L D k.1 k.2 = z at *
 cases hw with
 | ok L' D' g e1 e2 e3 e4 =>
  refine ⟨fun _ => .ok _ L' D' s f ⟨g, by rw [e1]; exact hsnoc I.fp, ?_, Nat.le_refl _⟩ e2 (by rw [e1, List.length_append, List.length_singleton]; omega) e4 e3, fun h => by simp at h⟩
  have : oa m k.1 k.2 = jd (fq L'.fj) := by rw [e1, afd hp.1 hp.2.1 hp.2.2.1 hp.2.2.2, I.arb]
  rw [this]
  exact aai _
 | qd i L' D' hi g e1 e2 e3 e4 =>
  refine ⟨fun h => by simp at h, fun _ => ?_⟩
  have hi0 : i = 0 := by simpa using hi
  rw [hi0, List.take_zero, List.append_nil] at e1
  exact .qd F0 L' D' ⟨g, by rw [e1]; exact I.fp, by rw [e1]; exact I.set, by rw [e1]; exact I.le⟩ e2 (by rw [e1]; omega) e4 e3
 | gc i L' D' Q b1 b2 b3 b4 b5 b6 b7 b8 =>
  refine ⟨fun h => by simp at h, fun _ => ?_⟩
  have hQ : Cut (fq Q) F0 m (oa m k.1 k.2) ∧ uy (fq Q) := by
   cases i with
   | zero => rw [b6, List.take_zero, List.append_nil]; exact ⟨baz _ I.set, I.fp⟩
   | succ i => rw [b6, List.take_of_length_le (by simp)]; exact ⟨axe I.set I.le hp, hsnoc I.fp⟩
  exact .gc F0 L' D' Q b1 b4 b5 hQ.2 hQ.1 (by rw [b6, List.length_append, List.length_take, List.length_singleton]; omega) b7 b2 (by simp at b8; omega)
theorem awu {B : Int} (S : St w0 w (ju q hb m L false :: fx hb D :: R)) (hp : qt w0 p ls lm lu) (hr : we p) (I : RI s f L F0 D m) (hB : f + (fq L.fj).length + 1 ≤ B) (hB2 : B ≤ 1000000000000) {K : KV}
  (hno : qe p ls lm lu = false → ∀ w', St w0 w' (ju q hb m L false :: fx hb D :: R) → K (.tuple #[pkA pkZ, .int .i64 6]) w')
  (hl : qe p ls lm lu = true → ∀ w' e m' dn' L' D', agv s f L.fy B D.ic D.gp m (zg m (decide (p.fw = 6)) p.tr p.b p.v) e m' dn' L' D' → St w0 w' (ju q hb m' L' dn' :: fx hb D' :: R) → K (.tuple #[pkA (if e = 0 then yv m p ls lm lu else pkZ), .int .i64 e]) w') :
  fe P F.l [il q, pkA p] w K := by
 have up : D.gc = false := I.pz.up
 have hfin : ∀ (hae : qe p ls lm lu = true), okE (p.tr, (jf m (decide (p.fw = 6)) p.tr p.b p.v).1) := fun hae => by
  obtain ⟨_, htr, _⟩ := agu hae hr
  exact ahe I.ok hr.tr htr hr.b
 refine aqh S (fun w' R' S' => hp.fr S'.fr) hr (fun _ _ => ⟨F0, I⟩) (by omega) hno (fun _ hd => by rw [up] at hd; cases hd) (fun hae _ _ he w' S' => ?_) (fun hae _ _ hne h0 w' S' => ?_) fun hae _ _ hne h0 w' S' => ?_
 ·have hM := adl (m := m) (ki := decide (p.fw = 6)) (tr := p.tr) (b := p.b) (v := p.v) I.asc
  rw [if_pos he] at hM
  have := hl hae w' 0 m false L D (by rw [hM]; exact .ok F0 L D s f I rfl (by omega) id rfl) S'
  unfold yv at this
  rw [if_pos rfl, if_pos hae] at this
  exact this
 ·have hM := adl (m := m) (ki := decide (p.fw = 6)) (tr := p.tr) (b := p.b) (v := p.v) I.asc
  rw [if_neg hne] at hM
  have := hl hae w' _ m _ _ _ (by rw [hM]; exact (ade I (hfin hae) hB hB2).2 h0) S'
  rw [if_neg h0] at this
  exact this
 ·have hM := adl (m := m) (ki := decide (p.fw = 6)) (tr := p.tr) (b := p.b) (v := p.v) I.asc
  rw [if_neg hne] at hM
  have := hl hae w' 0 _ false _ _ (by rw [hM]; exact (ade I (hfin hae) hB hB2).1 h0) S'
  unfold yv at this
  rw [if_pos rfl, if_pos hae] at this
  exact this
theorem axu {B : Int} (S : St w0 w (ju q hb m L false :: fx hb D :: R)) (I : RI s f L F0 D m) (hB : f + (fq L.fj).length + m.length ≤ B) (hB2 : B ≤ 1000000000000) (hml : m.length ≤ 50000) {K : KV}
  (hl : ∀ w' e dn' L' D', agv s f L.fy B D.ic D.gp m m e m dn' L' D' → (e = 0 → m.length ≤ (fq L'.fj).length ∧ (fq L'.fj).length ≤ m.length + (fq L.fj).length) → St w0 w' (ju q hb m L' dn' :: fx hb D' :: R) → K (.int .i64 e) w') :
  fe P F.az [il q] w K := by
 have up : D.gc = false := I.pz.up
 have hall : (jh m).length = m.length := by unfold jh; simp
 have hw := ajw (fp := jh m) I.pz (fun b hb => by
  unfold jh at hb
  obtain ⟨p, _, rfl⟩ := List.mem_map.1 hb
  rw [xd]; omega) (by rw [hall]; omega)
 refine bav S (fun _ _ => ⟨F0, I⟩) (by omega) hml (fun hd => by rw [up] at hd; cases hd) (fun _ _ h0 w' S' => ?_) fun _ _ h0 w' S' => ?_
 ·refine hl w' _ _ _ _ ?_ (fun h => absurd h h0) S'
  generalize wrF L D (jh m) = z at *
  cases hw with
  | ok => simp at h0
  | qd i L' D' hi g e1 e2 e3 e4 =>
   have I2 := axy I g e1
   exact .qd F0 L' D' I2 e2 (by rw [e1, List.length_append, List.length_take, hall]; omega) e4 e3
  | gc i L' D' Q b1 b2 b3 b4 b5 b6 b7 b8 =>
   exact .gc F0 L' D' Q b1 b4 b5 (by rw [b6]; exact adm I.fp I.ok i) (by rw [b6]; exact acq (adw I.set I.le I.ok i)) (by rw [b6, List.length_append, List.length_take, hall]; omega) b7 b2 (by rw [hall] at b8; omega)
 ·have hc : agc L D m = Lg.drop (wrF L D (jh m)).1.1 (wrF L D (jh m)).1.2 (IntKind.i64.wrap (L.jj + (fq L.fj).length)) := by unfold agc; rw [if_pos h0]
  have hst : L.jj = f := aud I.pz.vir.chn fun h => (I.pz.vir.nil h).2
  have hf0 := I.pz.vir.f0
  have hwn : IntKind.i64.wrap (f + ((fq L.fj).length : Int)) = f + ((fq L.fj).length : Int) := fl (by omega) (by omega)
  rw [hst, hwn] at hc
  generalize wrF L D (jh m) = z at *
  cases hw with
  | qd => simp at h0
  | gc => simp at h0
  | ok L' D' g e1 e2 e3 e4 =>
   simp only at hc
   obtain ⟨most', qs⟩ := L'
   simp only at e1 e2 g
   obtain ⟨s', f', h1, h2, ⟨a, ⟨ha, hfa⟩, h3⟩, h4⟩ := ayh g e1 I.arb I.ok
   have hnx := ahf (L := ⟨most', qs⟩) g.vir.chn g.vir.s0 (fun h => (g.vir.nil h).2) g.vir.f0 g.vir.few
   simp only at hnx
   have hd : Lg.drop ⟨most', qs⟩ D' (f + ((fq L.fj).length : Int)) = ((⟨most', (jw (f + ((fq L.fj).length : Int)) qs D').1.1⟩, (jw (f + ((fq L.fj).length : Int)) qs D').1.2), 0) := by
    unfold Lg.drop
    rw [if_neg (by
     have : (fq qs).length = (fq L.fj).length + (jh m).length := by rw [e1]; simp
     omega), g.up]
    simp only [Bool.false_eq_true, if_false]
    rw [h1]
   rw [hd] at hc
   rw [hc] at S' ⊢
   obtain ⟨k1, k2, _⟩ := aix (f + ((fq L.fj).length : Int)) qs D'
   have hlen : (fq (jw (f + ((fq L.fj).length : Int)) qs D').1.1).length = (fq L.fj).length - a + m.length := by rw [h3, List.length_append, List.length_drop, hall]
   have hrr : uy ((fq L.fj).drop a ++ jh m) := fun d hd => by
    rcases List.mem_append.1 hd with hd | hd
    ·exact I.fp d (List.mem_of_mem_drop hd)
    ·exact adm I.fp I.ok m.length d (List.mem_append_right _ (by rw [List.take_of_length_le (by omega)]; exact hd))
   refine hl w' 0 false _ _ (.ok _ _ _ s' f' ⟨h2, by rw [h3]; exact hrr, by rw [← h4]; exact aai _, Nat.le_refl _⟩ e2 ?_ (fun h => by rw [k1]; exact e4 h) (by rw [k2, e3])) (fun _ => by simp only; omega) S'
   simp only
   omega
end
set_option maxRecDepth 100000
open Go.Eng Go.Proofs.YtfnhoaemapheoaaGreat.Sint
theorem asp {s f : Int} {L : Lg} {G : Nat} {D : Dk} (g : lw s f L G D) (h : L.fj = []) : D.gm = 0 := by
 rcases g.vir.dsc with ⟨_, hf, _⟩ | ⟨Q0, q, _, _, _, hq, _⟩
 ·unfold Dk.gm; rw [hf]; rfl
 ·rw [h] at hq; simp at hq
theorem aww {s f : Int} {L : Lg} {G : Nat} {D : Dk} {k : Int} {r : Rg} (g : lw s f L G D) (hn : f + (fq L.fj).length + 1 ≤ 1000000000000) (h1 : L.fj.length < 63) (h2 : D.ic = false) (h3 : (D.gm : Int) + 65 ≤ D.gp) : (nj L D k r).2 = 0 := by
 have ha := axw (b := kr k r) g hn
 have hb := xd k r
 unfold nj
 have h0 : (L.append D (kr k r)).2 = 0 := by
  generalize L.append D (kr k r) = z at *
  cases ha with
  | aiw hx => omega
  | qd D' hx _ _ _ => rcases hx with hx | hx <;> omega
  | gc D' Q hx => rw [h2] at hx; cases hx
  | ok => rfl
 rw [amj h0]
 generalize L.append D (kr k r) = z at *
 cases ha with
 | aiw hx => simp at h0
 | qd => simp at h0
 | gc => simp at h0
 | ok L' D' g' =>
  have e0 : wrF L' D' [] = ((L', (L'.lc D').1), (L'.lc D').2) := by unfold wrF pi; simp
  rw [e0]
  exact (alw g'.vir g'.up).1
section
variable {w0 w : World} {R : List Asn} {q hb : Nat} {m : ip} {L : Lg} {D : Dk} {s f : Int} {p : Pk} {ls : List Spn} {lm : List Mem} {lu : List Int} {F0 : Nat}
theorem aui {B : Int} (S : St w0 w (ju q hb m L false :: fx hb D :: R)) (hp : qt w0 p ls lm lu) (hr : we p) (I : RI s f L F0 D m) (hB : f + (fq L.fj).length + 1 ≤ B) (hB2 : B ≤ 1000000000000) (hae : qe p ls lm lu = true) (h1 : L.fj.length < 63) (h2 : D.ic = false) (h3 : (D.gm : Int) + 65 ≤ D.gp) {K : KV}
  (hl : ∀ w' s' f' F' L' D', RI s' f' L' F' D' (zg m (decide (p.fw = 6)) p.tr p.b p.v) → L'.fy = L.fy → f' + (fq L'.fj).length ≤ B → D'.ic = false → D'.gp = D.gp → St w0 w' (ju q hb (zg m (decide (p.fw = 6)) p.tr p.b p.v) L' false :: fx hb D' :: R) → K (.tuple #[pkA (yv m p ls lm lu), .int .i64 0]) w') :
  fe P F.l [il q, pkA p] w K := by
 have up : D.gc = false := I.pz.up
 obtain ⟨_, htr, _⟩ := agu hae hr
 have hok : okE (p.tr, (jf m (decide (p.fw = 6)) p.tr p.b p.v).1) := ahe I.ok hr.tr htr hr.b
 have hM := adl (m := m) (ki := decide (p.fw = 6)) (tr := p.tr) (b := p.b) (v := p.v) I.asc
 have hPk : yv m p ls lm lu = ajz (jf m (decide (p.fw = 6)) p.tr p.b p.v).1 p.tr p.b (jf m (decide (p.fw = 6)) p.tr p.b p.v).2 (decide (p.fw = 6)) := by unfold yv; rw [if_pos hae]
 rw [hPk] at hl
 have hw0 : ∀ r, (nj L D p.tr r).2 = 0 := fun r => aww I.pz (by omega) h1 h2 h3
 refine aqh S (fun w' R' S' => hp.fr S'.fr) hr (fun _ _ => ⟨F0, I⟩) (by omega) (fun he => by rw [hae] at he; cases he) (fun _ hd => by rw [up] at hd; cases hd) (fun _ _ _ he w' S' => ?_) (fun _ _ _ hne h0 => absurd (hw0 _) h0) fun _ _ _ hne h0 w' S' => ?_
 ·rw [if_pos he] at hM
  rw [hM] at hl
  exact hl w' s f F0 L D I rfl (by omega) h2 rfl S'
 ·rw [if_neg hne] at hM
  rw [hM] at hl
  have hL := (ade I hok hB hB2).1 h0
  simp only at hL
  generalize (nj L D p.tr (jf m (decide (p.fw = 6)) p.tr p.b p.v).1).1 = z at *
  cases hL with
  | ok F1 _ _ s' f' I' e1 e2 e3 e4 => exact hl w' s' f' F1 _ _ I' e1 e2 (e3 h2) e4 S'
end
theorem bba {w : World} {K : KV} (h : ∀ w', Fr (fun _ => False) w w' → K (.bool true) w') : fe P F.ap [] w K := by
 rw [M.bt.fcall]
 apply M.bt.calls
 unfold M.bt
 refine aqp (St.jj w) 10000 (fun h => by omega) fun _ _ w1 hb S1 => ?_
 simp
 refine aaw (m1 := []) (m2 := []) S1 (ahj 10000 256).vir rfl (by omega) (ail 10000 256).fp (acq (ail 10000 256).set) fun w2 q m' s f L D hm I hmost hfl harm hroom hx _ S2 => ?_
 have hm' : m' = [] := by rcases hm with h | h <;> exact h
 subst hm'
 have hp0 : L.fj = [] := hx trivial
 simp only [il]
 simp
 unfold M.bt.j0
 simp
 have S3 : St w (w2.alloc (.cells #[.int .u64 0, .int .u64 0] T.d)) (fu w2.heap.size #[.int .u64 0, .int .u64 0] T.d :: _) := S2.mkB #[.int .u64 0, .int .u64 0] T.d
 generalize w2.heap.size = bb at *
 generalize w2.alloc _ = w3 at *
 refine St.put (cs' := #[.int .u64 3, .int .u64 1]) (vs := [.int .u64 3, .int .u64 1]) S3 (by simp) (by simp) rfl fun w4 S4 => ?_
 have bl : ∀ {w' : World} {L' : List Asn}, St w w' (fu bb #[.int .u64 3, .int .u64 1] T.d :: L') → ∀ K, ldN P 2 bb 0 w' K = K (kb ⟨3, 1⟩) w' := fun S' K => S'.ldA [.int .u64 3, .int .u64 1] rfl rfl K
 rw [bl S4]
 unfold kb
 simp
 have ep : Value.agg #[.int .i64 4, .int .u64 5, .int .u64 3, .int .u64 1, .int .u64 0, .int .u64 0, .int .i64 0, .bool false, .slice none 0 0, .slice none 0 0, .slice none 0 0] = pkA (pk0 4 5 ⟨3, 1⟩ ib 0 false) := rfl
 rw [ep]
 have hae : qe (pk0 4 5 ⟨3, 1⟩ ib 0 false) [] [] [] = true := by decide
 have hrng : we (pk0 4 5 ⟨3, 1⟩ ib 0 false) := ⟨⟨by decide, by decide⟩, ⟨⟨by decide, by decide⟩, by decide, by decide⟩, ⟨by decide, by decide⟩, by decide, by decide⟩
 have hM : zg [] (decide ((pk0 4 5 ⟨3, 1⟩ ib 0 false).fw = 6)) (pk0 4 5 ⟨3, 1⟩ ib 0 false).tr (pk0 4 5 ⟨3, 1⟩ ib 0 false).b (pk0 4 5 ⟨3, 1⟩ ib 0 false).v = [(5, ⟨⟨3, 1⟩, ib, 0⟩)] := by rfl
 have hP : yv [] (pk0 4 5 ⟨3, 1⟩ ib 0 false) [] [] [] = pk0 5 5 ⟨3, 1⟩ ib 0 true := by rfl
 have hu : D.gm = 0 := asp I.pz hp0
 refine aui (B := 1) (St.dn2 S4) (bbr _ _ _ _ _ _ _) hrng I (by rw [hp0] at hfl ⊢; simp [fq] at hfl ⊢; omega) (by omega) hae (by rw [hp0]; simp) harm (by rw [hu, hroom]; simp) fun w5 s2 f2 F2 L2 D2 I2 hm2 hb2 ha2 hr2 S5 => ?_
 rw [hM] at I2 S5
 rw [hP]
 simp
 have S6 := alv S5
 generalize w5.heap.size = tb at *
 generalize w5.alloc _ = w6 at *
 unfold pkA pkC
 simp
 refine atd (q := pk0 5 5 ⟨3, 1⟩ ib 0 true) S6 rfl (zl _ _ _ _ _ _) fun w7 S7 => ?_
 refine axt (kl := []) S7.up2 (fun _ _ _ => Sl.nil) fun w8 S8 => ?_
 obtain ⟨c1, c2, c3, c4⟩ := bcu I2.pz.vir []
 refine aaw (m1 := [(5, ⟨⟨3, 1⟩, ib, 0⟩)]) (m2 := [(5, ⟨⟨3, 1⟩, ib, 0⟩)]) S8 c1 c2 (by omega) I2.fp (acq I2.set) fun w9 q2 m' s3 f3 L3 D3 hm3 I3 _ _ _ _ _ _ S9 => ?_
 have hm' : m' = [(5, ⟨⟨3, 1⟩, ib, 0⟩)] := by rcases hm3 with h | h <;> exact h
 subst hm'
 have Z := S9.iq ((Fr.refl _ w9).dr 1)
 obtain ⟨k0, _, _, _, _, k7, _⟩ := ly Z.up2
 simp only [ni] at k0 k7
 have b9 := bl Z.up4
 simp [k0, k7, b9, pk0, il]
 refine atm Z 5 fun w10 Z1 => ?_
 have e5 : my [(5, (⟨⟨3, 1⟩, ib, 0⟩ : Rg))] 5 = ⟨⟨3, 1⟩, ib, 0⟩ := rfl
 rw [e5]
 have b10 := bl Z1.up4
 simp [b10, kt]
 have eb : Value.agg #[.int .u64 3, .int .u64 1] = kb ⟨3, 1⟩ := rfl
 simp only [eb, uh]
 simp
 refine afg Z1 I3.asc (by simp) fun w11 tv Z2 => ?_
 have hl5 := fun w' K => (Z2.rd).ig (P := P) (t := T.g) (ty := T.a) (w := w') (by kernel_rfl) [false] (K := K)
 simp at hl5
 simp [hl5]
 exact h w11 Z2.fr
set_option maxRecDepth 100000
open Go.Eng Go.Proofs.YtfnhoaemapheoaaGreat.Sint
structure bei where
 fw : Int
 n : Int
 p : Pk
 ls : List Spn
 lm : List Mem
 lu : List Int
 kv : Value
 jc : List Int
section
variable {w0 w w' : World} {R : List Asn} {v : Value} {l : List bei}
end
set_option maxRecDepth 100000
open Go.Eng Go.Proofs.YtfnhoaemapheoaaGreat.Sint
theorem ayf (l : ip) (k : Int) (r : Rg) : (oa l k r).length ≤ l.length + 1 := by
 induction l with
 | nil => simp [oa]
 | cons p t ih =>
  obtain ⟨x, y⟩ := p
  rw [oa]
  split
  ·simp; omega
  ·split <;> simp
theorem ato (m : ip) (ki : Bool) (tr : Int) (b : Bal) (v : Int) : (zg m ki tr b v).length ≤ m.length + 1 := by
 unfold zg
 split
 ·exact ayf _ _ _
 ·omega
structure Kp (q hb : Nat) (W w : World) (m : ip) (fy B : Int) (n : Nat) (arm : Bool) (R : List Asn) : Prop where
 ok : ∃ (L : Lg) (D : Dk) (s f : Int) (F : Nat), RI s f L F D m ∧ L.fy = fy ∧ f + (fq L.fj).length ≤ B ∧ (arm = false → D.ic = false) ∧ m.length ≤ n ∧ St W w (ju q hb m L false :: fx hb D :: R)
theorem axm {w0 w : World} {q hb : Nat} {m : ip} {L : Lg} {D : Dk} {R : List Asn} {p : Pk} {ls : List Spn} {lm : List Mem} {lu : List Int} {s f : Int} {F0 : Nat} {B : Int} (S : St w0 w (ju q hb m L false :: fx hb D :: R)) (hp : qt w0 p ls lm lu) (hr : we p) (I : RI s f L F0 D m) (hB : f + (fq L.fj).length + 1 ≤ B) (hB2 : B ≤ 1000000000000) (hda : D.ic = false) {K : KV}
  (h : ∀ w' A e m1 L1 D1 s1 f1 F1, (e = 9 ∧ qe p ls lm lu = true ∧ m1 = m ∧ A = pkZ) ∨ (e = (if qe p ls lm lu = true then 0 else 6) ∧ A = yv m p ls lm lu ∧ m1 = ars m p ls lm lu) → RI s1 f1 L1 F1 D1 m1 → L1.fy = L.fy → f1 + (fq L1.fj).length ≤ B → D1.ic = false → m1.length ≤ m.length + 1 → St w0 w' (ju q hb m1 L1 false :: fx hb D1 :: R) → K (.tuple #[pkA A, .int .i64 e]) w') :
  fe P F.l [il q, pkA p] w K := by
 refine awu S hp hr I hB hB2 (fun hae w6 S6 => ?_) fun hae w6 e m1 dn L1 D1 hleft S6 => ?_
 ·exact h w6 pkZ 6 m L D s f F0 (.inr ⟨by rw [hae]; rfl, by unfold yv; rw [hae]; rfl, by unfold ars; rw [hae]; rfl⟩) I rfl (by omega) hda (by omega) S6
 ·cases hleft with
  | ok F1 _ _ s1 f1 I1 hm1 hB1 ha1 hr1 => exact h w6 _ 0 _ L1 D1 s1 f1 F1 (.inr ⟨by rw [hae]; rfl, rfl, by unfold ars; rw [hae]; rfl⟩) I1 hm1 hB1 (ha1 hda) (ato _ _ _ _ _) S6
  | qd F1 _ _ I1 hm1 hB1 ha1 hr1 => exact h w6 pkZ 9 m L1 D1 s f F1 (.inl ⟨rfl, hae, rfl, rfl⟩) I1 hm1 hB1 (ha1 hda) (by omega) S6
  | gc _ _ _ _ ha => rw [hda] at ha; cases ha
section
variable {w0 w w' : World} {L X R : List Asn} {v v' : Value} {m m' : ip}
end
set_option maxRecDepth 100000
open Go.Eng Go.Proofs.YtfnhoaemapheoaaGreat.Sint
structure PkE where
 p : Pk
 ls : List Spn
 lm : List Mem
 lu : List Int
def aed (w : World) (b o : Nat) (x : PkE) : Prop := (∀ j u, (pkC x.p)[j]? = some u → fm w b (o + j) = some u) ∧ abr w x.p x.ls x.lm x.lu ∧ we x.p ∧ LsR x.ls x.lm x.lu
theorem bch {w : World} {n : Nat} {v : Value} (h : TV P w n T.am [v]) : ∃ l, wo w 11 aed v l := by
 have hel := et.am
 refine adq (sz := 11) (rd := aed) (e := T.b) hel.ty (by kernel_rfl) (by decide) (fun n b o cs ht hl hc => ?_) h
 obtain ⟨p, ls, lm, lu, ep, hp, hr, hls⟩ := bdq ht
 exact ⟨⟨p, ls, lm, lu⟩, fun j u hj => hc j u (by rw [ep]; exact hj), hp, hr, hls⟩
section
variable {w0 w w' : World} {R : List Asn} {v : Value} {l : List PkE}
theorem baw {b o : Nat} {x : PkE} (hb : b < w.heap.size) (h : aed w b o x) (hf : Fr (fun _ => False) w w') : aed w' b o x :=
 ⟨fun j u hj => by rw [um (hf.jc b hb fun h => h)]; exact h.1 j u hj, h.2.1.fr hf, h.2.2.1, h.2.2.2⟩
theorem bcq (h : wo w 11 aed v l) {i : Nat} (hi : i < l.length) : ∃ b o, (∀ w' K, iaT P T.am v (.int .i64 (i : Nat)) w' K = K (.pointer (some ⟨b, o, none⟩)) w') ∧ b < w.heap.size ∧ aed w b o l[i] := by
 have hss : szE P T.am = 11 := by kernel_rfl
 obtain ⟨a, cap, hv, _, _, h3⟩ := h
 obtain ⟨b, o, rfl, hb, hr⟩ := h3 i l[i] (List.getElem?_eq_getElem hi)
 exact ⟨b, o + i * 11, fun w' K => by rw [hv]; simp [hi], hb, hr⟩
theorem aqv {b o : Nat} {x : PkE} (h : aed w b o x) (K : KV) : ldN P 11 b o w K = K (pkA x.p) w := wq (pkC x.p) 11 rfl (fun k u hk => h.1 k u hk) K
end
def PkI (W : World) (l : List PkE) (q hb : Nat) : KL := fun x w1 => ∃ (m : ip) (i : Nat), gv x 1 = .int .i64 (i : Nat) ∧ i ≤ l.length ∧ Kp q hb W w1 m 64 (100 * i) i false []
theorem aeb {W : World} {n0 : Nat} {v0 : Value} (h0 : TV P W n0 T.am [v0]) {K : KV} (h : ∀ w', Fr (fun _ => False) W w' → K (.bool true) w') : ik P F.bx [v0] W K := by
 obtain ⟨l, hl⟩ := bch h0
 apply M.k.calls
 unfold M.k
 have ex : ∀ {w'}, Fr (fun _ => False) W w' → (fe P F.ap [] w' fun v w => K v w) := fun f => bba fun w'' f'' => h w'' (f.trans f'')
 have hlen : ∀ w' K, biT P .len #[T.am] T.a [false] [v0] w' K = K (.int .i64 l.length) w' := fun w' K => hl.ig (by kernel_rfl) [false]
 by_cases c1 : 60 < l.length
 ·have : (60 : Int) < l.length := by omega
  simp [hlen, this]
  exact ex (Fr.refl _ _)
 have c1' : ¬ (60 : Int) < l.length := by omega
 simp [hlen, c1']
 unfold M.k.j0
 refine aqp (St.jj W) 1048576 (fun h => by omega) fun _ _ w2 hb S2 => ?_
 simp
 refine aaw (m1 := []) (m2 := []) S2 (ahj 1048576 64).vir rfl (by omega) (ail 1048576 64).fp (acq (ail 1048576 64).set) fun w3 q m' s f L D hm I hmost hfl harm hroom hx _ S3 => ?_
 have hm' : m' = [] := by rcases hm with h | h <;> exact h
 subst hm'
 have hp1 : L.fj = [] := hx trivial
 simp only [il]
 simp
 refine ⟨PkI W l q hb, fun x _ => l.length - ms x 1, ⟨[], 0, rfl, Nat.zero_le _, ⟨L, D, s, f, _, I, hmost, by rw [hp1] at hfl ⊢; simp [fq] at hfl ⊢; omega, fun _ => harm, by simp, S3⟩⟩, ?_⟩
 rintro x3 w5 ⟨m, i, g1, hi, ⟨L, D, s, f, F0, I, hmost, hB, harm, hml, S5⟩⟩
 have hda : D.ic = false := harm rfl
 have hq : (Value.pointer (some ⟨q, 0, none⟩)) = il q := rfl
 unfold M.k.j3
 rw [g1]
 by_cases hil : i < l.length
 case neg =>
  simp [hlen, hil]
  unfold M.k.j2
  refine ahu S5 I.asc (by omega) fun w6 tv S6 => ?_
  refine vy S6.dn2 I.pz fun w7 S7 => ?_
  refine axu (B := 100 * 100) S7 I (by omega) (by omega) (by omega) fun w8 e dn L1 D1 hleft hrec S8 => ?_
  cases hleft with
  | gc _ _ _ _ ha => rw [hda] at ha; cases ha
  | qd F1 _ _ I1 hm1 hB1 ha1 hr1 =>
   simp
   refine ahu S8 I1.asc (by omega) fun w9 tv2 S9 => ?_
   refine aef (S9.row qg) (S9.up3.row qg) (by omega) fun w10 f10 => ?_
   simp
   exact ex (S9.iq f10).fr
  | ok F1 _ _ s1 f1 I1 hm1 hB1 ha1 hr1 =>
   obtain ⟨r1, r2⟩ := hrec rfl
   simp
   unfold M.k.j7
   refine aaw (m1 := m) (m2 := m) S8.swap I1.pz.vir I1.pz.up (by omega) I1.fp (acq I1.set) fun w9 q2 m2 s2 f2 L2 D2 hm2 I2 hmost2 hfl2 harm2 hroom2 hx2 _ S9 => ?_
   have hm2' : m2 = m := by rcases hm2 with h | h <;> exact h
   subst hm2'
   have hL : L2 = L1 := by
    obtain ⟨x1, x2⟩ := L1
    obtain ⟨y1, y2⟩ := L2
    have := hx2 trivial
    simp only at this hmost2 hm1
    rw [this, hmost2, ← hmost, hm1]
   subst hL
   simp only [il]
   simp
   unfold M.k.j8
   have S10 : St W w9 (ju q hb m2 L2 false :: fx hb D2 :: ju q2 hb m2 L2 false :: sp T.ae 6 abl tv m2 :: []) := S9.up2.tail (.swap _ _ _)
   have tl : ∀ w' K, Sl w' 6 abl tv m2 → biT P .len #[T.ab] T.a [false] [tv] w' K = K (.int .i64 m2.length) w' := fun w' K hs => hs.ig (by kernel_rfl) [false]
   have hf0 := I.pz.vir.f0
   have r2' : ((fq L2.fj).length : Int) ≤ (m2.length : Int) + ((fq L.fj).length : Int) := by omega
   have hw2 : IntKind.i64.wrap ((m2.length : Int) + ((fq L.fj).length : Int)) = ((m2.length + (fq L.fj).length : Nat) : Int) := by rw [fl (by omega) (by omega)]; omega
   refine ahu S10 I2.asc (by omega) fun w11 a1 S11 => ?_
   refine aef (S11.row qg) (S11.up4.row qg) (by omega) fun w12 f12 => ?_
   have S12 := (S11.iq f12).drop
   simp
   refine ahu S12.up2 I2.asc (by omega) fun w13 a2 S13 => ?_
   refine aef (S13.row qg) (S13.up4.row qg) (by omega) fun w14 f14 => ?_
   have S14 := ((S13.iq f14).drop).dn2
   simp
   refine vy S14 I2.pz fun w15 S15 => ?_
   rw [tl _ _ (S15.up3.row qg)]
   simp [r1]
   refine vy S15 I2.pz fun w16 S16 => ?_
   rw [tl _ _ (S16.up3.row qg)]
   simp [hw2, r2']
   refine vy (S16.up2.tail (.swap _ _ _)) I2.pz fun w17 S17 => ?_
   refine vy (S17.up2.tail (.swap _ _ _)) I2.pz fun w18 S18 => ?_
   simp
   exact ex S18.fr
 have hwi : IntKind.i64.wrap ((i : Int) + 1) = ((i + 1 : Nat) : Int) := by rw [fl (by omega) (by omega)]; rfl
 simp [hlen, hil]
 unfold M.k.j4
 rw [g1]
 obtain ⟨b, o, hia, hb0, hr0⟩ := bcq hl hil
 have hrd : ∀ {w' : World} {L' : List Asn}, St W w' L' → aed w' b o l[i] := fun S' => baw hb0 hr0 S'.fr
 have pl5 := fun K => aqv (hrd S5) K
 have hsl := (hrd S5).2.1
 have hpr := hr0.2.2.1
 generalize l[i] = pk at *
 simp [hia, pl5]
 refine avw hsl fun bb w6 hbb f6 => ?_
 have S6 := S5.iq f6
 cases bb with
 | false =>
  simp
  exact ex S6.fr
 | true =>
 have hP : qt W pk.p pk.ls pk.lm pk.lu := hr0.2.1.asi (hbb rfl)
 have pl6 := fun K => aqv (hrd S6) K
 simp [hia, pl6]
 refine axm (B := 100 * (i + 1 : Nat)) S6 hP hpr I (by omega) (by omega) hda fun w7 A e m1 L1 D1 s1 f1 F1 hc I1 hm1 hB1 ha1 hl1 S7 => ?_
 simp [hwi]
 refine ⟨⟨m1, i + 1, rfl, by omega, ⟨L1, D1, s1, f1, F1, I1, by omega, hB1, fun _ => ha1, by omega, S7⟩⟩, ?_⟩
 have : ms x3 1 = i := by unfold ms; rw [g1]; simp
 rw [this]
 simp [ms, gv]; omega
end Go.Proofs.YtfnhoaemapheoaaGreat
