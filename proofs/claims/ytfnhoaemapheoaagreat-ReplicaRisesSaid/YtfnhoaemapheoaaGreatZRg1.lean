/-
  Ballots and registers: the program's and the document's functions. No condition.
-/
import Derived.Test.YtfnhoaemapheoaaGreatZSrtUD
import Derived.Test.YtfnhoaemapheoaaGreatZSpn0
import Derived.Test.YtfnhoaemapheoaaGreatZEngSl
import Derived.Test.YtfnhoaemapheoaaGreatZKeyD
set_option maxRecDepth 100000
namespace Go.Proofs.YtfnhoaemapheoaaGreat
open Go.Eng
def vn (a b : Int) : Int := if a < b then -1 else if b < a then 1 else 0
theorem agd {w : World} (a b : Int) {K : KV} (h : K (.int .i64 (vn a b)) w) : fg P F.bx [.int .u64 a, .int .u64 b] w K := by
 have nan : ∀ (z : Int) {K : KV}, K (.bool false) w → fg P F.ax [.int .u64 z] w K := fun z K hK => by
  rw [M.cg.fcall]
  apply M.cg.calls
  unfold M.cg
  simpa using hK
 rw [M.br.fcall]
 apply M.br.calls
 unfold M.br
 refine nan a ?_
 refine nan b ?_
 simp
 unfold M.br.j2
 unfold vn at h
 by_cases h1 : a < b
 ·simp [h1] at h ⊢; exact h
 ·by_cases h2 : b < a
  ·simp [h1, h2] at h ⊢; exact h
  ·simp [h1, h2] at h ⊢; exact h
theorem bcs {w : World} {v : Value} {l : List Int} (hs : Sl w 1 zy v l) (hlen : l.length ≤ 1000) {K : KV} (h : K (.int .i64 (orK l)) w) : il P F.ec [v] w K := by
 apply M.dn.calls
 unfold M.dn
 simp only [fj]
 rw [hs.ij (by simp)]
 refine ⟨OrI w l, fun x _ => l.length - ms x 2, ⟨_, _, 0, rfl, rfl, Nat.zero_le _, fun j k _ h => by omega⟩, ?_⟩
 rintro x w1 ⟨a, b, i, rfl, rfl, hi, hz⟩
 have gv2 : gv [a, b, .int .i64 (i : Int)] 2 = .int .i64 (i : Int) := rfl
 simp only [gv2]
 by_cases hil : i < l.length
 ·obtain ⟨bb, o, cap, rfl, hb, _, hr⟩ := hs.at hil
  have e0 := hr 0 _ rfl
  simp only [Nat.mul_one, Nat.add_zero] at e0
  have hw : IntKind.i64.wrap ((i : Int) + 1) = ((i + 1 : Nat) : Int) := by rw [fm (by omega) (by omega)]; rfl
  simp [hil]
  unfold M.dn.j2
  simp only [fj, gv2]
  by_cases hk : l[i] = 0
  ·simp [hil, e0, hk, hw]
   refine ⟨⟨_, _, i + 1, rfl, rfl, by omega, fun j k hj hlt => ?_⟩, by simp [ms, gv]; omega⟩
   by_cases hji : j = i
   ·subst hji
    rw [List.getElem?_eq_getElem hil] at hj
    cases hj; exact hk
   ·exact hz j k hj (by omega)
  ·simp [hil, e0, hk]
   have : orK l = l[i] := by
    unfold orK
    have : l.find? (fun k => !decide (k = 0)) = some l[i] := by
     rw [List.find?_eq_some_iff_getElem]
     refine ⟨by simpa using hk, i, hil, rfl, fun j hj => ?_⟩
     have := hz j _ (List.getElem?_eq_getElem (by omega)) hj
     simp [this]
    rw [this]; rfl
   rw [this] at h; exact h
 ·simp [hil]
  have : orK l = 0 := by
   unfold orK
   have : l.find? (fun k => !decide (k = 0)) = none := by
    rw [List.find?_eq_none]
    intro k hk
    obtain ⟨j, hj, rfl⟩ := List.mem_iff_getElem.1 hk
    have := hz j _ (List.getElem?_eq_getElem hj) (by omega)
    simp [this]
   rw [this]; rfl
  rw [this] at h; exact h
theorem or2 (a b : Int) : orK [a, b] = if a = 0 then b else a := by
 unfold orK
 by_cases ha : a = 0 <;> by_cases hb : b = 0 <;> simp [ha, hb]
theorem awy {a b : Bal} : decide ((orK [vn a.n b.n, vn a.gj b.gj]) < 0) = a.lr b := by
 rw [or2]
 unfold vn Bal.lr
 apply decide_eq_decide.2
 repeat' split
 all_goals omega
theorem wd {w : World} {b : Nat} {x : Bal} {f : Nat × Nat} (h : w.heap[b]? = some (.cells #[.int .u64 x.n, .int .u64 x.gj] T.c f)) : fo w b 0 = some (.int .u64 x.n) ∧ fo w b 1 = some (.int .u64 x.gj) ∧ ∀ K, ldN P 2 b 0 w K = K (jy x) w :=
 ⟨by rw [fp h]; rfl, by rw [fp h]; rfl, fun K => abl (by rw [fp h]; rfl) (by rw [fp h]; rfl) K⟩
theorem awz (x y : Bal) {w : World} {Q : Value → Value → World → Prop} (h : ∀ w1 b1 b2, St w w1 (fu b2 #[.int .u64 y.n, .int .u64 y.gj] T.c :: fu b1 #[.int .u64 x.n, .int .u64 x.gj] T.c :: []) → Q (ik b1) (ik b2) w1) :
  km P T.c (jy x) w fun v1 w1 => km P T.c (jy y) w1 fun v2 w2 => Q v1 v2 w2 := by
 rw [wy, wy]
 exact h _ _ _ (ack (ack (St.ji w) #[.int .u64 x.n, .int .u64 x.gj] T.c) #[.int .u64 y.n, .int .u64 y.gj] T.c)
theorem awd {w : World} (x y : Bal) {K : KV} (h : ∀ w', Fr (fun _ => False) w w' → K (.int .i64 (orK [vn x.n y.n, vn x.gj y.gj])) w') : fg P F.dv [jy x, jy y] w K := by
 rw [M.eb.fcall]
 apply M.eb.calls
 unfold M.eb
 refine awz x y fun w1 b1 b2 S1 => ?_
 have S2 := S1.iq ((Fr.refl _ w1).dr 1)
 obtain ⟨y0, y1, _⟩ := wd S2.blk
 obtain ⟨x0, x1, _⟩ := wd S2.swap.blk
 simp only [ik]
 rw [og]
 simp only [pg] at x0 x1 y0 y1
 simp [x0, x1, y0, y1]
 refine agd _ _ ?_
 simp [x1, y1]
 refine agd _ _ ?_
 simp
 have S3 : St w ((dr w1 1).alloc (.cells #[.int .i64 (vn x.n y.n), .int .i64 (vn x.gj y.gj)] T.a)) _ := ack S2 #[.int .i64 (vn x.n y.n), .int .i64 (vn x.gj y.gj)] T.a
 have hsl : Sl ((dr w1 1).alloc (.cells #[.int .i64 (vn x.n y.n), .int .i64 (vn x.gj y.gj)] T.a)) 1 zy (.slice (some ⟨w1.heap.size, 0, none⟩) 2 2) [vn x.n y.n, vn x.gj y.gj] := by
  have hh := S3.blk
  rw [show (dr w1 1).heap.size = w1.heap.size from rfl] at hh
  refine ⟨some ⟨w1.heap.size, 0, none⟩, 2, rfl, by simp, by simp [maxLen], fun i z hz => ⟨w1.heap.size, 0, rfl, oh hh, fun j u hj => ?_⟩⟩
  rw [fp hh]
  match i, j with
  | 0, 0 => simp [zy] at hz hj ⊢; rw [hz]; exact hj
  | 1, 0 => simp [zy] at hz hj ⊢; rw [hz]; exact hj
  | i + 2, _ => simp at hz
  | _, j + 1 => simp [zy] at hj
 rw [M.dn.fcall]
 exact bcs hsl (by simp) (h _ S3.fr)
theorem ane {w : World} (x y : Bal) {K : KV} (h : ∀ w', Fr (fun _ => False) w w' → K (.bool (x.lr y)) w') : fg P F.dq [jy x, jy y] w K := by
 rw [M.ef.fcall]
 apply M.ef.calls
 unfold M.ef
 refine awz x y fun w1 b1 b2 S1 => ?_
 obtain ⟨_, _, y2⟩ := wd S1.blk
 obtain ⟨_, _, x2⟩ := wd S1.swap.blk
 simp only [ik]
 simp [x2, y2]
 refine awd x y fun w2 f2 => ?_
 simp
 rw [awy]
 exact h w2 (S1.fr.trans f2)
theorem adn {w : World} (x y : Bal) {K : KV} (h : ∀ w', Fr (fun _ => False) w w' → K (.bool (x.lr y)) w') : fg P F.bu [jy x, jy y] w K := by
 rw [M.db.fcall]
 apply M.db.calls
 unfold M.db
 refine awz x y fun w1 b1 b2 S1 => ?_
 obtain ⟨y0, y1, _⟩ := wd S1.blk
 obtain ⟨x0, x1, _⟩ := wd S1.swap.blk
 simp only [ik]
 have fin := h w1 S1.fr
 unfold Bal.lr at fin
 by_cases h1 : x.n < y.n
 ·simp [x0, x1, y0, y1, h1] at fin ⊢; exact fin
 ·by_cases h2 : x.n = y.n
  ·simp [x0, x1, y0, y1, h2] at fin ⊢; exact fin
  ·simp [x0, x1, y0, y1, h1, h2] at fin ⊢; exact fin
set_option maxRecDepth 100000
theorem zn (b : Nat) (w : World) (K : KV) : ou P T.e (.pointer (some ⟨b, 0, none⟩)) w K = ldN P 5 b 0 w K := .trans (by kernel_rfl) rfl
theorem ayu (b : Nat) (w : World) (K : KV) : ou P T.w (.pointer (some ⟨b, 0, none⟩)) w K = ldN P 5 b 0 w K := .trans (by kernel_rfl) rfl
section
variable {w0 w : World} {b : Nat} {t : TypeId} {R : List Asn}
def rgC (r : Rg) : Array Value := #[.int .u64 r.p.n, .int .u64 r.p.gj, .int .u64 r.t.n, .int .u64 r.t.gj, .int .i64 r.v]
theorem jc {r : Rg} (S : St w0 w (fu b (rgC r) t :: R)) : (∀ K, ldN P 2 b 0 w K = K (jy r.p) w) ∧ (∀ K, ldN P 2 b 2 w K = K (jy r.t) w) ∧ fo w b 4 = some (.int .i64 r.v) ∧ ∀ K, ldN P 5 b 0 w K = K (ky r) w :=
 ⟨fun K => S.ldA [.int .u64 r.p.n, .int .u64 r.p.gj] rfl rfl K, fun K => S.ldA [.int .u64 r.t.n, .int .u64 r.t.gj] rfl rfl K, by rw [S.cell]; rfl, fun K => S.ldA (ary r) rfl rfl K⟩
theorem xo {x : Bal} (S : St w0 w (fu b #[.int .u64 x.n, .int .u64 x.gj] t :: R)) : fo w b 0 = some (.int .u64 x.n) ∧ fo w b 1 = some (.int .u64 x.gj) ∧ ∀ K, ldN P 2 b 0 w K = K (jy x) w :=
 ⟨by rw [S.cell]; rfl, by rw [S.cell]; rfl, fun K => S.ldA [.int .u64 x.n, .int .u64 x.gj] rfl rfl K⟩
theorem rq {r r' : Rg} (S : St w0 w (fu b (rgC r) t :: R)) {K : KV} (h : ∀ w', St w0 w' (fu b (rgC r') t :: R) → K undef w') : stN P b 0 [.int .u64 r'.p.n, .int .u64 r'.p.gj, .int .u64 r'.t.n, .int .u64 r'.t.gj, .int .i64 r'.v] w K :=
 S.put (vs := [.int .u64 r'.p.n, .int .u64 r'.p.gj, .int .u64 r'.t.n, .int .u64 r'.t.gj, .int .i64 r'.v]) (aux r') (by simp [rgC]) rfl h
theorem uz (S : St w0 w R) (t : TypeId) : St w0 (w.alloc (.cells #[.int .u64 0, .int .u64 0, .int .u64 0, .int .u64 0, .int .i64 0] t)) (fu w.heap.size (rgC rg0) t :: R) := S.mkB (rgC rg0) t
theorem aoq {w : World} {v : Int} {K : KV} (h : K (.bool (mi v)) w) : fg P F.dc [.int .i64 v] w K := by
 rw [M.ds.fcall]
 apply M.ds.calls
 unfold M.ds
 unfold mi at h
 by_cases h1 : 1 ≤ v
 ·by_cases h2 : v ≤ 3
  ·rw [decide_eq_true ⟨h1, h2⟩] at h
   simp [h1, h2]; exact h
  ·rw [decide_eq_false (fun hh => h2 hh.2)] at h
   simp [h1, h2]; exact h
 ·rw [decide_eq_false (fun hh => h1 hh.1)] at h
  simp [h1]; exact h
theorem akq {w : World} (r : Rg) (x : Bal) {K : KV} (h : ∀ w', Fr (fun _ => False) w w' → K (.bool (r.oc x)) w') : fg P F.bs [ky r, jy x] w K := by
 rw [M.cs.fcall]
 apply M.cs.calls
 unfold M.cs
 refine St.tz (St.ji w) fun b1 w1 S1 => ?_
 refine St.tz S1 fun b2 w2 S2 => ?_
 obtain ⟨x0, _, xl⟩ := xo S2
 obtain ⟨rp, _, _, _⟩ := jc S2.swap
 unfold Rg.oc at h
 by_cases hn : 0 < x.n
 ·simp [x0, hn, xl, rp]
  refine ane x r.p fun w3 f3 => ?_
  simp
  simpa [hn] using h w3 (S2.fr.trans f3)
 ·simp [x0, hn]
  simpa [hn] using h w2 S2.fr
theorem bbu {w : World} (r : Rg) (x : Bal) {K : KV} (h : ∀ w', Fr (fun _ => False) w w' → K (.tuple #[ky (r.qp x).1, .bool (r.qp x).2]) w') : fg P F.cz [ky r, jy x] w K := by
 rw [M.cf.fcall]
 apply M.cf.calls
 unfold M.cf
 refine St.tz (St.ji w) fun b1 w1 S1 => ?_
 refine St.tz S1 fun b2 w2 S2 => ?_
 simp
 have S3 := uz S2 T.e
 generalize w2.heap.size = b3 at *
 generalize w2.alloc _ = w3 at *
 obtain ⟨_, _, xl⟩ := xo S3.swap
 obtain ⟨_, _, _, rl⟩ := jc S3.up2
 simp [rl, xl]
 refine akq r x fun w4 f4 => ?_
 have S4 := S3.iq f4
 obtain ⟨_, _, xl⟩ := xo S4.swap
 obtain ⟨_, _, _, rl⟩ := jc S4.up2
 unfold Rg.qp at h
 cases hs : r.oc x with
 | false =>
  simp [rl]
  unfold ky
  simp
  refine rq S4 fun w5 S5 => ?_
  obtain ⟨_, _, _, rl5⟩ := jc S5
  rw [zn, rl5]
  refine ⟨rfl, ?_⟩
  simpa [hs] using h w5 S5.fr
 | true =>
  simp
  unfold M.cf.j0
  simp [xl]
  unfold jy
  simp
  refine St.put (cs' := rgC ⟨x, r.t, r.v⟩) (vs := [.int .u64 x.n, .int .u64 x.gj]) S4.up2 (by simp) (by simp [rgC]) rfl fun w5 S5 => ?_
  obtain ⟨_, _, _, rl5⟩ := jc S5
  rw [rl5]
  unfold ky
  simp
  refine rq (r' := ⟨x, r.t, r.v⟩) S5.swap fun w6 S6 => ?_
  obtain ⟨_, _, _, rl6⟩ := jc S6
  rw [zn, rl6]
  refine ⟨rfl, ?_⟩
  simpa [hs] using h w6 S6.fr
theorem bdb {w : World} (r : Rg) (x : Bal) (v : Int) {K : KV} (h : ∀ w', Fr (fun _ => False) w w' → K (.tuple #[ky (r.acc x v).1, .bool (r.acc x v).2]) w') : fg P F.df [ky r, jy x, .int .i64 v] w K := by
 rw [M.ca.fcall]
 apply M.ca.calls
 unfold M.ca
 refine St.tz (St.ji w) fun b1 w1 S1 => ?_
 refine St.tz S1 fun b2 w2 S2 => ?_
 simp
 have S3 := uz S2 T.e
 generalize w2.heap.size = b3 at *
 generalize w2.alloc _ = w3 at *
 obtain ⟨_, _, xl⟩ := xo S3.swap
 obtain ⟨_, _, _, rl⟩ := jc S3.up2
 simp [rl, xl]
 refine akq r x fun w4 f4 => ?_
 have S4 := S3.iq f4
 obtain ⟨_, _, xl⟩ := xo S4.swap
 obtain ⟨_, rt, rv, rl⟩ := jc S4.up2
 have no : (¬ (r.oc x = true ∧ mi v = true ∧ ¬ (r.t = x ∧ r.v ≠ v))) → stN P b3 0 [.int .u64 r.p.n, .int .u64 r.p.gj, .int .u64 r.t.n, .int .u64 r.t.gj, .int .i64 r.v] w4 (fun _ w => ey (fun K' => ou P T.e (.pointer (some ⟨b3, 0, none⟩)) w K') w fun r0 => K (.tuple #[r0, .bool false]) w) := fun hc => by
  refine rq S4 fun w5 S5 => ?_
  obtain ⟨_, _, _, rl5⟩ := jc S5
  rw [mq, zn, rl5]
  refine ⟨rfl, ?_⟩
  have fin := h w5 S5.fr
  unfold Rg.acc at fin
  rw [if_neg hc] at fin
  exact fin
 simp only [mq] at no
 cases hs : r.oc x with
 | false =>
  have no' := no (by simp [hs])
  simp [rl]
  unfold ky
  simp
  exact no'
 | true =>
  simp
  refine aoq ?_
  cases hv : mi v with
  | false =>
   have no' := no (by simp [hv])
   simp [rl]
   unfold ky
   simp
   exact no'
  | true =>
   simp [rt, xl, rh]
   have yes : (r.oc x = true ∧ mi v = true ∧ ¬ (r.t = x ∧ r.v ≠ v)) → M.ca.j0 (.pointer (some ⟨b2, 0, none⟩)) (.int .i64 v) (.pointer (some ⟨b3, 0, none⟩)) w4 K := fun hc => by
    unfold M.ca.j0
    simp [xl]
    unfold jy
    simp
    refine rq (r' := ⟨x, x, v⟩) S4 fun w5 S5 => ?_
    obtain ⟨_, _, _, rl5⟩ := jc S5
    rw [zn, rl5]
    refine ⟨rfl, ?_⟩
    have fin := h w5 S5.fr
    unfold Rg.acc at fin
    rw [if_pos hc] at fin
    exact fin
   by_cases ht : r.t = x
   ·by_cases hvv : r.v = v
    ·have yes' := yes ⟨hs, hv, fun hh => hh.2 hvv⟩
     simp [ht, rv, hvv]
     exact yes'
    ·have no' := no (fun hh => hh.2.2 ⟨ht, hvv⟩)
     simp [ht, rv, hvv, rl]
     unfold ky
     simp
     exact no'
   ·have yes' := yes ⟨hs, hv, fun hh => ht hh.1⟩
    simp [ht]
    exact yes'
theorem azw : Value.agg #[.int .u64 0, .int .u64 0] = jy ic := rfl
theorem aub {w : World} (r : Rg) {K : KV} (h : ∀ w', Fr (fun _ => False) w w' → K (.bool r.right) w') : fg P F.dm [ky r] w K := by
 rw [M.cr.fcall]
 apply M.cr.calls
 unfold M.cr
 refine St.tz (St.ji w) fun b1 w1 S1 => ?_
 have S1' : St w w1 (fu b1 (rgC r) T.e :: []) := S1
 obtain ⟨rp, rt, rv, _⟩ := jc S1'
 have fin := fun f => h w1 f
 unfold Rg.right at h fin
 simp [rt, azw, rh]
 by_cases ht : r.t = ic
 ·simp [ht, rv] at fin ⊢
  exact fin S1.fr
 ·simp [ht] at fin h ⊢
  unfold M.cr.j0
  simp [rv]
  refine aoq ?_
  cases hv : mi r.v with
  | false =>
   simp [hv] at fin ⊢
   exact fin S1.fr
  | true =>
   simp [rp, rt]
   refine ane _ _ fun w2 f2 => ?_
   have := h w2 (S1.fr.trans f2)
   simpa [hv] using this
end
set_option maxRecDepth 100000
open Go.Eng
def pk0 (k tr : Int) (x s : Bal) (v : Int) (ok : Bool) : Pk := ⟨k, tr, x, s, v, ok, .slice none 0 0, .slice none 0 0, .slice none 0 0⟩
theorem vz (k tr : Int) (x s : Bal) (v : Int) (ok : Bool) : ∀ u ∈ pkC (pk0 k tr x s v ok), jn u = true := fun u hu => by
 simp only [pkC, pk0, List.mem_cons, List.not_mem_nil, or_false] at hu
 rcases hu with rfl | rfl | rfl | rfl | rfl | rfl | rfl | rfl | rfl | rfl | rfl <;> rfl
theorem bcr (w : World) (k tr : Int) (x s : Bal) (v : Int) (ok : Bool) : pu w (pk0 k tr x s v ok) [] [] [] := ⟨Sl.nil, Sl.nil, Sl.nil, by simp, by simp, by simp⟩
def pkZ : Pk := pk0 0 0 ic ic 0 false
def ahi (r : Rg) (tr : Int) (x : Bal) (ok jr : Bool) : Pk := pk0 (if jr = true then 7 else 5) tr x (if ok = false then r.p else if jr = false then r.t else ic) (if ok = true ∧ jr = false then r.v else 0) ok
section
variable {w0 w : World} {b : Nat} {R : List Asn}
theorem alw {cs : Array Value} {q : Pk} (S : St w0 w (fu b cs T.b :: R)) (hs : cs.size = 11) (h1 : ∀ u ∈ pkC q, jn u = true) {K : KV} (h : ∀ w', St w0 w' (fu b (pkC q).toArray T.b :: R) → K undef w') : stN P b 0 (pkC q) w K :=
 S.put h1 (by simp [pkC, hs]) (by
  have hl : cs.toList.length = 11 := by simpa using hs
  have h2 : (pkC q).length = 11 := rfl
  rw [h2, List.take_zero, List.nil_append, List.drop_eq_nil_of_le (by omega), List.append_nil]) h
theorem ais (S : St w0 w R) : St w0 (w.alloc (.cells #[.int .i64 0, .int .u64 0, .int .u64 0, .int .u64 0, .int .u64 0, .int .u64 0, .int .i64 0, .bool false, .slice none 0 0, .slice none 0 0, .slice none 0 0] T.b)) (fu w.heap.size (pkC pkZ).toArray T.b :: R) := S.mkB (pkC pkZ).toArray T.b
theorem yw {q : Pk} (S : St w0 w (fu b (pkC q).toArray T.b :: R)) (K : KV) : ldN P 11 b 0 w K = K (pkA q) w := S.ldA (pkC q) rfl rfl K
theorem bee {q : Pk} (S : St w0 w (fu b (pkC q).toArray T.b :: R)) (K : KV) : ou P T.b (.pointer (some ⟨b, 0, none⟩)) w K = K (pkA q) w := by rw [afy]; exact yw S K
theorem aib {cs : Array Value} {q : Pk} (S : St w0 w (fu b cs T.b :: R)) (hs : cs.size = 11) (h1 : ∀ u ∈ pkC q, jn u = true) {K : KV} (h : ∀ w', St w0 w' (fu b (pkC q).toArray T.b :: R) → K (pkA q) w') :
  stN P b 0 (pkC q) w fun _ w => ou P T.b (.pointer (some ⟨b, 0, none⟩)) w fun r0 w' => w' = w ∧ K r0 w :=
 alw S hs h1 fun w' S' => by rw [bee S']; exact ⟨rfl, h w' S'⟩
theorem auu {w : World} (r : Rg) (tr : Int) (x : Bal) (ok jr : Bool) {K : KV} (h : ∀ w', Fr (fun _ => False) w w' → K (pkA (ahi r tr x ok jr)) w') : fg P F.dg [ky r, .int .u64 tr, jy x, .bool ok, .bool jr] w K := by
 rw [M.cb.fcall]
 apply M.cb.calls
 unfold M.cb
 refine St.tz (St.ji w) fun b1 w1 S1 => ?_
 refine St.tz S1 fun b2 w2 S2 => ?_
 simp
 have S3 := ais S2
 generalize w2.heap.size = b3 at *
 generalize w2.alloc _ = w3 at *
 obtain ⟨_, _, xl⟩ := xo S3.swap
 rw [xl]
 unfold jy
 simp
 have S4 := ais S3
 generalize w3.heap.size = b4 at *
 generalize w3.alloc _ = w4 at *
 refine alw (q := pk0 5 tr x ic 0 ok) S4 rfl (vz _ _ _ _ _ _) fun w5 S5 => ?_
 obtain ⟨rp, rt, rv, _⟩ := jc S5.up3
 have fin : ∀ w6 (s : Bal) (v : Int), s = (if ok = false then r.p else if jr = false then r.t else ic) → v = (if ok = true ∧ jr = false then r.v else 0) → St w w6 (fu b4 (pkC (pk0 5 tr x s v ok)).toArray T.b :: fu b3 (pkC pkZ).toArray T.b :: fu b2 #[.int .u64 x.n, .int .u64 x.gj] T.c :: fu b1 (rgC r) T.e :: []) → M.cb.j0 (.bool jr) (.pointer (some ⟨b4, 0, none⟩)) (.pointer (some ⟨b3, 0, none⟩)) w6 K := fun w6 s v es ev S6 => by
  unfold M.cb.j0
  cases jr with
  | false =>
   simp
   rw [yw S6]
   have e : pkA (pk0 5 tr x s v ok) = .agg #[.int .i64 5, .int .u64 tr, .int .u64 x.n, .int .u64 x.gj, .int .u64 s.n, .int .u64 s.gj, .int .i64 v, .bool ok, .slice none 0 0, .slice none 0 0, .slice none 0 0] := rfl
   rw [e]
   simp
   refine aib (q := pk0 5 tr x s v ok) S6.swap rfl (vz _ _ _ _ _ _) fun w7 S7 => ?_
   subst es ev
   exact h w7 S7.fr
  | true =>
   simp
   refine S6.aki rfl (by simp [pkC]) fun w7 S7 => ?_
   have S7' : St w w7 (fu b4 (pkC (pk0 7 tr x s v ok)).toArray T.b :: _) := S7
   rw [yw S7']
   have e : pkA (pk0 7 tr x s v ok) = .agg #[.int .i64 7, .int .u64 tr, .int .u64 x.n, .int .u64 x.gj, .int .u64 s.n, .int .u64 s.gj, .int .i64 v, .bool ok, .slice none 0 0, .slice none 0 0, .slice none 0 0] := rfl
   rw [e]
   simp
   refine aib (q := pk0 7 tr x s v ok) S7'.swap rfl (vz _ _ _ _ _ _) fun w8 S8 => ?_
   subst es ev
   exact h w8 S8.fr
 cases ok with
 | false =>
  simp [rp]
  unfold jy
  simp
  refine St.put (cs' := (pkC (pk0 5 tr x r.p 0 false)).toArray) (vs := [.int .u64 r.p.n, .int .u64 r.p.gj]) S5 (by simp) (by simp [pkC]) rfl fun w6 S6 => ?_
  exact fin w6 r.p 0 rfl rfl S6
 | true =>
  cases jr with
  | true =>
   simp
   exact fin w5 ic 0 rfl rfl S5
  | false =>
   simp
   have S5d := S5.iq ((Fr.refl _ w5).dr 1)
   obtain ⟨_, rt', rv', _⟩ := jc S5d.up3
   simp only [pg] at rv'
   simp [rt', rv']
   unfold jy
   simp
   refine St.put (cs' := (pkC (pk0 5 tr x r.t 0 true)).toArray) (vs := [.int .u64 r.t.n, .int .u64 r.t.gj]) S5d (by simp) (by simp [pkC]) rfl fun w6 S6 => ?_
   obtain ⟨_, _, rv6, _⟩ := jc S6.up3
   simp [rv6]
   refine S6.aki rfl (by simp [pkC]) fun w7 S7 => ?_
   exact fin w7 r.t r.v rfl rfl S7
theorem bal {w : World} (r : Rg) {K : KV} (h : ∀ w', Fr (fun _ => False) w w' → K (ky r) w') : fg P F.cy [ky r] w K := by
 rw [M.dc.fcall]
 apply M.dc.calls
 unfold M.dc
 refine St.tz (St.ji w) fun b1 w1 S1 => ?_
 simp
 have S2 : St w (w1.alloc (.cells #[.int .u64 0, .int .u64 0, .int .u64 0, .int .u64 0, .int .i64 0] T.w)) (fu w1.heap.size (rgC rg0) T.w :: fu b1 (rgC r) T.e :: []) := uz S1 _
 generalize w1.heap.size = b2 at *
 generalize w1.alloc _ = w2 at *
 obtain ⟨rp, rt, rv, _⟩ := jc S2.swap
 simp [rp, rt, rv]
 unfold jy
 simp
 refine rq (r' := r) S2 fun w3 S3 => ?_
 obtain ⟨_, _, _, rl⟩ := jc S3
 rw [ayu, rl]
 exact ⟨rfl, h w3 S3.fr⟩
theorem alp {w : World} (r : Rg) {K : KV} (h : ∀ w', Fr (fun _ => False) w w' → K (.bool (!r.p.lr r.t && (decide (0 ≤ r.v) && (decide (r.v ≤ 3) && (decide (r.v = 0) == decide (r.t = ic)))))) w') : fg P F.ct [ky r] w K := by
 rw [M.cx.fcall]
 apply M.cx.calls
 unfold M.cx
 refine St.tz (St.ji w) fun b1 w1 S1 => ?_
 have S1' : St w w1 (fu b1 (rgC r) T.w :: []) := S1
 obtain ⟨rp, rt, rv, _⟩ := jc S1'
 simp [rt, azw, rh, rp]
 refine adn _ _ fun w2 f2 => ?_
 have S2 := S1'.iq f2
 obtain ⟨rp, rt, rv, _⟩ := jc S2
 have fin := h w2 S2.fr
 have hbo : afp P T.ar = true := by kernel_rfl
 cases hl : r.p.lr r.t with
 | true =>
  simp [hl] at fin ⊢
  exact fin
 | false =>
  by_cases h0 : 0 ≤ r.v
  ·by_cases h3 : r.v ≤ 3
   ·simp [hl, h0, h3] at fin
    simp [rv, h0, h3, aht hbo]
    exact fin
   ·simp [hl, h0, h3] at fin
    simp [rv, h0, h3]
    exact fin
  ·simp [hl, h0] at fin
   simp [rv, h0]
   exact fin
end
set_option maxRecDepth 100000
open Go.Eng
def ur (l1 l2 : List Spn) : Bool := decide (l1.length = l2.length) && (List.zipWith xv l1 l2).all id
theorem auc {l1 l2 : List Spn} {i : Nat} (h1 : i < l1.length) (h2 : i < l2.length) (h : xv l1[i] l2[i] = false) : ur l1 l2 = false := by
 unfold ur
 have : (List.zipWith xv l1 l2).all id = false := by
  rw [List.all_eq_false]
  refine ⟨xv l1[i] l2[i], ?_, by simp [h]⟩
  rw [List.mem_iff_getElem]
  exact ⟨i, by simp; omega, by simp⟩
 rw [this, Bool.and_false]
theorem arl {l1 l2 : List Spn} (hl : l1.length = l2.length) (h : ∀ j (h1 : j < l1.length) (h2 : j < l2.length), xv l1[j] l2[j] = true) : ur l1 l2 = true := by
 unfold ur
 rw [decide_eq_true hl, Bool.true_and, List.all_eq_true]
 intro x hx
 obtain ⟨j, hj, rfl⟩ := List.getElem_of_mem hx
 simp only [List.length_zipWith] at hj
 rw [List.getElem_zipWith]
 exact h j (by omega) (by omega)
def jx (p q : Pk) : Bool := decide (p.fx = q.fx) && (decide (p.tr = q.tr) && (decide (p.b = q.b) && (decide (p.ig = q.ig) && (decide (p.v = q.v) && (p.ok == q.ok)))))
def yb (p q : Pk) (ls ls' : List Spn) (lm lm' : List Mem) (lu lu' : List Int) : Bool := decide (lm = lm') && (decide (lu = lu') && (ur ls ls' && jx p q))
theorem bds {α : Type} {l1 l2 : List α} (hl : l1.length = l2.length) (h : ∀ j (h1 : j < l1.length) (h2 : j < l2.length), l1[j] = l2[j]) : l1 = l2 := List.ext_getElem hl h
def qo (p : Pk) : Pk := ⟨p.fx, if p.fx = 3 then 0 else p.tr, if p.fx = 4 ∨ p.fx = 5 ∨ p.fx = 6 ∨ p.fx = 7 ∨ p.fx = 9 then p.b else ic, if p.fx = 5 ∨ p.fx = 7 then p.ig else ic, if p.fx = 5 ∨ p.fx = 6 ∨ p.fx = 8 then p.v else 0, if p.fx = 5 ∨ p.fx = 7 then p.ok else false,
 if p.fx = 1 ∨ p.fx = 2 ∨ p.fx = 9 then p.sv else .slice none 0 0, if p.fx = 3 then p.mv else .slice none 0 0, if p.fx = 10 then p.iv else .slice none 0 0⟩
def om (p : Pk) (l : List Spn) : List Spn := if p.fx = 1 ∨ p.fx = 2 ∨ p.fx = 9 then l else []
def ot (p : Pk) (l : List Mem) : List Mem := if p.fx = 3 then l else []
def oo (p : Pk) (l : List Int) : List Int := if p.fx = 10 then l else []
theorem atx (b : Nat) (q : Pk) (w : World) (K : KV) : stT P T.b (.pointer (some ⟨b, 0, none⟩)) (pkA q) w K = stN P b 0 (pkC q) w K := by simp [pkA, pkC]
def bes (W : World) (l1 l2 : List Spn) : KL := fun x w1 => ∃ (u0 u1 : Value) (i : Nat), x = [u0, u1, .int .i64 (i : Nat)] ∧ i ≤ l1.length ∧ (∀ j (h1 : j < l1.length) (h2 : j < l2.length), j < i → xv l1[j] l2[j] = true) ∧ Fr (fun _ => False) W w1
def bfc (W : World) (l1 l2 : List Int) : KL := fun x w1 => ∃ (u0 u1 : Value) (i : Nat), x = [u0, u1, .int .i64 (i : Nat)] ∧ i ≤ l1.length ∧ (∀ j (h1 : j < l1.length) (h2 : j < l2.length), j < i → l1[j] = l2[j]) ∧ Fr (fun _ => False) W w1
theorem aui {w : World} {v1 v2 : Value} {l1 l2 : List Spn} (s1 : SlS w v1 l1) (s2 : SlS w v2 l2) (hlen : l1.length ≤ 1000000) {K : KV} (h : ∀ w', Fr (fun _ => False) w w' → K (.bool (ur l1 l2)) w') : fg P F.ar [v1, v2] w K := by
 rw [M.w.fcall]
 apply M.w.calls
 unfold M.w
 simp only [fj]
 rw [s1.ij (by kernel_rfl), s2.ij (by kernel_rfl)]
 by_cases hne : l1.length = l2.length
 ·simp [hne]
  unfold M.w.j0
  simp only [fj]
  rw [s1.ij (by kernel_rfl)]
  refine ⟨bes w l1 l2, fun x _ => l1.length - ms x 2, ⟨_, _, 0, rfl, Nat.zero_le _, fun j _ _ h => by omega, Fr.refl _ _⟩, ?_⟩
  rintro x w1 ⟨u0, u1, i, rfl, hi, hpre, f1⟩
  by_cases hil : i < l1.length
  ·have hili : (i : Int) < (l1.length : Int) := by omega
   obtain ⟨b1, o1, cap1, hv1, _, _, e1⟩ := (s1.fr f1 fun _ _ _ h => h : SlS w1 v1 l1).at hil
   obtain ⟨b2, o2, cap2, hv2, _, _, e2⟩ := (s2.fr f1 fun _ _ _ h => h : SlS w1 v2 l2).at (show i < l2.length by omega)
   have hl2i : i < l2.length := by omega
   have q1 : ∀ w' K, iaT P T.t v1 (.int .i64 (i : Nat)) w' K = K (.pointer (some ⟨b1, o1 + i * 8, none⟩)) w' := fun w' K => by rw [hv1]; simp [hil]
   have q2 : ∀ w' K, iaT P T.t v2 (.int .i64 (i : Nat)) w' K = K (.pointer (some ⟨b2, o2 + i * 8, none⟩)) w' := fun w' K => by rw [hv2]; simp [hl2i]
   have g1 : ∀ K, ldN P 8 b1 (o1 + i * 8) (dr w1 1) K = K (ws l1[i]) (dr w1 1) := fun K => ldS (fun k v hk => by rw [pg]; exact e1 k v hk) K
   have g2 : ∀ K, ldN P 8 b2 (o2 + i * 8) (dr w1 1) K = K (ws l2[i]) (dr w1 1) := fun K => ldS (fun k v hk => by rw [pg]; exact e2 k v hk) K
   have hw : IntKind.i64.wrap ((i : Int) + 1) = ((i + 1 : Nat) : Int) := by rw [fm (by omega) (by omega)]; omega
   simp [hili]
   unfold M.w.j3
   simp [q1, q2, g1, g2, bay]
   cases hs : xv l1[i] l2[i] with
   | true =>
    simp
    rw [hw]
    refine ⟨⟨_, _, i + 1, rfl, hil, fun j a1 a2 hj => ?_, f1.dr 1⟩, by simp [ms, gv]; omega⟩
    by_cases hji : j = i
    ·subst hji; exact hs
    ·exact hpre j a1 a2 (by omega)
   | false =>
    simp
    have := h _ (f1.dr 1)
    rw [auc hil hl2i hs] at this
    exact this
  ·have hili : ¬ (i : Int) < (l1.length : Int) := by omega
   simp [hili]
   have := h w1 f1
   rw [arl hne fun j a1 a2 => hpre j a1 a2 (by omega)] at this
   exact this
 ·have hni : ¬ (l1.length : Int) = (l2.length : Int) := by omega
  simp [hni]
  have := h w (Fr.refl _ _)
  have hz : ur l1 l2 = false := by unfold ur; simp [hne]
  rw [hz] at this
  exact this
theorem ato {w : World} {v1 v2 : Value} {l1 l2 : List Int} (s1 : SlU w v1 l1) (s2 : SlU w v2 l2) (hlen : l1.length ≤ 1000000) {K : KV} (h : ∀ w', Fr (fun _ => False) w w' → K (.bool (decide (l1 = l2))) w') : fg P F.bd [v1, v2] w K := by
 rw [M.ag.fcall]
 apply M.ag.calls
 unfold M.ag
 simp only [fj]
 rw [s1.ij (by kernel_rfl), s2.ij (by kernel_rfl)]
 by_cases hne : l1.length = l2.length
 ·simp [hne]
  unfold M.ag.j0
  simp only [fj]
  rw [s1.ij (by kernel_rfl)]
  refine ⟨bfc w l1 l2, fun x _ => l1.length - ms x 2, ⟨_, _, 0, rfl, Nat.zero_le _, fun j _ _ h => by omega, Fr.refl _ _⟩, ?_⟩
  rintro x w1 ⟨u0, u1, i, rfl, hi, hpre, f1⟩
  by_cases hil : i < l1.length
  ·have hili : (i : Int) < (l1.length : Int) := by omega
   have hl2i : i < l2.length := by omega
   obtain ⟨b1, o1, cap1, hv1, _, e1⟩ := ame (s1.fr f1 fun _ _ _ h => h : SlU w1 v1 l1) hil
   obtain ⟨b2, o2, cap2, hv2, _, e2⟩ := ame (s2.fr f1 fun _ _ _ h => h : SlU w1 v2 l2) hl2i
   have q1 : ∀ w' K, iaT P T.g v1 (.int .i64 (i : Nat)) w' K = K (.pointer (some ⟨b1, o1 + i, none⟩)) w' := fun w' K => by rw [hv1]; simp [hil]
   have q2 : ∀ w' K, iaT P T.g v2 (.int .i64 (i : Nat)) w' K = K (.pointer (some ⟨b2, o2 + i, none⟩)) w' := fun w' K => by rw [hv2]; simp [hl2i]
   have hw : IntKind.i64.wrap ((i : Int) + 1) = ((i + 1 : Nat) : Int) := by rw [fm (by omega) (by omega)]; omega
   simp [hili]
   unfold M.ag.j3
   simp [q1, q2, e1, e2]
   by_cases hs : l1[i] = l2[i]
   ·simp [hs]
    rw [hw]
    refine ⟨⟨_, _, i + 1, rfl, hil, fun j a1 a2 hj => ?_, f1.dr 1⟩, by simp [ms, gv]; omega⟩
    by_cases hji : j = i
    ·subst hji; exact hs
    ·exact hpre j a1 a2 (by omega)
   ·simp [hs]
    have := h _ (f1.dr 1)
    rw [decide_eq_false fun he => hs (by simp [he])] at this
    exact this
  ·have hili : ¬ (i : Int) < (l1.length : Int) := by omega
   simp [hili]
   have := h w1 f1
   rw [decide_eq_true (bds hne fun j a1 a2 => hpre j a1 a2 (by omega))] at this
   exact this
 ·have hni : ¬ (l1.length : Int) = (l2.length : Int) := by omega
  simp [hni]
  have := h w (Fr.refl _ _)
  rw [decide_eq_false fun he => hne (congrArg List.length he)] at this
  exact this
theorem awq {w : World} {p q : Pk} {ls ls' : List Spn} {lm lm' : List Mem} {lu lu' : List Int} (hp : pu w p ls lm lu) (hq : pu w q ls' lm' lu') {K : KV}
  (h : ∀ w', Fr (fun _ => False) w w' → K (.bool (yb p q ls ls' lm lm' lu lu')) w') : fg P F.dt [pkA p, pkA q] w K := by
 rw [M.dt.fcall]
 apply M.dt.calls
 unfold M.dt
 rw [aoo hp, aoo (hq.fr ((Fr.refl _ w).alloc _))]
 have S1 : St w (w.alloc (.cells (pkC p).toArray T.b)) (fu w.heap.size (pkC p).toArray T.b :: []) := (St.ji w).add ((Fr.refl _ w).alloc _) (B := fun x => x = w.heap.size) ⟨by rw [gc, if_pos rfl], rfl⟩ fun x hx => by subst hx; rw [ii]; omega
 generalize w.alloc (.cells (pkC p).toArray T.b) = w1 at *
 have S2 : St w (w1.alloc (.cells (pkC q).toArray T.b)) (fu w1.heap.size (pkC q).toArray T.b :: _) := S1.add ((Fr.refl _ w1).alloc _) (B := fun x => x = w1.heap.size) ⟨by rw [gc, if_pos rfl], rfl⟩ fun x hx => by subst hx; rw [ii]; omega
 generalize w1.alloc (.cells (pkC q).toArray T.b) = w2 at *
 generalize w.heap.size = pb at *
 generalize w1.heap.size = qb at *
 obtain ⟨q0, q1, q2, q4, q6, q7, q8, q9, q10, _⟩ := lq S2
 obtain ⟨p0, p1, p2, p4, p6, p7, p8, p9, p10, _⟩ := lq S2.swap
 have hbo : afp P T.ar = true := by kernel_rfl
 have no : ∀ bb : Bool, bb = false → (jx p q = false) → K (.bool bb) w2 := fun bb hb hl => by
  subst hb
  have := h w2 S2.fr
  unfold yb at this
  rw [hl, Bool.and_false, Bool.and_false, Bool.and_false] at this
  exact this
 by_cases a0 : p.fx = q.fx
 case neg =>
  simp [p0, q0, a0]
  exact no false rfl (by simp [jx, a0])
 by_cases a1 : p.tr = q.tr
 case neg =>
  simp [p0, q0, a0, p1, q1, a1]
  exact no false rfl (by simp [jx, a1])
 by_cases a2 : p.b = q.b
 case neg =>
  simp [p0, q0, a0, p1, q1, a1, p2, q2, rh, a2]
  exact no false rfl (by simp [jx, a2])
 by_cases a3 : p.ig = q.ig
 case neg =>
  simp [p0, q0, a0, p1, q1, a1, p2, q2, rh, a2, p4, q4, a3]
  exact no false rfl (by simp [jx, a3])
 by_cases a4 : p.v = q.v
 case neg =>
  simp [p0, q0, a0, p1, q1, a1, p2, q2, rh, a2, p4, q4, a3, p6, q6, a4]
  exact no false rfl (by simp [jx, a4])
 by_cases a5 : p.ok = q.ok
 case neg =>
  have a5' : (p.ok == q.ok) = false := by simpa using a5
  simp [p0, q0, a0, p1, q1, a1, p2, q2, rh, a2, p4, q4, a3, p6, q6, a4, p7, q7, aht hbo, a5']
  exact no false rfl (by simp [jx, a5])
 obtain ⟨⟨sa, sc, es⟩, ⟨ma, mc, em⟩, ua, uc, eu⟩ := hp.one
 obtain ⟨⟨sa', sc', es'⟩, ⟨ma', mc', em'⟩, ua', uc', eu'⟩ := hq.one
 simp [p0, q0, a0, p1, q1, a1, p2, q2, rh, a2, p4, q4, a3, p6, q6, a4, p7, q7, aht hbo, a5, p8, q8]
 have hp2 := hp.fr S2.fr
 have hq2 := hq.fr S2.fr
 have fb : jx p q = true := by simp [jx, a0, a1, a2, a3, a4, a5]
 have fin := h
 unfold yb at fin
 rw [fb] at fin
 refine aui hp2.s hq2.s hp.ls fun w3 f3 => ?_
 have S3 := S2.iq f3
 obtain ⟨_, _, _, _, _, _, _, q9, _, _⟩ := lq S3
 obtain ⟨_, _, _, _, _, _, _, p9, _, _⟩ := lq S3.swap
 have hp3 := hp.fr S3.fr
 have hq3 := hq.fr S3.fr
 cases hb1 : ur ls ls' with
 | false =>
  simp
  have := fin w3 S3.fr
  rw [hb1] at this
  simpa using this
 | true =>
 rw [hb1] at fin
 simp [p9, q9]
 refine atl hp3.m hq3.m hp.lm fun w4 f4 => ?_
 have S4 := S3.iq f4
 obtain ⟨_, _, _, _, _, _, _, _, q10, _⟩ := lq S4
 obtain ⟨_, _, _, _, _, _, _, _, p10, _⟩ := lq S4.swap
 have hp4 := hp.fr S4.fr
 have hq4 := hq.fr S4.fr
 by_cases hm : lm = lm'
 case neg =>
  simp [hm]
  have := fin w4 S4.fr
  simpa [hm] using this
 simp [hm, p10, q10]
 refine ato hp4.u hq4.u hp.lu fun w5 f5 => ?_
 have := fin w5 (S4.iq f5).fr
 simpa [hm] using this
def awa (ok : Bool) (ig : Bal) (v : Int) : Bool := (decide (v = 0) || (mi v && !(decide (ig = ic)))) && (if ok = true then !(decide (v = 0)) || decide (ig = ic) else decide (v = 0) && !(decide (ig = ic)))
def sw (p : Pk) (ls : List Spn) (lm : List Mem) (lu : List Int) : Bool :=
 if p.fx = 1 ∨ p.fx = 2 then ux p.tr ls else if p.fx = 3 then afd lm else if p.fx = 4 then decide (0 < p.b.n) else if p.fx = 5 then decide (0 < p.b.n) && awa p.ok p.ig p.v else if p.fx = 6 then decide (0 < p.b.n) && mi p.v else if p.fx = 7 then decide (0 < p.b.n) && (p.ok == decide (p.ig = ic)) else if p.fx = 8 then mi p.v else if p.fx = 9 then decide (0 < p.b.n) && ux p.tr ls else if p.fx = 10 then wq 0 lu && (decide (0 < lu.length) && decide (lu.length ≤ 16)) else false
def azn (p : Pk) (ls : List Spn) (lm : List Mem) (lu : List Int) : Bool := yb p (qo p) ls (om p ls) lm (ot p lm) lu (oo p lu)
def uy (p : Pk) (ls : List Spn) (lm : List Mem) (lu : List Int) : Bool := (azn p ls lm lu && (decide (p.fx = 3) || decide (0 < p.tr))) && sw p ls lm lu
def aof (p : Pk) (ls : List Spn) (lm : List Mem) (lu : List Int) : Int := if uy p ls lm lu = true then 0 else 6
def oa (p : Pk) : Pk := if p.fx = 4 ∨ p.fx = 6 then ⟨if p.v = 0 then 4 else 6, p.tr, p.b, ic, p.v, false, iw, iw, iw⟩ else if p.fx = 5 ∨ p.fx = 7 then ⟨p.fx, p.tr, p.b, p.ig, p.v, p.ok, iw, iw, iw⟩ else qo p
theorem ayl {p : Pk} {ls : List Spn} {lm : List Mem} {lu : List Int} (hr : wv p) (hk : 1 ≤ p.fx ∧ p.fx ≤ 10) : (qd p ls lm lu && yb p (oa p) ls (om p ls) lm (ot p lm) lu (oo p lu)) = uy p ls lm lu := by
 have h1 := hr.tr.1
 have h2 := hr.b.1.1
 have core : (qd p ls lm lu && jx p (oa p)) = ((jx p (qo p) && (decide (p.fx = 3) || decide (0 < p.tr))) && sw p ls lm lu) := by
  obtain ⟨k, tr, b, ig, v, ok, sv, mv, iv⟩ := p
  simp only at hk h1 h2
  have hcase : k = 1 ∨ k = 2 ∨ k = 3 ∨ k = 4 ∨ k = 5 ∨ k = 6 ∨ k = 7 ∨ k = 8 ∨ k = 9 ∨ k = 10 := by omega
  rcases hcase with rfl | rfl | rfl | rfl | rfl | rfl | rfl | rfl | rfl | rfl
  ·simp [qd, sw, oa, qo, jx, aer]
   cases ux tr ls <;> by_cases ht : 0 < tr <;> by_cases hb : b = ic <;> by_cases hs : ig = ic <;> by_cases hv : v = 0 <;> cases ok <;> simp [ht, hb, hs, hv]
  ·simp [qd, sw, oa, qo, jx, aer]
   cases ux tr ls <;> by_cases ht : 0 < tr <;> by_cases hb : b = ic <;> by_cases hs : ig = ic <;> by_cases hv : v = 0 <;> cases ok <;> simp [ht, hb, hs, hv]
  ·simp [qd, sw, oa, qo, jx]
   cases afd lm <;> by_cases ht : tr = 0 <;> by_cases hb : b = ic <;> by_cases hs : ig = ic <;> by_cases hv : v = 0 <;> cases ok <;> simp [ht, hb, hs, hv]
  ·simp [qd, sw, oa, qo, jx, aoe]
   by_cases ht : 0 < tr <;> by_cases hb : 0 < b.n <;> by_cases hs : ig = ic <;> by_cases hv : v = 0 <;> cases ok <;> simp [ht, hb, hs, hv]
  ·simp [qd, sw, oa, qo, jx, aeo, awa]
   by_cases ht : tr = 0 <;> by_cases hb : b.n = 0 <;> by_cases hs : ig = ic <;> by_cases hv : v = 0 <;> cases ok <;> cases htl : mi v <;> simp [ht, hb, hs, hv, htl] <;> first | omega | (subst hv; simp [mi] at htl) | skip
  ·simp [qd, sw, oa, qo, jx, aoe]
   by_cases ht : 0 < tr <;> by_cases hb : 0 < b.n <;> by_cases hs : ig = ic <;> by_cases hv : v = 0 <;> cases ok <;> simp [ht, hb, hs, hv] <;> first | rfl | (simp [mi]; done) | skip
  ·simp [qd, sw, oa, qo, jx, aeo]
   by_cases ht : tr = 0 <;> by_cases hb : b.n = 0 <;> by_cases hs : ig = ic <;> by_cases hv : v = 0 <;> cases ok <;> simp [ht, hb, hs, hv] <;> first | omega | skip
  ·simp [qd, sw, oa, qo, jx, alx]
   by_cases ht : 0 < tr <;> by_cases hb : b = ic <;> by_cases hs : ig = ic <;> cases ok <;> simp [ht, hb, hs]
  ·simp [qd, sw, oa, qo, jx, afx]
   cases ux tr ls <;> by_cases ht : 0 < tr <;> by_cases hb : 0 < b.n <;> by_cases hs : ig = ic <;> by_cases hv : v = 0 <;> cases ok <;> simp [ht, hb, hs, hv]
  ·simp [qd, sw, oa, qo, jx, aif]
   cases wq 0 lu <;> by_cases ht : 0 < tr <;> by_cases hb : b = ic <;> by_cases hs : ig = ic <;> by_cases hv : v = 0 <;> cases ok <;> simp [ht, hb, hs, hv]
 unfold uy azn yb
 generalize decide (lm = ot p lm) = A
 generalize decide (lu = oo p lu) = B
 generalize ur ls (om p ls) = C
 cases A <;> cases B <;> cases C <;> simp <;> simpa using core
theorem th {p q q' : Pk} (h1 : q.fx = q'.fx) (h2 : q.tr = q'.tr) (h3 : q.b = q'.b) (h4 : q.ig = q'.ig) (h5 : q.v = q'.v) (h6 : q.ok = q'.ok) : jx p q = jx p q' := by
 unfold jx; rw [h1, h2, h3, h4, h5, h6]
theorem avu {w : World} {p : Pk} {ls : List Spn} {lm : List Mem} {lu : List Int} {t : Value} (ht : ThR w p ls lm lu t) (hk : 1 ≤ p.fx ∧ p.fx ≤ 10) (l1 : ls.length ≤ 1000000) (l2 : lm.length ≤ 1000000) (l3 : lu.length ≤ 1000000) {K : KV}
  (h : ∀ w' q, pu w' q (om p ls) (ot p lm) (oo p lu) → (∀ x, jx x q = jx x (oa p)) → Fr (fun _ => False) w w' → K (pkA q) w') : fg P F.ad [t] w K := by
 have e0 : ([] : List Spn).length ≤ 1000000 := by simp
 have e1 : ([] : List Mem).length ≤ 1000000 := by simp
 have e2 : ([] : List Int).length ≤ 1000000 := by simp
 cases ht with
 | qn v q hs =>
  have hS : om p ls = ls := by unfold om; rw [if_pos (by omega)]
  have hM : ot p lm = [] := by unfold ot; rw [if_neg (by omega)]
  have hU : oo p lu = [] := by unfold oo; rw [if_neg (by omega)]
  rw [hS, hM, hU] at h
  refine ajt hs l1 fun w' v' s f => h w' _ ⟨s, Sl.nil, Sl.nil, l1, e1, e2⟩ (fun x => th ?_ ?_ ?_ ?_ ?_ ?_) f
  all_goals rcases q with q | q <;> simp [oa, qo, q]
 | aep v q hs =>
  have hS : om p ls = [] := by unfold om; rw [if_neg (by omega)]
  have hM : ot p lm = lm := by unfold ot; rw [if_pos (by omega)]
  have hU : oo p lu = [] := by unfold oo; rw [if_neg (by omega)]
  rw [hS, hM, hU] at h
  refine asd hs l2 fun w' v' s f => h w' ⟨3, 0, ic, ic, 0, false, iw, v', iw⟩ ⟨Sl.nil, s, Sl.nil, e0, l2, e2⟩ (fun x => th ?_ ?_ ?_ ?_ ?_ ?_) f
  all_goals simp [oa, qo, q]
 | ask q =>
  have hS : om p ls = [] := by unfold om; rw [if_neg (by omega)]
  have hM : ot p lm = [] := by unfold ot; rw [if_neg (by omega)]
  have hU : oo p lu = [] := by unfold oo; rw [if_neg (by omega)]
  rw [hS, hM, hU] at h
  refine anw fun w' f => h w' _ ⟨Sl.nil, Sl.nil, Sl.nil, e0, e1, e2⟩ (fun x => th ?_ ?_ ?_ ?_ ?_ ?_) f
  all_goals rcases q with q | q <;> simp [oa, aya, q]
 | wk q =>
  have hS : om p ls = [] := by unfold om; rw [if_neg (by omega)]
  have hM : ot p lm = [] := by unfold ot; rw [if_neg (by omega)]
  have hU : oo p lu = [] := by unfold oo; rw [if_neg (by omega)]
  rw [hS, hM, hU] at h
  refine akf fun w' f => h w' _ ⟨Sl.nil, Sl.nil, Sl.nil, e0, e1, e2⟩ (fun x => th ?_ ?_ ?_ ?_ ?_ ?_) f
  all_goals rcases q with q | q <;> simp [oa, q]
 | sr q =>
  have hS : om p ls = [] := by unfold om; rw [if_neg (by omega)]
  have hM : ot p lm = [] := by unfold ot; rw [if_neg (by omega)]
  have hU : oo p lu = [] := by unfold oo; rw [if_neg (by omega)]
  rw [hS, hM, hU] at h
  refine alr fun w' f => h w' _ ⟨Sl.nil, Sl.nil, Sl.nil, e0, e1, e2⟩ (fun x => th ?_ ?_ ?_ ?_ ?_ ?_) f
  all_goals simp [oa, qo, q]
 | ts v q hs =>
  have hS : om p ls = ls := by unfold om; rw [if_pos (by omega)]
  have hM : ot p lm = [] := by unfold ot; rw [if_neg (by omega)]
  have hU : oo p lu = [] := by unfold oo; rw [if_neg (by omega)]
  rw [hS, hM, hU] at h
  refine aie hs l1 fun w' v' s f => h w' _ ⟨s, Sl.nil, Sl.nil, l1, e1, e2⟩ (fun x => th ?_ ?_ ?_ ?_ ?_ ?_) f
  all_goals simp [oa, qo, q]
 | xe v q hs =>
  have hS : om p ls = [] := by unfold om; rw [if_neg (by omega)]
  have hM : ot p lm = [] := by unfold ot; rw [if_neg (by omega)]
  have hU : oo p lu = lu := by unfold oo; rw [if_pos (by omega)]
  rw [hS, hM, hU] at h
  refine akl hs l3 fun w' v' s f => h w' _ ⟨Sl.nil, Sl.nil, s, e0, e1, l3⟩ (fun x => th ?_ ?_ ?_ ?_ ?_ ?_) f
  all_goals simp [oa, qo, q]
 | none q => exact absurd hk q
theorem awk {p : Pk} {ls : List Spn} {lm : List Mem} {lu : List Int} (h : ¬ (1 ≤ p.fx ∧ p.fx ≤ 10)) : uy p ls lm lu = false := by
 unfold uy sw
 rw [if_neg (by omega), if_neg (by omega), if_neg (by omega), if_neg (by omega), if_neg (by omega), if_neg (by omega), if_neg (by omega), if_neg (by omega), if_neg (by omega), Bool.and_false]
theorem amz {w : World} {p : Pk} {ls : List Spn} {lm : List Mem} {lu : List Int} (hp : pu w p ls lm lu) (hr : wv p) {K : KV} (h : ∀ w', Fr (fun _ => False) w w' → K (.int .i64 (aof p ls lm lu)) w') : fg P F.ds [pkA p] w K := by
 rw [M.dr.fcall]
 apply M.dr.calls
 unfold M.dr
 refine St.tz (St.ji w) fun pb w1 S1 => ?_
 have S1' : St w w1 (fu pb (pkC p).toArray T.b :: []) := S1
 have pl := fun K => yw S1' K
 simp [pl]
 refine alf (hp.fr S1.fr) fun w2 t ht f2 => ?_
 have S2 := S1'.iq f2
 have S3 := S2.iq ((Fr.refl _ w2).dr 1)
 unfold aof at h
 by_cases hk : 1 ≤ p.fx ∧ p.fx ≤ 10
 case neg =>
  rw [ht.bdy hk]
  rw [awk hk] at h
  simp [bba]
  exact h _ S3.fr
 rw [← ayl hr hk] at h
 simp [ht.eqn hk]
 have ht3 := ht.fr ((Fr.refl _ w2).dr 1)
 refine bav ht3 hk hp.ls hp.lm hp.lu fun w4 f4 => ?_
 have S4 := S3.iq f4
 have pl4 := fun K => yw S4 K
 cases hb : qd p ls lm lu with
 | false =>
  rw [hb] at h
  simp
  exact h _ S4.fr
 | true =>
 rw [hb, Bool.true_and] at h
 simp [pl4]
 refine avu (ht3.fr f4) hk hp.ls hp.lm hp.lu fun w5 q hq hf f5 => ?_
 have S5 := S4.iq f5
 have pl5 := fun K => yw S5 K
 simp [pl5]
 refine awq (hp.fr S5.fr) hq fun w6 f6 => ?_
 have S6 := S5.iq f6
 have fin := h w6 S6.fr
 have e : yb p q ls (om p ls) lm (ot p lm) lu (oo p lu) = yb p (oa p) ls (om p ls) lm (ot p lm) lu (oo p lu) := by unfold yb; rw [hf p]
 rw [e]
 generalize yb p (oa p) ls (om p ls) lm (ot p lm) lu (oo p lu) = bb at *
 cases bb with
 | true => simp at fin ⊢; exact fin
 | false => simp at fin ⊢; exact fin
theorem axd {w : World} {p : Pk} {ls : List Spn} {lm : List Mem} {lu : List Int} (hp : pu w p ls lm lu) (hr : wv p) {K : KV} (h1 : uy p ls lm lu = true → ∀ w' t, ThR w' p ls lm lu t → Fr (fun _ => False) w w' → K (.tuple #[t, .int .i64 0]) w') (h0 : uy p ls lm lu = false → ∀ w', Fr (fun _ => False) w w' → K (.tuple #[.nilIface, .int .i64 6]) w') : fg P F.ea [pkA p] w K := by
 rw [M.eg.fcall]
 apply M.eg.calls
 unfold M.eg
 refine St.tz (St.ji w) fun pb w1 S1 => ?_
 have S1' : St w w1 (fu pb (pkC p).toArray T.b :: []) := S1
 have pl := fun K => yw S1' K
 simp [pl]
 refine amz (hp.fr S1.fr) hr fun w2 f2 => ?_
 have S2 := S1'.iq f2
 unfold aof
 cases he : uy p ls lm lu with
 | false =>
  simp
  exact h0 he w2 S2.fr
 | true =>
  simp
  have pl2 := fun K => yw S2 K
  simp [pl2]
  refine alf (hp.fr S2.fr) fun w3 t ht f3 => ?_
  exact h1 he w3 t ht (S2.iq f3).fr
structure ahv (ls : List Spn) (lm : List Mem) (lu : List Int) : Prop where
 s : ls.length ≤ 40
 m : lm.length ≤ 100
 u : lu.length ≤ 100
 nm : ∀ x ∈ ls, x.name.size ≤ 200 ∧ x.ly.size ≤ 200
theorem aai.arz {w : World} {p : Pk} {ls : List Spn} {lm : List Mem} {lu : List Int} (h : aai w p ls lm lu) (l : ahv ls lm lu) : pu w p ls lm lu := h.rd (by have := l.s; omega) (by have := l.m; omega) (by have := l.u; omega)
def LiI (W : World) (pb : Nat) (p : Pk) (ls : List Spn) : KL := fun x w1 => ∃ (u : Value) (i : Nat), x = [u, .int .i64 (i : Nat)] ∧ i ≤ ls.length ∧ (∀ j (h : j < ls.length), j < i → ls[j].name.size ≤ 200 ∧ ls[j].ly.size ≤ 200) ∧ St W w1 (fu pb (pkC p).toArray T.b :: [])
theorem atv {w : World} {p : Pk} {ls : List Spn} {lm : List Mem} {lu : List Int} (hp : aai w p ls lm lu) {K : KV} (h : ∀ bb w', (bb = true → ahv ls lm lu) → Fr (fun _ => False) w w' → K (.bool bb) w') : fg P F.cs [pkA p] w K := by
 rw [M.bf.fcall]
 apply M.bf.calls
 unfold M.bf
 refine St.tz (St.ji w) fun pb w1 S1 => ?_
 have S1' : St w w1 (fu pb (pkC p).toArray T.b :: []) := S1
 obtain ⟨_, _, _, _, _, _, c8, c9, c10, _⟩ := lq S1'
 have l1 : ∀ w' K, biT P .len #[T.t] T.a [false] [p.sv] w' K = K (.int .i64 ls.length) w' := fun w' K => hp.s.ij (by kernel_rfl) [false]
 have l2 : ∀ w' K, biT P .len #[T.v] T.a [false] [p.mv] w' K = K (.int .i64 lm.length) w' := fun w' K => hp.m.ij (by kernel_rfl) [false]
 have l3 : ∀ w' K, biT P .len #[T.g] T.a [false] [p.iv] w' K = K (.int .i64 lu.length) w' := fun w' K => hp.u.ij (by kernel_rfl) [false]
 have no : ∀ w', Fr (fun _ => False) w w' → K (.bool false) w' := fun w' f => h false w' (fun h => by cases h) f
 by_cases h1 : 40 < ls.length
 ·have h1' : (40 : Int) < ls.length := by omega
  simp [c8, l1, h1']
  exact no _ S1.fr
 have h1' : ¬ (40 : Int) < ls.length := by omega
 by_cases h2 : 100 < lm.length
 ·have h2' : (100 : Int) < lm.length := by omega
  simp [c8, l1, h1', c9, l2, h2']
  exact no _ S1.fr
 have h2' : ¬ (100 : Int) < lm.length := by omega
 by_cases h3 : 100 < lu.length
 ·have h3' : (100 : Int) < lu.length := by omega
  simp [c8, l1, h1', c9, l2, h2', c10, l3, h3']
  exact no _ S1.fr
 have h3' : ¬ (100 : Int) < lu.length := by omega
 simp [c8, l1, h1', c9, l2, h2', c10, l3, h3']
 refine ⟨LiI w pb p ls, fun x _ => ls.length - ms x 1, ⟨_, 0, rfl, Nat.zero_le _, fun j _ h => by omega, S1'⟩, ?_⟩
 rintro x w2 ⟨u, i, rfl, hi, hpre, S2⟩
 unfold M.bf.j2
 obtain ⟨_, _, _, _, _, _, c8, _⟩ := lq S2
 by_cases hil : i < ls.length
 ·have hili : (i : Int) < (ls.length : Int) := by omega
  have hwi : IntKind.i64.wrap ((i : Int) + 1) = ((i + 1 : Nat) : Int) := by rw [fm (by omega) (by omega)]; rfl
  obtain ⟨b, o, cap, hv, _, _, k1⟩ := (hp.fr S2.fr).s.at hil
  have hia : ∀ w' K, iaT P T.t p.sv (.int .i64 (i : Nat)) w' K = K (.pointer (some ⟨b, o + i * 8, none⟩)) w' := fun w' K => by rw [hv]; simp [hil]
  have n6 := k1 6 _ rfl
  have n5 := k1 5 _ rfl
  have lstr : ∀ (s : ByteArray) w' K, biT P .len #[T.al] T.a [false] [.string s] w' K = K (.int .i64 s.size) w' := fun s w' K => aqs (by kernel_rfl) [false] s w' K
  simp [c8, l1, hil]
  unfold M.bf.j3
  by_cases q1 : 200 < ls[i].name.size
  ·have q1' : (200 : Int) < (ls[i].name.size : Int) := by omega
   simp [c8, hia, n6, lstr, q1']
   exact no _ S2.fr
  have q1' : ¬ (200 : Int) < (ls[i].name.size : Int) := by omega
  by_cases q2 : 200 < ls[i].ly.size
  ·have q2' : (200 : Int) < (ls[i].ly.size : Int) := by omega
   simp [c8, hia, n6, n5, lstr, q1', q2']
   exact no _ S2.fr
  have q2' : ¬ (200 : Int) < (ls[i].ly.size : Int) := by omega
  simp [c8, hia, n6, n5, lstr, q1', q2', hwi]
  refine ⟨⟨_, i + 1, rfl, by omega, fun j hj hlt => ?_, S2⟩, by simp [ms, gv]; omega⟩
  by_cases hji : j = i
  ·subst hji; omega
  ·exact hpre j hj (by omega)
 ·have hili : ¬ (i : Int) < (ls.length : Int) := by omega
  simp [c8, l1, hil]
  refine h true _ (fun _ => ⟨by omega, by omega, by omega, fun x hx => ?_⟩) S2.fr
  obtain ⟨j, hj, rfl⟩ := List.getElem_of_mem hx
  exact hpre j hj (by omega)
section
variable {i : Nat} {g : Nat → Rg} {val gj : Nat → Int} {prop : Nat → Prop} {tk : List (Nat × Nat)}
end
set_option maxRecDepth 100000
open Go.Eng Go.Proofs.YtfnhoaemapheoaaGreat.Sint
structure RI (s f : Int) (L : Lg) (F : Nat) (D : Dk) (m : im) : Prop where
 uk : mj s f L F D
 fq : td (ft L.fk)
 set : sq (ft L.fk) F m
 le : F ≤ (ft L.fk).length
section
variable {s f : Int} {L : Lg} {F : Nat} {D : Dk} {m : im}
theorem RI.arh (h : RI s f L F D m) : jg (ft L.fk) = m := abk h.set h.le
theorem RI.ok (h : RI s f L F D m) : ∀ p ∈ m, okE p := by rw [← h.arh]; exact bbf h.fq
theorem RI.asc (h : RI s f L F D m) : Asc m := by rw [← h.arh]; exact tg _
theorem axi (h : RI s f L F D m) {L' : Lg} {D' : Dk} {i : Nat} (g : mj s f L' F D') (e : ft L'.fk = ft L.fk ++ (jl m).take i) : RI s f L' F D' m :=
 ⟨g, by rw [e]; exact adm h.fq h.ok i, by rw [e]; exact aec h.set h.le h.ok i, by rw [e, List.length_append]; have := h.le; omega⟩
end
set_option maxRecDepth 100000
open Go.Eng Go.Proofs.YtfnhoaemapheoaaGreat.Sint
theorem bfd (a b c d e : Int) (w : World) (K : KV) : iy P T.ah #[(0, .int .u64 a), (1, .int .u64 b), (2, .int .u64 c), (3, .int .u64 d), (4, .int .u64 e)] w K = K (.agg #[.int .u64 a, .int .u64 b, .int .u64 c, .int .u64 d, .int .u64 e]) w := .trans (by kernel_rfl) rfl
theorem bdu (a b c d e : Value) (w : World) (K : KV) : ixT P T.ah (.agg #[a, b, c, d, e]) (.int .i64 0) w K = K a w := .trans (by kernel_rfl) rfl
theorem bdt (a b c d e : Value) (w : World) (K : KV) : ixT P T.ah (.agg #[a, b, c, d, e]) (.int .i64 1) w K = K b w := .trans (by kernel_rfl) rfl
theorem bek (a b c d e : Value) (w : World) (K : KV) : ixT P T.ah (.agg #[a, b, c, d, e]) (.int .i64 2) w K = K c w := .trans (by kernel_rfl) rfl
theorem beg (a b c d e : Value) (w : World) (K : KV) : ixT P T.ah (.agg #[a, b, c, d, e]) (.int .i64 3) w K = K d w := .trans (by kernel_rfl) rfl
theorem bem (a b c d e : Value) (w : World) (K : KV) : ixT P T.ah (.agg #[a, b, c, d, e]) (.int .i64 4) w K = K e w := .trans (by kernel_rfl) rfl
theorem bab (b : Nat) (w : World) (K : KV) : iaT P T.ah (.pointer (some ⟨b, 0, none⟩)) (.int .i64 0) w K = K (.pointer (some ⟨b, 0, none⟩)) w := .trans (by kernel_rfl) rfl
theorem baa (b : Nat) (w : World) (K : KV) : iaT P T.ah (.pointer (some ⟨b, 0, none⟩)) (.int .i64 1) w K = K (.pointer (some ⟨b, 1, none⟩)) w := .trans (by kernel_rfl) rfl
theorem azv (b : Nat) (w : World) (K : KV) : iaT P T.ah (.pointer (some ⟨b, 0, none⟩)) (.int .i64 2) w K = K (.pointer (some ⟨b, 2, none⟩)) w := .trans (by kernel_rfl) rfl
theorem azy (b : Nat) (w : World) (K : KV) : iaT P T.ah (.pointer (some ⟨b, 0, none⟩)) (.int .i64 3) w K = K (.pointer (some ⟨b, 3, none⟩)) w := .trans (by kernel_rfl) rfl
theorem azr (b : Nat) (w : World) (K : KV) : iaT P T.ah (.pointer (some ⟨b, 0, none⟩)) (.int .i64 4) w K = K (.pointer (some ⟨b, 4, none⟩)) w := .trans (by kernel_rfl) rfl
theorem adg : ∀ l : List Int, (l.flatMap ke).length = l.length * 8
 | [] => rfl
 | x :: l => by rw [List.flatMap_cons, List.length_append, pf, adg l, List.length_cons]; omega
def abt (k : Int) (r : Rg) : List Int := [k, r.p.n, r.p.gj, r.t.n, r.t.gj]
def ShI (w0 : World) (k : Int) (r : Rg) (R : List Asn) : KL := fun x w1 => ∃ (u v : Value) (i : Nat), x = [u, v, .int .i64 (i : Nat)] ∧ i ≤ 5 ∧ St w0 w1 (jh v (((abt k r).take i).flatMap ke) :: R)
section
variable {w0 w : World} {R : List Asn}
theorem bdc (a b c d e : Int) {i : Nat} (hi : i < 5) (w : World) (K : KV) : ixT P T.ah (.agg #[.int .u64 a, .int .u64 b, .int .u64 c, .int .u64 d, .int .u64 e]) (.int .i64 (i : Nat)) w K = K (.int .u64 ([a, b, c, d, e][i]'hi)) w := by
 match i, hi with
 | 0, _ => exact bdu _ _ _ _ _ _ _
 | 1, _ => exact bdt _ _ _ _ _ _ _
 | 2, _ => exact bek _ _ _ _ _ _ _
 | 3, _ => exact beg _ _ _ _ _ _ _
 | 4, _ => exact bem _ _ _ _ _ _ _
theorem bdl (b : Nat) {i : Nat} (hi : i < 5) (w : World) (K : KV) : iaT P T.ah (.pointer (some ⟨b, 0, none⟩)) (.int .i64 (i : Nat)) w K = K (.pointer (some ⟨b, i, none⟩)) w := by
 match i, hi with
 | 0, _ => exact bab _ _ _
 | 1, _ => exact baa _ _ _
 | 2, _ => exact azv _ _ _
 | 3, _ => exact azy _ _ _
 | 4, _ => exact azr _ _ _
theorem aqh (S : St w0 w R) (k : Int) {r : Rg} (hv : 0 ≤ r.v ∧ r.v ≤ 3) {K : KV} (h : ∀ w' v', St w0 w' (jh v' (kz k r) :: R) → K v' w') : fg P F.cw [.int .u64 k, ky r] w K := by
 rw [M.ch.fcall]
 apply M.ch.calls
 unfold M.ch
 refine St.tz S fun b w1 S1 => ?_
 have S1' : St w0 w1 (fu b (rgC r) T.e :: R) := S1
 have c0 : fo w1 b 0 = some (.int .u64 r.p.n) := by rw [S1'.cell]; rfl
 have c1 : fo w1 b 1 = some (.int .u64 r.p.gj) := by rw [S1'.cell]; rfl
 have c2 : fo w1 b 2 = some (.int .u64 r.t.n) := by rw [S1'.cell]; rfl
 have c3 : fo w1 b 3 = some (.int .u64 r.t.gj) := by rw [S1'.cell]; rfl
 simp [c0, c1, c2, c3, bfd]
 refine ⟨ShI w0 k r (fu b (rgC r) T.e :: R), fun x _ => 5 - ms x 2, ⟨_, _, 0, rfl, Nat.zero_le _, qi S1'⟩, ?_⟩
 rintro x w2 ⟨u, v, i, rfl, hi, S2⟩
 by_cases hil : i < 5
 ·have hili : (i : Int) < 5 := by omega
  have hwi : IntKind.i64.wrap ((i : Int) + 1) = ((i + 1 : Nat) : Int) := by rw [fm (by omega) (by omega)]; rfl
  simp [hili]
  unfold M.ch.j2
  simp [bdc _ _ _ _ _ hil]
  have hlen : (((abt k r).take i).flatMap ke).length ≤ 100000000 := by
   rw [adg, List.length_take]
   omega
  refine ami S2 hlen _ fun w3 v3 S3 => ?_
  simp [hwi]
  refine ⟨⟨_, _, i + 1, rfl, by omega, ?_⟩, by simp [ms, gv]; omega⟩
  have e : (((abt k r).take (i + 1)).flatMap ke) = (((abt k r).take i).flatMap ke) ++ ke ((abt k r)[i]'hil) := by
   rw [List.take_add_one, List.getElem?_eq_getElem (show i < (abt k r).length from hil), List.flatMap_append]
   show _ ++ ([_] : List Int).flatMap ke = _
   simp only [List.flatMap_cons, List.flatMap_nil, List.append_nil]
   rfl
  rw [e]
  exact S3
 ·have hi5 : i = 5 := by omega
  subst hi5
  simp
  unfold M.ch.j0
  have cv : fo w2 b 4 = some (.int .i64 r.v) := by rw [S2.swap.cell]; rfl
  simp [cv]
  rw [kr (ks := .i64) (kd := .u8) (by kernel_rfl) (by kernel_rfl)]
  have hw8 : IntKind.u8.wrap r.v = r.v := by
   obtain ⟨n, hn⟩ : ∃ n : Nat, r.v = n := ⟨r.v.toNat, by omega⟩
   rw [hn]; exact azp (by omega)
  rw [hw8]
  simp
  have S3 := ayf S2 r.v
  refine Go.Eng.wg et.d ip vx S3.swap (l2 := [r.v]) (S3.row ip) ?_ (by decide) fun w4 v4 S4 => ?_
  ·have : (((abt k r).take 5).flatMap ke).length = 40 := by
    rw [adg]
    rfl
   rw [this]; simp
  ·refine h w4 v4 ?_
   have e : ((abt k r).take 5).flatMap ke ++ [r.v] = kz k r := by
    show ((abt k r).flatMap ke) ++ [r.v] = _
    unfold abt kz
    simp only [List.flatMap_cons, List.flatMap_nil, List.append_nil, List.append_assoc]
   rw [e] at S4
   exact (S4.swap.drop).swap.drop
end
def agn (b : List Int) (i : Nat) : Array Value := ((List.range 5).map fun j => if j < i then Value.int .u64 (lw (b.drop (8 * j))) else .int .u64 0).toArray
theorem axy (b : List Int) {i : Nat} (hi : i < 5) : (agn b i).setIfInBounds i (.int .u64 (lw (b.drop (8 * i)))) = agn b (i + 1) := by
 match i, hi with
 | 0, _ => rfl
 | 1, _ => rfl
 | 2, _ => rfl
 | 3, _ => rfl
 | 4, _ => rfl
def RdI (W : World) (ab rb : Nat) (b : List Int) : KL := fun x w1 => ∃ (u : Value) (i : Nat), x = [u, .int .i64 (i : Nat)] ∧ i ≤ 5 ∧ St W w1 (fu ab (agn b i) T.ah :: fu rb (rgC rg0) T.e :: [])
theorem axt {w : World} {v : Value} {b : List Int} (hs : SlB w v b) {k : Int} {r : Rg} (hr : afn b = some (k, r)) {K : KV} (h : ∀ w', Fr (fun _ => False) w w' → K (.tuple #[.int .u64 k, ky r, .bool true]) w') : fg P F.du [v] w K := by
 unfold afn at hr
 by_cases hl : b.length = 41
 case neg => rw [if_pos hl] at hr; cases hr
 rw [if_neg (by simp [hl])] at hr
 split at hr
 case isFalse => cases hr
 rename_i hc
 obtain ⟨hk0, hrt⟩ := hc
 simp only [Option.some.injEq, Prod.mk.injEq] at hr
 obtain ⟨ek, er⟩ := hr
 rw [er] at hrt
 have hln : ∀ w' K, biT P .len #[T.d] T.a [false] [v] w' K = K (.int .i64 (41 : Nat)) w' := fun w' K => by rw [hs.ij (by kernel_rfl) [false], hl]
 rw [M.bl.fcall]
 apply M.bl.calls
 unfold M.bl
 simp
 have S1 := uz (St.ji w) T.e
 generalize w.heap.size = rb at *
 generalize w.alloc _ = w1 at *
 simp [hln]
 unfold M.bl.j0
 simp
 have S2 : St w (w1.alloc (.cells #[.int .u64 0, .int .u64 0, .int .u64 0, .int .u64 0, .int .u64 0] T.ah)) (fu w1.heap.size (agn b 0) T.ah :: _) := S1.mkB (agn b 0) T.ah
 generalize w1.heap.size = ab at *
 generalize w1.alloc _ = w2 at *
 refine ⟨RdI w ab rb b, fun x _ => 5 - ms x 1, ⟨_, 0, rfl, Nat.zero_le _, S2⟩, ?_⟩
 rintro x w3 ⟨u, i, rfl, hi, S3⟩
 by_cases hil : i < 5
 ·have hili : (i : Int) < 5 := by omega
  have hwi : IntKind.i64.wrap ((i : Int) + 1) = ((i + 1 : Nat) : Int) := by rw [fm (by omega) (by omega)]; rfl
  have hw8 : IntKind.i64.wrap (8 * (i : Int)) = ((8 * i : Nat) : Int) := by rw [fm (by omega) (by omega)]; omega
  simp [hili]
  unfold M.bl.j3
  have hs3 : SlB w3 v b := hs.fr S3.fr fun _ _ _ h => h
  obtain ⟨v', s', _, hsub⟩ := hs3.sub (P := P) (t := T.d) (lo := some (.int .i64 ((8 * i : Nat) : Int))) (hi := none) (i := 8 * i) (j := b.length) (by kernel_rfl) (by kernel_rfl) (.inr ⟨_, rfl⟩) (.inl ⟨rfl, rfl⟩) (by omega) (Nat.le_refl _)
  have e4 : (List.take (b.length - 8 * i) (List.drop (8 * i) b)) = b.drop (8 * i) := List.take_of_length_le (by simp)
  rw [e4] at s'
  simp [hw8]
  rw [show (8 * (i : Int)) = ((8 * i : Nat) : Int) by omega, hsub]
  refine aum s' (by simp; omega) ?_
  simp [bdl ab hil]
  refine S3.aki rfl (by simp [agn]; omega) fun w4 S4 => ?_
  rw [axy b hil] at S4
  simp [hwi]
  exact ⟨⟨_, i + 1, rfl, by omega, S4⟩, by simp [ms, gv]; omega⟩
 ·have hi5 : i = 5 := by omega
  subst hi5
  simp
  unfold M.bl.j1
  have S3d := S3.iq ((Fr.refl _ w3).dr 1)
  have c0 : fo w3 ab 0 = some (.int .u64 (lw b)) := by rw [S3.cell]; rfl
  have c1 : fo w3 ab 1 = some (.int .u64 (lw (b.drop 8))) := by rw [S3.cell]; rfl
  have c2 : fo w3 ab 2 = some (.int .u64 (lw (b.drop 16))) := by rw [S3.cell]; rfl
  have c3 : fo w3 ab 3 = some (.int .u64 (lw (b.drop 24))) := by rw [S3.cell]; rfl
  have c4 : fo w3 ab 4 = some (.int .u64 (lw (b.drop 32))) := by rw [S3.cell]; rfl
  obtain ⟨vb, vo, vc, hv, hvb, _, hcv⟩ := hs.at (i := 40) (by omega)
  have cb0 := hcv 0 _ rfl
  simp only [Nat.mul_one, Nat.add_zero] at cb0
  have eg : b[40]'(by omega) = r.v := by
   have := congrArg Rg.v er
   simp only at this
   rw [List.getD_eq_getElem?_getD, List.getElem?_eq_getElem (by omega)] at this
   exact this
  rw [eg] at cb0
  have cbW : ∀ {w' : World}, Fr (fun _ => False) w w' → fo w' vb (vo + 40) = some (.int .u8 r.v) := fun f => by rw [un (f.jd vb hvb fun h => h)]; exact cb0
  have cb := cbW S3.fr
  have hiv : ∀ w' K, iaT P T.d v (.int .i64 40) w' K = K (.pointer (some ⟨vb, vo + 40, none⟩)) w' := fun w' K => by rw [hv]; simp [hl]
  have hvr : 0 ≤ r.v ∧ r.v ≤ 3 := by
   unfold Rg.right at hrt
   split at hrt
   ·simp at hrt; omega
   ·simp [mi] at hrt; omega
  have hcvt : ∀ w' K, cvT P T.ap T.p (.int .u8 r.v) w' K = K (.int .i64 r.v) w' := fun w' K => by
   rw [kr (ks := .u8) (kd := .i64) (by kernel_rfl) (by kernel_rfl), fm (by omega) (by omega)]
  simp [bab, baa, azv, azy, azr, c0, c1, c2, c3, c4, hiv, cb, hcvt]
  have er1 : r.p.n = lw (b.drop 8) := by rw [← er]
  have er2 : r.p.gj = lw (b.drop 16) := by rw [← er]
  have er3 : r.t.n = lw (b.drop 24) := by rw [← er]
  have er4 : r.t.gj = lw (b.drop 32) := by rw [← er]
  rw [← er1, ← er2, ← er3, ← er4]
  rw [← er1] at c1
  rw [← er2] at c2
  rw [← er3] at c3
  rw [← er4] at c4
  rw [ek] at c0
  have S4 : St w ((dr w3 1).alloc (.cells #[.int .u64 0, .int .u64 0, .int .u64 0, .int .u64 0, .int .i64 0] T.e)) (fu (dr w3 1).heap.size (rgC rg0) T.e :: _) := uz S3d T.e
  rw [show (dr w3 1).heap.size = w3.heap.size from rfl] at S4
  generalize w3.heap.size = qb at *
  generalize (dr w3 1).alloc _ = w4 at *
  have cb4 := cbW S4.fr
  have arrC : ∀ {w' : World} {L : List Asn}, St w w' (fu ab (agn b 5) T.ah :: L) → fo w' ab 0 = some (.int .u64 k) ∧ fo w' ab 1 = some (.int .u64 r.p.n) ∧ fo w' ab 2 = some (.int .u64 r.p.gj) ∧ fo w' ab 3 = some (.int .u64 r.t.n) ∧ fo w' ab 4 = some (.int .u64 r.t.gj) := fun {w' L} S' => by
   have e0 : fo w' ab 0 = some (.int .u64 (lw b)) := by rw [S'.cell]; rfl
   have e1 : fo w' ab 1 = some (.int .u64 (lw (b.drop 8))) := by rw [S'.cell]; rfl
   have e2 : fo w' ab 2 = some (.int .u64 (lw (b.drop 16))) := by rw [S'.cell]; rfl
   have e3 : fo w' ab 3 = some (.int .u64 (lw (b.drop 24))) := by rw [S'.cell]; rfl
   have e4 : fo w' ab 4 = some (.int .u64 (lw (b.drop 32))) := by rw [S'.cell]; rfl
   rw [ek] at e0
   rw [← er1] at e1
   rw [← er2] at e2
   rw [← er3] at e3
   rw [← er4] at e4
   exact ⟨e0, e1, e2, e3, e4⟩
  obtain ⟨d0, d1, d2, d3, d4⟩ := arrC S4.swap
  simp [cb4, d1, d2, d3, d4]
  refine rq (r' := r) S4 fun w5 S5 => ?_
  have S5d := S5.iq ((Fr.refl _ w5).dr 1)
  obtain ⟨e0, _⟩ := arrC S5d.swap
  simp only [pg] at e0
  obtain ⟨_, _, _, rl5⟩ := jc S5d
  have hkp : 0 < k := by omega
  simp [e0, rl5, hkp]
  refine aub r fun w6 f6 => ?_
  have S6 := S5d.iq f6
  obtain ⟨g0, _⟩ := arrC S6.swap
  obtain ⟨_, _, _, rl6⟩ := jc S6
  rw [hrt]
  simp [g0, rl6]
  unfold ky
  simp
  refine rq (r' := r) S6.up2 fun w7 S7 => ?_
  obtain ⟨_, _, _, rl7⟩ := jc S7
  rw [zn, rl7]
  exact ⟨rfl, h w7 S7.fr⟩
end Go.Proofs.YtfnhoaemapheoaaGreat
set_option maxRecDepth 100000
namespace Go.Proofs.YtfnhoaemapheoaaGreat.KeyR
open Go.Eng Go.Sort Go.Proofs.YtfnhoaemapheoaaGreat.Suint64
def KI (w W : World) (U : Nat → Prop) (r : Nat) (m : MP) (J : List Int → Asn) : KL := fun x w1 => ∃ (done : List Int) (U1 : Nat → Prop), x.length = 1 ∧ xb w1 W.heap.size r .u64 m done ∧ (J done.reverse).ok w1 U1 ∧ (∀ b, U1 b → w.heap.size ≤ b ∧ b < w1.heap.size ∧ b ≠ W.heap.size) ∧ Fr (fun b => w.heap.size ≤ b) W w1
theorem aap {w : World} {it r : Nat} {k : IntKind} {m : MP} {done : List Int} (h : xb w it r k m done) : done.Nodup ∧ ∀ x ∈ done, x ∈ ir m := by
 obtain ⟨es, clk, since, c0, ig, _, _, _, _, _, _, _, _, _, h1, h2⟩ := h
 exact ⟨h1, h2⟩
theorem agw {w : World} {r Bm : Nat} {m : MP} {e : TypeId} (hm : nn w r .u64 m) (hn : (ir m).Nodup) (hB : w.heap[Bm]? = some (.cells #[.map (some r)] e (0, 0))) (hl : m.length < 60000) :
  agy P F.a [.pointer (some ⟨Bm, 0, none⟩)] aas (fun xs => xs.Perm (ir m)) 60000 w := by
 intro l J W U K hf hJ hU hround hend
 apply M.s.calls
 unfold M.s
 have hBm : W.heap[Bm]? = some (.cells #[.map (some r)] e (0, 0)) := hf.heap hB fun h => h
 have c0 := fp hBm 0
 simp only [List.size_toArray, List.getElem?_toArray, List.getElem?_cons_zero] at c0
 have hm' : nn W r .u64 m := hm.xk (hf.jd r hm.lt fun h => h)
 have hrw := hm.lt
 simp [c0]
 refine auq mt.m hm' fun w1 hi f1 => ?_
 have hWs := hf.size
 have hWlt := (hi.lt).1
 refine ⟨KI w W U r m J, fun _ w1 => tq w1 W.heap.size m.length, ⟨[], U, rfl, hi, (J []).jd hJ f1 fun _ _ h => h, fun b hb => ?_, f1.mono fun _ _ h => h.elim⟩, ?_⟩
 ·have := hU b hb
  have := f1.size
  exact ⟨by omega, by omega, by omega⟩
 rintro x w2 ⟨done, U1, hx1, hi2, hJ2, hU2, f2⟩
 unfold M.s.j0
 refine awh hi2 hn T.be (fun hall => ?_) fun y v w3 hy hyd hc3 f3 hlt => ?_
 ·have e0 : ∀ w K, exT P (.tuple #[.bool false]) 0 w K = K (.bool false) w := fun _ _ => rfl
  simp [e0]
  obtain ⟨h1, h2⟩ := aap hi2
  refine hend _ w2 done.reverse U1 ?_ hJ2 f2
  refine (List.reverse_perm done).trans ?_
  refine (List.perm_ext_iff_of_nodup h1 hn).2 fun z => ⟨h2 z, fun hz => ?_⟩
  obtain ⟨p, hp, rfl⟩ := List.mem_map.1 hz
  exact hall p hp
 ·simp
  rw [avn hc3]
  simp
  have hnit : ∀ b, U1 b → ¬ b = W.heap.size := fun b hb => (hU2 b hb).2.2
  have hJ3 := (J done.reverse).jd hJ2 f3 hnit
  have hlen : done.length < m.length := by
   obtain ⟨h1, h2⟩ := aap hi2
   have := sm (l := y :: done) (l' := ir m) (List.nodup_cons.2 ⟨hyd, h1⟩) fun z hz => by
    rcases List.mem_cons.1 hz with rfl | hz
    ·exact List.mem_map_of_mem hy
    ·exact h2 z hz
   simp only [ir, List.length_map, List.length_cons] at this
   omega
  have hs3 := f3.size
  refine hround done.reverse y w3 U1 _ hJ3 (fun b hb => ⟨(hU2 b hb).1, by have := (hU2 b hb).2.1; omega⟩) (by simp; omega) fun w4 U4 hJ4 hU4 f4 => ?_
  simp
  have hit : ¬ U1 W.heap.size := fun h => hnit _ h rfl
  have hr1 : ¬ U1 r := fun h => by have := (hU2 r h).1; omega
  have hi3 : xb w3 W.heap.size r .u64 m (y :: done) := hc3.1
  have hi4 := hi3.jd (f4.jd _ hi3.lt.1 hit) (f4.jd _ hi3.lt.2 hr1)
  refine ⟨⟨y :: done, U4, rfl, hi4, by simpa using hJ4, fun b hb => ?_, ?_⟩, ?_⟩
  ·rcases hU4 b hb with h | h
   ·have := hU2 b h
    have := f4.size
    exact ⟨by omega, by omega, by omega⟩
   ·have := hi3.lt.1
    have := f2.size
    exact ⟨by omega, by omega, by omega⟩
  ·refine (f2.kj f3 fun b hb he => by omega).kj f4 fun b hb he => (hU2 b he).1
  ·have : tq w4 W.heap.size m.length = tq w3 W.heap.size m.length := by
    unfold tq
    rw [f4.jd _ hi3.lt.1 hit]
   rw [this]; exact hlt
theorem ajk {w : World} {r : Nat} {m : MP} (hm : nn w r .u64 m) (hn : (ir m).Nodup) (hl : m.length < 60000) {K : KV}
  (h : ∀ w' v, OwN w' w.heap.size v (nc (ir m)) → Fr (fun _ => False) w w' → K v w') :
  fg P F.e [.map (some r)] w fun t w => fg P F.ay [t] w K := by
 rw [M.aa.fcall]
 apply M.aa.calls
 unfold M.aa
 rw [wy, amf]
 show fg P F.ay _ _ K
 rw [M.cq.fcall]
 have f1 : Fr (fun _ => False) w (w.alloc (.cells #[.map (some r)] T.m)) := (Fr.refl _ w).alloc _
 have hB : (w.alloc (.cells #[.map (some r)] T.m)).heap[w.heap.size]? = some (.cells #[.map (some r)] T.m (0, 0)) := by rw [gc, if_pos rfl]
 have hsz : w.heap.size ≤ (w.alloc (.cells #[.map (some r)] T.m)).heap.size := by simp
 refine afj (ks := ir m) FN.a.at (by kernel_rfl) (by kernel_rfl) (by simpa [ir] using hl) (agw (hm.xk (f1.jd r hm.lt fun h => h)) hn hB hl) fun w2 v o2 f2 => ?_
 exact h w2 v (o2.mono hsz) (f1.trans f2)
end Go.Proofs.YtfnhoaemapheoaaGreat.KeyR
set_option maxRecDepth 100000
namespace Go.Proofs.YtfnhoaemapheoaaGreat
open Go.Eng Go.Proofs.YtfnhoaemapheoaaGreat.Sint
def ado (m : im) (mm : MP) : Prop := ∀ k, kt mm k = (lk m k).map ky
def mo (hb p r : Nat) (ga : Bool) : Array Value := #[.pointer (some ⟨hb, 0, none⟩), .pointer (some ⟨p, 0, none⟩), .map (some r), .bool ga]
def ju (q hb : Nat) (m : im) (L : Lg) (ga : Bool) : Asn where
 ok w B := ∃ p r mm, ado m mm ∧ Rs [fu q (mo hb p r ga) T.i, jz r .u64 mm, kb p hb L] w B
 jd := by
  rintro w w' B S ⟨p, r, mm, h1, h2⟩ hf hn
  exact ⟨p, r, mm, h1, h2.jd hf hn⟩
section
variable {w0 w : World} {R : List Asn} {q hb p r : Nat} {m : im} {L : Lg} {ga : Bool} {mm : MP}
theorem St.s22 {a b c d : Asn} (S : St w0 w (a :: b :: c :: d :: R)) : St w0 w (c :: d :: a :: b :: R) := S.perm ((List.perm_append_comm (l₁ := [a, b]) (l₂ := [c, d])).append_right R)
theorem abc (S : St w0 w (ju q hb m L ga :: R)) : ∃ p r mm, ado m mm ∧ St w0 w (fu q (mo hb p r ga) T.i :: jz r .u64 mm :: kb p hb L :: R) := by
 obtain ⟨B, ⟨p, r, mm, h1, h2⟩, _, cl⟩ := S.open
 exact ⟨p, r, mm, h1, cl w [fu q (mo hb p r ga) T.i, jz r .u64 mm, kb p hb L] (Fr.refl _ _) (h2.mono fun b hb => .inl hb)⟩
theorem adr (h : ado m mm) (S : St w0 w (fu q (mo hb p r ga) T.i :: jz r .u64 mm :: kb p hb L :: R)) : St w0 w (ju q hb m L ga :: R) := by
 obtain ⟨U, h4, _, g⟩ := St.zj (L := [fu q (mo hb p r ga) T.i, jz r .u64 mm, kb p hb L]) (R := R) S
 exact g w [ju q hb m L ga] (Fr.refl _ _) ⟨U, ⟨p, r, mm, h, h4⟩, fun b hb => .inl hb, trivial⟩
theorem my (S : St w0 w (fu q (mo hb p r ga) T.i :: R)) : fo w q 0 = some (.pointer (some ⟨hb, 0, none⟩)) ∧ fo w q 1 = some (ik p) ∧ fo w q 2 = some (.map (some r)) ∧ fo w q 3 = some (.bool ga) :=
 ⟨by rw [S.cell]; rfl, by rw [S.cell]; rfl, by rw [S.cell]; rfl, by rw [S.cell]; rfl⟩
theorem anm (h : ado m mm) (ha : Asc m) (k : Int) (x : Rg) : ado (ny m k x) (qh mm k (ky x)) := fun k' => by
 rw [aaw, acp ha, h k']
 split <;> rfl
theorem awl : ado [] [] := fun k => rfl
theorem avt (h : ado m mm) (ha : Asc m) (hn : (ir mm).Nodup) : Suint64.nc (ir mm) = m.map (·.1) := by
 have hmem : ∀ k, k ∈ ir mm ↔ k ∈ m.map (·.1) := fun k => by
  have h1 := aeb mm k
  have h2 : lk m k = none ↔ k ∉ m.map (·.1) := by
   unfold lk
   rw [Option.map_eq_none_iff, List.find?_eq_none]
   simp only [decide_eq_true_eq, List.mem_map, not_exists, not_and]
  have h3 := h k
  constructor
  ·intro hk
   apply Classical.byContradiction
   intro hc
   rw [h2.2 hc] at h3
   exact h1.1 h3 hk
  ·intro hk
   apply Classical.byContradiction
   intro hc
   rw [h1.2 hc] at h3
   have : lk m k = none := by
    cases hl : lk m k with
    | none => rfl
    | some x => rw [hl] at h3; cases h3
   exact h2.1 this hk
 have hnd : (m.map (·.1)).Nodup := by
  unfold Asc at ha
  rw [List.nodup_iff_pairwise_ne, List.pairwise_map]
  exact ha.imp fun h => by omega
 have hp : (ir mm).Perm (m.map (·.1)) := (List.perm_ext_iff_of_nodup hn hnd).2 hmem
 have hs : (m.map (·.1)).Pairwise fun a b => a ≤ b := by
  unfold Asc at ha
  rw [List.pairwise_map]
  exact ha.imp fun h => by omega
 rw [Suint64.tx hp]
 show List.mergeSort _ _ = _
 exact List.mergeSort_of_pairwise (hs.imp fun h => by simpa using h)
theorem aug (S : St w0 w (ju q hb m L ga :: R)) (k : Int) {K : KV} (h : ∀ w', St w0 w' (ju q hb m L ga :: R) → K (ky (kw m k)) w') : fg P F.bk [ik q, .int .u64 k] w K := by
 obtain ⟨p, r, mm, hm, S1⟩ := abc S
 rw [M.bj.fcall]
 apply M.bj.calls
 unfold M.bj ik
 simp
 have S2 := uz S1 T.e
 generalize w.heap.size = tb at *
 generalize w.alloc _ = w2 at *
 obtain ⟨_, _, c2, _⟩ := my S2.swap
 unfold M.bj.j0
 simp [c2]
 rw [zh mt.m (vv S2.up2).1, hm k]
 have e : ((lk m k).map ky).getD (.agg #[.int .u64 0, .int .u64 0, .int .u64 0, .int .u64 0, .int .i64 0]) = ky (kw m k) := by
  unfold kw
  cases lk m k <;> rfl
 rw [e]
 unfold ky
 simp
 refine rq (r' := kw m k) S2 fun w3 S3 => ?_
 obtain ⟨_, _, _, rl⟩ := jc S3
 rw [zn, rl]
 exact ⟨rfl, h w3 (adr hm S3.drop)⟩
theorem akn (S : St w0 w (ju q hb m L ga :: R)) (ha : Asc m) (hl : m.length < 60000) {K : KV} (h : ∀ w' v', St w0 w' (rdA 1 zt v' (m.map (·.1)) :: ju q hb m L ga :: R) → K v' w') : fg P F.az [ik q] w K := by
 obtain ⟨p, r, mm, hm, S1⟩ := abc S
 rw [M.ba.fcall]
 apply M.ba.calls
 unfold M.ba ik
 simp
 unfold M.ba.j0
 obtain ⟨_, _, c2, _⟩ := my S1
 simp [c2]
 obtain ⟨hmp, hn⟩ := vv S1.swap
 have hk := avt hm ha hn
 have hlen : mm.length < 60000 := by
  have := congrArg List.length hk
  rw [(Suint64.mw _).length_eq] at this
  simp [ir] at this
  omega
 refine KeyR.ajk hmp hn hlen fun w2 v2 o2 f2 => ?_
 rw [hk] at o2
 have o3 : OwU w2 w.heap.size v2 (m.map (·.1)) := o2
 exact h w2 v2 (S.add f2 (B := fun x => v2.ownBlock = some x) ⟨o3.sl ahu, fun b hb => hb⟩ fun b hb => o3.lt hb)
end
set_option maxRecDepth 100000
open Go.Eng Go.Proofs.YtfnhoaemapheoaaGreat.Sint
def wrF (L : Lg) (D : Dk) (fq : List (List Int)) : (Lg × Dk) × Int :=
 if (pn L D fq).2 = 0 then (((pn L D fq).1.1, ((pn L D fq).1.1.lh (pn L D fq).1.2).1), ((pn L D fq).1.1.lh (pn L D fq).1.2).2) else pn L D fq
theorem amo {L : Lg} {D : Dk} {b : List Int} {r : List (List Int)} (h : (L.append D b).2 = 0) : wrF L D (b :: r) = wrF (L.append D b).1.1 (L.append D b).1.2 r := by
 have e : pn L D (b :: r) = pn (L.append D b).1.1 (L.append D b).1.2 r := by rw [pn, if_pos h]
 unfold wrF; rw [e]
theorem azl {L : Lg} {D : Dk} {b : List Int} {r : List (List Int)} (h : (L.append D b).2 ≠ 0) : wrF L D (b :: r) = L.append D b := by
 have e : pn L D (b :: r) = L.append D b := by rw [pn, if_neg h]
 unfold wrF; rw [e, if_neg h]
def wrL (lv : Value) (vs : List SV) (fq : List (List Int)) (q p hb r : Nat) (dn : Bool) (mm : MP) (L : Lg) (D : Dk) (R : List Asn) : List Asn :=
 kb p hb L :: fy hb D :: oe (me vs fq) :: Eng.jf T.d 1 mr lv vs :: fu q (mo hb p r dn) T.i :: jz r .u64 mm :: R
section
variable {w0 w : World} {R : List Asn} {q hb p r : Nat} {m : im} {L : Lg} {dn : Bool} {mm : MP} {D : Dk} {G : Nat} {s f : Int} {lv : Value} {vs : List SV} {fq : List (List Int)}
def WrI (w0 : World) (lv : Value) (vs : List SV) (fq : List (List Int)) (q p hb r : Nat) (dn : Bool) (mm : MP) (s f : Int) (G : Nat) (L : Lg) (D : Dk) (R : List Asn) : KL := fun x w1 => ∃ (u : Value) (i : Nat) (Li : Lg) (Di : Dk), x = [u, .int .i64 0, .int .i64 (i : Nat)] ∧ i ≤ fq.length ∧ mj s f Li G Di ∧ f + (ft Li.fk).length + (fq.length - i : Nat) ≤ 1000000000000 ∧ wrF L D fq = wrF Li Di (fq.drop i) ∧ St w0 w1 (wrL lv vs fq q p hb r dn mm Li Di R)
theorem avq (S : St w0 w (wrL lv vs fq q p hb r dn mm L D R)) {k : Int} {x4 : List Value} (hx : gv x4 0 = .int .i64 k) {K : KV} (h : ∀ w', St w0 w' (wrL lv vs fq q p hb r (dn || decide (k = 10)) mm L D R) → K (.int .i64 k) w') : M.v.j4 (ik q) x4 w K := by
 have S1 : St w0 w (fu q (mo hb p r dn) T.i :: kb p hb L :: fy hb D :: oe (me vs fq) :: Eng.jf T.d 1 mr lv vs :: jz r .u64 mm :: R) := St.up4 (R := jz r .u64 mm :: R) S
 obtain ⟨_, _, _, c3⟩ := my S1
 unfold M.v.j4 ik
 rw [hx]
 have fin : ∀ d, d = (dn || decide (k = 10)) → ∀ w', St w0 w' (fu q ((mo hb p r dn).setIfInBounds 3 (.bool d)) T.i :: kb p hb L :: fy hb D :: oe (me vs fq) :: Eng.jf T.d 1 mr lv vs :: jz r .u64 mm :: R) → K (.int .i64 k) w' := fun d e w' S' => by
  subst e
  exact h w' (St.dn4 (R := jz r .u64 mm :: R) S')
 cases dn with
 | true =>
  simp [c3]
  exact S1.aki rfl (by simp [mo]) fun w' S' => fin true (by simp) w' S'
 | false =>
  by_cases hk : k = 10
  ·simp [c3, hk]
   refine S1.aki rfl (by simp [mo]) fun w' S' => ?_
   have := fin true (by simp [hk]) w' S'
   rwa [hk] at this
  ·simp [c3, hk]
   exact S1.aki rfl (by simp [mo]) fun w' S' => fin false (by simp [hk]) w' S'
theorem aow (S : St w0 w (ju q hb m L dn :: fy hb D :: jj lv fq :: R)) (hg : mj s f L G D) (hr : ∀ b ∈ fq, b.length ≤ 8192) (hn : f + (ft L.fk).length + fq.length ≤ 1000000000000) (hrl : fq.length ≤ 100000) {K : KV}
  (h : ∀ w', St w0 w' (ju q hb m (wrF L D fq).1.1 (dn || decide ((wrF L D fq).2 = 10)) :: fy hb (wrF L D fq).1.2 :: R) → K (.int .i64 (wrF L D fq).2) w') : fg P F.bc [ik q, lv] w K := by
 obtain ⟨p, r, mm, hm, S1⟩ := abc S
 have S2 : St w0 w (jj lv fq :: fu q (mo hb p r dn) T.i :: jz r .u64 mm :: kb p hb L :: fy hb D :: R) := St.up4 S1
 obtain ⟨vs, hvs, S3⟩ := aby S2
 have hlen := fun w' K => xq S2 w' K
 have S4 : St w0 w (wrL lv vs fq q p hb r dn mm L D R) := S3.perm (by
  have p1 := List.perm_append_comm (l₁ := [Eng.jf T.d 1 mr lv vs, oe (me vs fq), fu q (mo hb p r dn) T.i, jz r .u64 mm]) (l₂ := [kb p hb L, fy hb D])
  refine (p1.append_right R).trans ?_
  exact List.Perm.cons _ (List.Perm.cons _ (List.Perm.swap _ _ _)))
 rw [M.v.fcall]
 apply M.v.calls
 unfold M.v
 simp [hlen]
 have asn : ∀ {L' : Lg} {D' : Dk} {dn' : Bool} {w' : World}, St w0 w' (wrL lv vs fq q p hb r dn' mm L' D' R) → St w0 w' (ju q hb m L' dn' :: fy hb D' :: R) := fun {L' D' dn' w'} S' => by
  have T1 : St w0 w' (oe (me vs fq) :: kb p hb L' :: fy hb D' :: Eng.jf T.d 1 mr lv vs :: fu q (mo hb p r dn') T.i :: jz r .u64 mm :: R) := St.up2 S'
  have T2 := T1.drop
  have T3 : St w0 w' (Eng.jf T.d 1 mr lv vs :: kb p hb L' :: fy hb D' :: fu q (mo hb p r dn') T.i :: jz r .u64 mm :: R) := St.up2 T2
  exact adr hm (St.s22 T3.drop)
 refine ⟨WrI w0 lv vs fq q p hb r dn mm s f G L D R, fun x _ => fq.length - ms x 2, ⟨_, 0, L, D, rfl, Nat.zero_le _, hg, by simpa using hn, by simp, S4⟩, ?_⟩
 rintro x w1 ⟨u, i, Li, Di, rfl, hi, gi, bi, ei, Si⟩
 by_cases hil : i < fq.length
 ·have hili : (i : Int) < (fq.length : Int) := by omega
  have hwi : IntKind.i64.wrap ((i : Int) + 1) = ((i + 1 : Nat) : Int) := by rw [fm (by omega) (by omega)]; rfl
  have hdrop : fq.drop i = fq[i] :: fq.drop (i + 1) := List.drop_eq_getElem_cons hil
  simp [hil]
  unfold M.v.j2 ik
  have hi' : i < vs.length := by omega
  have Srow : St w0 w1 (Eng.jf T.d 1 mr lv vs :: kb p hb Li :: fy hb Di :: oe (me vs fq) :: fu q (mo hb p r dn) T.i :: jz r .u64 mm :: R) := St.up3 Si
  obtain ⟨b, o, cap, hv, _, _, hc⟩ := (Srow.jf qq : Sl w1 1 mr lv vs).at hi'
  have c0 := hc 0 _ rfl
  simp only [Nat.mul_one, Nat.add_zero] at c0
  have hia : ∀ w' K, iaT P T.j lv (.int .i64 (i : Nat)) w' K = K (.pointer (some ⟨b, o + i, none⟩)) w' := fun w' K => by rw [hv]; simp [hi']
  have Sq : St w0 w1 (fu q (mo hb p r dn) T.i :: kb p hb Li :: fy hb Di :: oe (me vs fq) :: Eng.jf T.d 1 mr lv vs :: jz r .u64 mm :: R) := St.up4 Si
  obtain ⟨_, c1, _, _⟩ := my Sq
  simp [hia, c0, c1]
  refine arj (av := (vs[i]).v) (rec := fq[i]) Si (bcc Si.swap gi) (by have := hr _ (List.getElem_mem hil); omega) (fun w' L' S' => ?_) fun w2 S5 => ?_
  ·have S6 : St w0 w' (oe (me vs fq) :: (L' ++ Eng.jf T.d 1 mr lv vs :: fu q (mo hb p r dn) T.i :: jz r .u64 mm :: R)) := S'.perm List.perm_middle
   have S7 := St.aou (j := i) (L := me vs fq) (by simp [me]; omega) S6
   unfold me at S7
   rw [List.getElem_zipWith] at S7
   exact S7.row ip
  have ha := axh (b := fq[i]) gi (by omega)
  rw [hdrop] at ei
  by_cases h0 : (Li.append Di fq[i]).2 = 0
  ·rw [amo h0] at ei
   generalize Li.append Di fq[i] = z at *
   cases ha with
   | aiz => simp at h0
   | qf => simp at h0
   | ga => simp at h0
   | ok L' D' g' e1 =>
    simp [hwi]
    refine ⟨⟨_, i + 1, L', D', rfl, by omega, g', ?_, ei, S5⟩, by simp [ms, gv]; omega⟩
    rw [e1, List.length_append, List.length_singleton]
    omega
  ·rw [azl h0] at ei
   rw [ei] at h
   simp [h0]
   unfold M.v.j0
   simp [h0]
   exact avq S5 rfl fun w3 S8 => h w3 (asn S8)
 ·have hili : ¬ (i : Int) < (fq.length : Int) := by omega
  have hie : i = fq.length := by omega
  subst hie
  rw [List.drop_length] at ei
  have e0 : wrF Li Di [] = ((Li, (Li.lh Di).1), (Li.lh Di).2) := by unfold wrF pn; simp
  rw [e0] at ei
  rw [ei] at h
  simp
  unfold M.v.j0 ik
  have Sq : St w0 w1 (fu q (mo hb p r dn) T.i :: kb p hb Li :: fy hb Di :: oe (me vs fq) :: Eng.jf T.d 1 mr lv vs :: jz r .u64 mm :: R) := St.up4 Si
  obtain ⟨_, c1, _, _⟩ := my Sq
  simp [c1]
  refine amk Si (by have := gi.vir.len; omega) fun w2 S5 => ?_
  exact avq S5 rfl fun w3 S8 => h w3 (asn S8)
end
set_option maxRecDepth 100000
open Go.Eng Go.Proofs.YtfnhoaemapheoaaGreat.Sint
section
variable {w0 w : World} {R : List Asn} {q hb p r : Nat} {m : im} {L : Lg} {dn : Bool} {mm : MP} {D D' : Dk} {G : Nat} {s f : Int} {ge : Int} {Q' : List Prt}
def OpR (w0 : World) (rv : Value) (fq : List (List Int)) (q p hb r : Nat) (L : Lg) (D : Dk) (R : List Asn) : KL := fun x w1 => ∃ (u0 u1 u2 u3 u4 u5 : Value) (i : Nat) (mm : MP), x = [u0, u1, u2, u3, u4, u5, .int .i64 (i : Nat)] ∧ i ≤ fq.length ∧ ado (jg (fq.take i)) mm ∧
 St w0 w1 (jj rv fq :: fu q (mo hb p r false) T.i :: jz r .u64 mm :: kb p hb L :: fy hb D :: R)
theorem bbs (S : St w0 w R) : St w0 (w.alloc (.map #[] 0)) (jz w.heap.size .u64 [] :: R) := S.add (a := jz w.heap.size .u64 []) ((Fr.refl _ w).alloc _) (B := fun x => x = w.heap.size) ⟨⟨afk w .u64, List.nodup_nil⟩, rfl⟩ fun b hb => by subst hb; rw [ii]; omega
theorem ayw (S : St w0 w (fy hb D :: R)) (hmx : ge < 9223372036854775808) (eo : ya D ge = ((D', some Q'), 0)) (g : mj s f ⟨ge, Q'⟩ G D') (es : (Lg.lh ⟨ge, Q'⟩ D').2 = 0) (hr : td (ft Q')) {K : KV}
  (h : ∀ w' q, St w0 w' (ju q hb (jg (ft Q')) ⟨ge, Q'⟩ false :: fy hb (Lg.lh ⟨ge, Q'⟩ D').1 :: R) → K (.tuple #[ik q, .int .i64 0]) w') : fg P F.bb [.pointer (some ⟨hb, 0, none⟩), .int .i64 ge] w K := by
 rw [M.bb.fcall]
 apply M.bb.calls
 unfold M.bb
 refine bdf S hmx (fun w2 hn _ => by rw [eo] at hn; cases hn) fun w2 p qs hs S2 => ?_
 rw [eo] at hs S2
 have hqs : qs = Q' := by simpa using (congrArg (·.1.2) hs).symm
 subst hqs
 simp only at S2
 simp only [ik]
 simp
 unfold M.bb.j0
 rw [anj]
 have S3 := bbs S2
 have z3 : (w2.alloc (.map #[] 0)).heap.size = w2.heap.size + 1 := ii _ _
 generalize hrr : w2.heap.size = r at *
 generalize w2.alloc (.map #[] 0) = w3 at *
 have e : iy P T.i #[(0, .pointer (some ⟨hb, 0, none⟩)), (1, .pointer (some ⟨p, 0, none⟩)), (2, .map (some r))] w3 = fun K => K (.agg (mo hb p r false)) w3 := by funext K; simp [mo]
 rw [e]
 refine St.tz S3 fun q w4 S4 => ?_
 have S5 : St w0 w4 (kb p hb ⟨ge, qs⟩ :: fy hb D' :: fu q (mo hb p r false) T.i :: jz r .u64 [] :: R) := St.s22 S4
 simp
 refine apd S5 g fun w5 rv S6 => ?_
 have hlen := fun w' K => xq S6 w' K
 simp only at hlen S6
 simp [hlen]
 refine ⟨OpR w0 rv (ft qs) q p hb r ⟨ge, qs⟩ D' R, fun x _ => (ft qs).length - ms x 6, ⟨_, _, _, _, _, _, 0, [], rfl, Nat.zero_le _, by simpa [jg] using awl, S6.tail ((List.perm_append_comm (l₁ := [kb p hb ⟨ge, qs⟩, fy hb D']) (l₂ := [fu q (mo hb p r false) T.i, jz r .u64 []])).append_right R)⟩, ?_⟩
 rintro x w6 ⟨u0, u1, u2, u3, u4, u5, i, mm, rfl, hi, hm, S7⟩
 by_cases hil : i < (ft qs).length
 ·have hwi : IntKind.i64.wrap ((i : Int) + 1) = ((i + 1 : Nat) : Int) := by
   have := aoc S5.swap g
   simp only at this
   rw [fm (by omega) (by omega)]; rfl
  simp [hil]
  unfold M.bb.j3
  obtain ⟨b, o, sv, hia, _, c0, hsl⟩ := abw S7 hil
  obtain ⟨pr, ho, he⟩ := hr _ (List.getElem_mem hil)
  have hrd : afn (ft qs)[i] = some (pr.1, pr.2) := by rw [he]; exact zk ho.1 ho.2.1 ho.2.2.1 ho.2.2.2
  simp [hia, c0]
  refine axt hsl hrd fun w7 f7 => ?_
  have S8 := S7.iq f7
  simp
  have S9 := uz S8 T.e
  generalize w7.heap.size = tb at *
  generalize w7.alloc _ = w8 at *
  unfold ky
  simp
  refine rq (r' := pr.2) S9 fun w9 S10 => ?_
  unfold M.bb.j5
  have S10d := S10.iq ((Fr.refl _ w9).dr 1)
  have Sb : St w0 (dr w9 1) (fu q (mo hb p r false) T.i :: fu tb (rgC pr.2) T.e :: jj rv (ft qs) :: jz r .u64 mm :: kb p hb ⟨ge, qs⟩ :: fy hb D' :: R) := St.up2 S10d
  obtain ⟨_, _, c2, _⟩ := my Sb
  obtain ⟨_, _, _, rl⟩ := jc S10d
  simp only [pg] at c2
  simp [c2, rl]
  have Sm : St w0 (dr w9 1) (jz r .u64 mm :: fu tb (rgC pr.2) T.e :: jj rv (ft qs) :: fu q (mo hb p r false) T.i :: kb p hb ⟨ge, qs⟩ :: fy hb D' :: R) := St.up3 S10d
  refine alu mt.m (vv Sm).1 pr.1 _ _ fun ob hob => ?_
  have S11 := apc Sm hob
  refine ⟨⟨_, _, _, _, _, _, i + 1, qh mm pr.1 (ky pr.2), by rw [hwi], by omega, ?_, ?_⟩, by rw [hwi]; simp [ms, gv]; omega⟩
  ·rw [List.take_add_one, List.getElem?_eq_getElem hil]
   show ado (jg ((ft qs).take i ++ [(ft qs)[i]])) _
   rw [he, aeg ho.1 ho.2.1 ho.2.2.1 ho.2.2.2]
   exact anm hm (tg _) _ _
  ·have T1 : St w0 _ (fu tb (rgC pr.2) T.e :: jz r .u64 (qh mm pr.1 (ky pr.2)) :: jj rv (ft qs) :: fu q (mo hb p r false) T.i :: kb p hb ⟨ge, qs⟩ :: fy hb D' :: R) := S11.swap
   exact St.dn2 T1.drop
 ·have hie : i = (ft qs).length := by omega
  subst hie
  rw [List.take_length] at hm
  simp
  unfold M.bb.j1
  have T1 : St w0 w6 (kb p hb ⟨ge, qs⟩ :: fy hb D' :: fu q (mo hb p r false) T.i :: jz r .u64 mm :: R) := St.s22 S7.drop
  refine amk (p := p) T1 (by have := g.vir.len; simp only at this ⊢; omega) fun w7 T2 => ?_
  rw [es]
  simp
  exact h w7 q (adr hm (St.s22 T2))
end
set_option maxRecDepth 100000
open Go.Eng Go.Proofs.YtfnhoaemapheoaaGreat.Sint
theorem ahy (w : World) (K : KV) : taT P .nilIface T.ao T.k true w K = K (.tuple #[.agg #[.int .u64 0, .int .u64 0, .int .u64 0, .int .i64 0], .bool false]) w := .trans (by kernel_rfl) rfl
theorem aqa (a b c d : Value) (w : World) (K : KV) : taT P (.iface T.k (.agg #[a, b, c, d])) T.ao T.k true w K = K (.tuple #[.agg #[a, b, c, d], .bool true]) w := .trans (by kernel_rfl) rfl
theorem ThR.beb {w : World} {p : Pk} {ls : List Spn} {lm : List Mem} {lu : List Int} {t : Value} (h : ThR w p ls lm lu t) (hk : ¬ (p.fx = 4 ∨ p.fx = 6)) (w' : World) (K : KV) : taT P t T.ao T.k true w' K = K (.tuple #[.agg #[.int .u64 0, .int .u64 0, .int .u64 0, .int .i64 0], .bool false]) w' := by
 cases h with
 | qn v q hs => exact anq _ _ _
 | aep v q hs => exact ajy _ _ _
 | ask q => exact absurd q hk
 | wk q => exact aaa _ _ _
 | sr q => exact abv _ _ _
 | ts v q hs => exact yt _ _ _
 | xe v q hs => exact aak _ _ _
 | none q => exact ahy _ _
theorem ThR.beh {w : World} {p : Pk} {ls : List Spn} {lm : List Mem} {lu : List Int} {t : Value} (h : ThR w p ls lm lu t) (hk : p.fx = 4 ∨ p.fx = 6) : t = ael p.tr p.b p.v := by
 cases h with
 | ask q => rfl
 | qn v q hs => omega
 | aep v q hs => omega
 | wk q => omega
 | sr q => omega
 | ts v q hs => omega
 | xe v q hs => omega
 | none q => omega
def rn (p : Pk) (ls : List Spn) (lm : List Mem) (lu : List Int) : Bool := (decide (p.fx = 4) || decide (p.fx = 6)) && uy p ls lm lu
def nl (L : Lg) (D : Dk) (tr : Int) (r : Rg) : (Lg × Dk) × Int := wrF L D [kz tr r]
theorem ahj {p : Pk} {ls : List Spn} {lm : List Mem} {lu : List Int} (h : rn p ls lm lu = true) (hr : wv p) : (p.fx = 4 ∨ p.fx = 6) ∧ 0 < p.tr ∧ 0 < p.b.n := by
 unfold rn at h
 simp only [Bool.and_eq_true, Bool.or_eq_true, decide_eq_true_eq] at h
 obtain ⟨hk, h⟩ := h
 unfold uy sw at h
 have h1 := hr.tr.1
 have h2 := hr.b.1.1
 rcases hk with hk | hk <;> simp [hk] at h
 ·exact ⟨.inl hk, h.1.2, h.2⟩
 ·exact ⟨.inr hk, h.1.2, h.2.1⟩
section
variable {w0 w : World} {R : List Asn} {q hb : Nat} {m : im} {L : Lg} {dn : Bool} {D : Dk} {G : Nat} {s f : Int} {p : Pk} {ls : List Spn} {lm : List Mem} {lu : List Int}
def hdL (ab tb pb q hb : Nat) (p : Pk) (m : im) (L : Lg) (dn : Bool) (D : Dk) (R : List Asn) : List Asn := fu ab #[.int .u64 p.tr, .int .u64 p.b.n, .int .u64 p.b.gj, .int .i64 p.v] T.k :: fu tb (pkC pkZ).toArray T.b :: fu pb (pkC p).toArray T.b :: ju q hb m L dn :: fy hb D :: R
theorem tj {ab : Nat} {R : List Asn} (S : St w0 w (fu ab #[.int .u64 p.tr, .int .u64 p.b.n, .int .u64 p.b.gj, .int .i64 p.v] T.k :: R)) : fo w ab 0 = some (.int .u64 p.tr) ∧ (∀ K, ldN P 2 ab 1 w K = K (jy p.b) w) ∧ fo w ab 3 = some (.int .i64 p.v) :=
 ⟨by rw [S.cell]; rfl, fun K => S.ldA [.int .u64 p.b.n, .int .u64 p.b.gj] rfl rfl K, by rw [S.cell]; rfl⟩
theorem ati {tb : Nat} {R1 R2 : List Asn} (S : St w0 w (fu tb (pkC pkZ).toArray T.b :: R1)) {k : Int} {K : KV} (h : ∀ w', St w0 w' R1 → K (.tuple #[pkA pkZ, .int .i64 k]) w') :
  stN P tb 0 [.int .i64 0, .int .u64 0, .int .u64 0, .int .u64 0, .int .u64 0, .int .u64 0, .int .i64 0, .bool false, .slice none 0 0, .slice none 0 0, .slice none 0 0] w fun _ w => ou P T.b (.pointer (some ⟨tb, 0, none⟩)) w fun r0 w' => w' = w ∧ K (.tuple #[r0, .int .i64 k]) w :=
 aib (q := pkZ) S rfl (vz _ _ _ _ _ _) (K := fun r0 w => K (.tuple #[r0, .int .i64 k]) w) fun w' S' => h w' S'.drop
theorem akj (S : St w0 w (ju q hb m L dn :: fy hb D :: R)) (hp : ∀ w' R', St w0 w' (R' ++ R) → pu w' p ls lm lu) (hr : wv p) (hG : dn = false → D.ga = false → ∃ F, RI s f L F D m) (hf : f + (ft L.fk).length + 1 ≤ 1000000000000) {K : KV}
  (hno : rn p ls lm lu = false → ∀ w', St w0 w' (ju q hb m L dn :: fy hb D :: R) → K (.tuple #[pkA pkZ, .int .i64 6]) w')
  (hdn : rn p ls lm lu = true → (dn || D.ga) = true → ∀ w', St w0 w' (ju q hb m L dn :: fy hb D :: R) → K (.tuple #[pkA pkZ, .int .i64 10]) w')
  (hsame : rn p ls lm lu = true → dn = false → D.ga = false → (iu m (decide (p.fx = 6)) p.tr p.b p.v).1 = kw m p.tr → ∀ w', St w0 w' (ju q hb m L dn :: fy hb D :: R) → K (.tuple #[pkA (ahi (iu m (decide (p.fx = 6)) p.tr p.b p.v).1 p.tr p.b (iu m (decide (p.fx = 6)) p.tr p.b p.v).2 (decide (p.fx = 6))), .int .i64 0]) w')
  (hbad : rn p ls lm lu = true → dn = false → D.ga = false → (iu m (decide (p.fx = 6)) p.tr p.b p.v).1 ≠ kw m p.tr → (nl L D p.tr (iu m (decide (p.fx = 6)) p.tr p.b p.v).1).2 ≠ 0 → ∀ w', St w0 w' (ju q hb m (nl L D p.tr (iu m (decide (p.fx = 6)) p.tr p.b p.v).1).1.1 (decide ((nl L D p.tr (iu m (decide (p.fx = 6)) p.tr p.b p.v).1).2 = 10)) :: fy hb (nl L D p.tr (iu m (decide (p.fx = 6)) p.tr p.b p.v).1).1.2 :: R) → K (.tuple #[pkA pkZ, .int .i64 (nl L D p.tr (iu m (decide (p.fx = 6)) p.tr p.b p.v).1).2]) w')
  (hok : rn p ls lm lu = true → dn = false → D.ga = false → (iu m (decide (p.fx = 6)) p.tr p.b p.v).1 ≠ kw m p.tr → (nl L D p.tr (iu m (decide (p.fx = 6)) p.tr p.b p.v).1).2 = 0 → ∀ w', St w0 w' (ju q hb (ny m p.tr (iu m (decide (p.fx = 6)) p.tr p.b p.v).1) (nl L D p.tr (iu m (decide (p.fx = 6)) p.tr p.b p.v).1).1.1 false :: fy hb (nl L D p.tr (iu m (decide (p.fx = 6)) p.tr p.b p.v).1).1.2 :: R) → K (.tuple #[pkA (ahi (iu m (decide (p.fx = 6)) p.tr p.b p.v).1 p.tr p.b (iu m (decide (p.fx = 6)) p.tr p.b p.v).2 (decide (p.fx = 6))), .int .i64 0]) w') :
  fg P F.k [ik q, pkA p] w K := by
 rw [M.n.fcall]
 apply M.n.calls
 unfold M.n ik
 refine St.tz S fun pb w1 S1 => ?_
 have S1' : St w0 w1 (fu pb (pkC p).toArray T.b :: ju q hb m L dn :: fy hb D :: R) := S1
 simp
 have S2 := ais S1'
 generalize w1.heap.size = tb at *
 generalize w1.alloc _ = w2 at *
 unfold M.n.j0
 simp [fun K => yw S2.swap K]
 have hp2 : pu w2 p ls lm lu := hp w2 (fu tb (pkC pkZ).toArray T.b :: fu pb (pkC p).toArray T.b :: ju q hb m L dn :: fy hb D :: []) S2
 have noW : ∀ (t : Value) (k : Int) (w3 : World), rn p ls lm lu = false → (∀ w' K', taT P t T.ao T.k true w' K' = K' (.tuple #[.agg #[.int .u64 0, .int .u64 0, .int .u64 0, .int .i64 0], .bool false]) w') → St w0 w3 (fu tb (pkC pkZ).toArray T.b :: fu pb (pkC p).toArray T.b :: ju q hb m L dn :: fy hb D :: R) → True := fun _ _ _ _ _ _ => trivial
 refine axd hp2 hr (fun hre w3 t ht f3 => ?_) (fun hre w3 f3 => ?_)
 ·have S3 := S2.iq f3
  by_cases hk : p.fx = 4 ∨ p.fx = 6
  ·have hae : rn p ls lm lu = true := by unfold rn; rw [hre]; simpa using hk
   obtain ⟨_, htr, hbn⟩ := ahj hae hr
   rw [ht.beh hk]
   unfold ael asr
   simp [aqa]
   have S4 : St w0 (w3.alloc (.cells #[.int .u64 0, .int .u64 0, .int .u64 0, .int .i64 0] T.k)) (fu w3.heap.size #[.int .u64 0, .int .u64 0, .int .u64 0, .int .i64 0] T.k :: _) := S3.mkB #[.int .u64 0, .int .u64 0, .int .u64 0, .int .i64 0] T.k
   generalize w3.heap.size = ab at *
   generalize w3.alloc _ = w4 at *
   refine St.put (cs' := #[.int .u64 p.tr, .int .u64 p.b.n, .int .u64 p.b.gj, .int .i64 p.v]) (vs := [.int .u64 p.tr, .int .u64 p.b.n, .int .u64 p.b.gj, .int .i64 p.v]) S4 (by simp) (by simp) rfl fun w5 S5 => ?_
   have S5' : St w0 w5 (hdL ab tb pb q hb p m L dn D R) := S5
   have Sr : St w0 w5 (ju q hb m L dn :: fu ab #[.int .u64 p.tr, .int .u64 p.b.n, .int .u64 p.b.gj, .int .i64 p.v] T.k :: fu tb (pkC pkZ).toArray T.b :: fu pb (pkC p).toArray T.b :: fy hb D :: R) := St.up3 S5
   obtain ⟨lp, rp, mm, hm, Su⟩ := abc Sr
   obtain ⟨c0, _, _, c3⟩ := my Su
   have outDn : (dn || D.ga) = true → stN P tb 0 [.int .i64 0, .int .u64 0, .int .u64 0, .int .u64 0, .int .u64 0, .int .u64 0, .int .i64 0, .bool false, .slice none 0 0, .slice none 0 0, .slice none 0 0] w5 fun _ w => ou P T.b (.pointer (some ⟨tb, 0, none⟩)) w fun r0 w' => w' = w ∧ K (.tuple #[r0, .int .i64 10]) w := fun hd =>
    ati (R2 := []) S5'.swap fun w' S' => hdn hae hd w' S'.drop.drop
   cases dn with
   | true =>
    have od := outDn rfl
    simp [c3]
    exact od
   | false =>
    simp [c3, c0]
    refine act (St.up4 S5') ?_
    cases hd : D.ga with
    | true =>
     have od := outDn (by simp [hd])
     simp
     exact od
    | false =>
     simp
     obtain ⟨F0, I⟩ := hG rfl hd
     have hlu : ∀ {w' : World} {L' : List Asn}, St w0 w' (jz rp .u64 mm :: L') → ∀ K, luT P T.m (.map (some rp)) (.int .u64 p.tr) false w' K = K (ky (kw m p.tr)) w' := fun {w' L'} S' K => by
      rw [zh mt.m (vv S').1, hm p.tr]
      congr 1
      unfold kw
      cases lk m p.tr <;> rfl
     unfold M.n.j1
     have T1 := Su.iq ((Fr.refl _ w5).dr 1)
     obtain ⟨_, _, c2, _⟩ := my T1
     obtain ⟨a0, _, _⟩ := tj (St.up3 T1)
     simp only [pg] at c2 a0
     have l1 := hlu T1.swap
     simp [c2, a0, l1]
     have T2 := uz T1 T.e
     rw [show (Eng.dr w5 1).heap.size = w5.heap.size from rfl] at T2
     generalize w5.heap.size = gb at *
     generalize (Eng.dr w5 1).alloc _ = w6 at *
     obtain ⟨_, _, c2, _⟩ := my T2.swap
     obtain ⟨a0, _, _⟩ := tj (St.up4 T2)
     have l2 := hlu T2.up2
     simp [c2, a0, l2]
     unfold ky
     simp
     refine rq (r' := kw m p.tr) T2 fun w7 T3 => ?_
     obtain ⟨_, _, _, g7⟩ := jc T3
     obtain ⟨_, b7, _⟩ := tj (St.up4 T3)
     simp [g7, b7]
     refine bbu _ _ fun w8 f8 => ?_
     have T4 := T3.iq f8
     simp
     have T5 := uz T4 T.e
     generalize w8.heap.size = nb at *
     generalize w8.alloc _ = w9 at *
     unfold ky
     simp
     refine rq (r' := ((kw m p.tr).qp p.b).1) T5 fun w10 T6 => ?_
     have Tp : St w0 w10 (fu pb (pkC p).toArray T.b :: fu nb (rgC ((kw m p.tr).qp p.b).1) T.e :: fu gb (rgC (kw m p.tr)) T.e :: fu q (mo hb lp rp false) T.i :: jz rp .u64 mm :: kb lp hb L :: fu ab #[.int .u64 p.tr, .int .u64 p.b.n, .int .u64 p.b.gj, .int .i64 p.v] T.k :: fu tb (pkC pkZ).toArray T.b :: fy hb D :: R) := T6.perm (List.perm_middle (l₁ := [_, _, _, _, _, _, _]))
     obtain ⟨k0, _⟩ := lq Tp
     simp [k0]
     have hokE : okE (p.tr, (iu m (decide (p.fx = 6)) p.tr p.b p.v).1) := agm I.ok hr.tr htr hr.b
     have fin : ∀ (x1 : List Value) w', St w0 w' (fu nb (rgC (iu m (decide (p.fx = 6)) p.tr p.b p.v).1) T.e :: fu gb (rgC (kw m p.tr)) T.e :: fu q (mo hb lp rp false) T.i :: jz rp .u64 mm :: kb lp hb L :: fu ab #[.int .u64 p.tr, .int .u64 p.b.n, .int .u64 p.b.gj, .int .i64 p.v] T.k :: fu tb (pkC pkZ).toArray T.b :: fu pb (pkC p).toArray T.b :: fy hb D :: R) →
       M.n.j2 (.pointer (some ⟨nb, 0, none⟩)) (.pointer (some ⟨gb, 0, none⟩)) (.pointer (some ⟨ab, 0, none⟩)) (.pointer (some ⟨q, 0, none⟩)) (.pointer (some ⟨tb, 0, none⟩)) x1 [.bool (iu m (decide (p.fx = 6)) p.tr p.b p.v).2] (.bool (decide (p.fx = 6))) w' K := by
      have hsame' := hsame hae rfl hd
      have hbad' := hbad hae rfl hd
      have hok' := hok hae rfl hd
      clear hno hdn hsame hbad hok outDn
      intro x1 w' S'
      generalize (iu m (decide (p.fx = 6)) p.tr p.b p.v).1 = r1 at *
      generalize (iu m (decide (p.fx = 6)) p.tr p.b p.v).2 = ok1 at *
      generalize decide (p.fx = 6) = tk at *
      -- what it answers at its end
      have ans : ∀ w2 (L2 : List Asn), St w0 w2 (fu nb (rgC r1) T.e :: fu ab #[.int .u64 p.tr, .int .u64 p.b.n, .int .u64 p.b.gj, .int .i64 p.v] T.k :: fu tb (pkC pkZ).toArray T.b :: L2) → (∀ w3, St w0 w3 L2 → K (.tuple #[pkA (ahi r1 p.tr p.b ok1 tk), .int .i64 0]) w3) →
        M.n.j3 (.pointer (some ⟨nb, 0, none⟩)) (.pointer (some ⟨ab, 0, none⟩)) [.bool ok1] (.bool tk) (.pointer (some ⟨tb, 0, none⟩)) w2 K := fun w2 L2 S2 hK => by
       obtain ⟨_, _, _, rl⟩ := jc S2
       obtain ⟨a0, b0, _⟩ := tj S2.swap
       unfold M.n.j3
       simp [rl, a0, b0]
       refine auu _ _ _ _ _ fun w3 f3 => ?_
       rw [atx]
       exact aib (S2.iq f3).up2 rfl (vz _ _ _ _ _ _) (K := fun r0 w => K (.tuple #[r0, .int .i64 0]) w) fun w4 S4 => hK w4 S4.drop.drop.drop
      obtain ⟨_, _, _, n1⟩ := jc S'
      obtain ⟨_, _, _, g1⟩ := jc S'.swap
      have Z1 := adr hm (St.up4 (St.up4 (St.up4 S')))
      have Z2 := (St.up4 (St.up2 Z1).drop).drop
      unfold M.n.j2
      simp [n1, g1, bdp]
      by_cases hne : r1 = kw m p.tr
      ·simp [hne]
       exact ans w' _ (St.dn3 Z2) fun w3 S3 => hsame' hne w3 S3
      ·simp [hne]
       obtain ⟨a0, _, _⟩ := tj Z2.up2
       obtain ⟨_, _, _, n2⟩ := jc Z2.swap
       simp [a0, n2]
       have hv : 0 ≤ r1.v ∧ r1.v ≤ 3 := by
        have := hokE.2.2.2
        simp only at this
        unfold Rg.right at this
        split at this
        ·simp at this; omega
        ·simp [mi] at this; omega
       refine aqh Z2 p.tr hv fun w2 v2 Z3 => ?_
       obtain ⟨sv, hsv⟩ := aex Z3
       subst hsv
       refine aoa Z3 fun w3 sl Z4 => ?_
       refine aow (St.up2 (up5 Z4)) I.uk (fun b hb => by rw [List.mem_singleton.1 hb, xn]; omega) (by simpa using hf) (by simp) fun w4 Z5 => ?_
       have hwe : wrF L D [kz p.tr r1] = nl L D p.tr r1 := rfl
       rw [hwe] at Z5 ⊢
       by_cases h0 : (nl L D p.tr r1).2 = 0
       ·have hk := hok' hne h0
        rw [h0] at Z5
        rw [h0]
        simp
        unfold M.n.j4
        obtain ⟨lp2, rp2, mm2, hm2, Y1⟩ := abc Z5
        have Y2 := Y1.iq ((Fr.refl _ w4).dr 1)
        obtain ⟨_, _, e2, _⟩ := my Y2
        have Y3 : St w0 (Eng.dr w4 1) (fu nb (rgC r1) T.e :: fu q _ T.i :: jz rp2 .u64 mm2 :: kb lp2 hb _ :: fy hb _ :: _) := St.up4 Y2
        obtain ⟨_, _, _, n3⟩ := jc Y3
        obtain ⟨a3, _, _⟩ := tj (up5 Y2)
        simp only [pg] at e2 a3
        simp [e2, a3, n3]
        refine alu mt.m (vv Y2.swap).1 p.tr _ _ fun ob hob => ?_
        have Y4 := adr (anm hm2 I.asc p.tr r1) (apc Y2.swap hob).swap
        refine ans _ _ (St.up4 (St.up4 (St.up4 Y4))) fun w6 Y6 => ?_
        exact hk w6 Y6
       ·have hb' := hbad' hne h0
        simp [h0]
        refine ati (R2 := []) (St.up4 Z5) fun w5 Y1 => ?_
        refine hb' w5 ?_
        have Y2 := (St.up2 (St.up2 Y1).drop).drop
        simpa using Y2
     by_cases h6 : p.fx = 6
     ·obtain ⟨_, _, _, g10⟩ := jc T6.swap
      obtain ⟨_, b10, v10⟩ := tj (up5 T6)
      have e1 : (iu m (decide (p.fx = 6)) p.tr p.b p.v) = (kw m p.tr).acc p.b p.v := by unfold iu; simp [h6]
      rw [e1] at fin
      simp only [h6, decide_true] at fin
      simp [h6, g10, b10, v10]
      refine bdb _ _ _ fun w11 f11 => ?_
      have T7 := T6.iq f11
      simp
      unfold ky
      simp
      refine rq (r' := ((kw m p.tr).acc p.b p.v).1) T7 fun w12 T8 => ?_
      exact fin _ w12 T8
     ·simp [h6]
      have e1 : (iu m (decide (p.fx = 6)) p.tr p.b p.v) = (kw m p.tr).qp p.b := by unfold iu; simp [h6]
      rw [e1] at fin
      have := fin
      simp only [h6, decide_false] at this
      exact this _ w10 T6
  ·have hae : rn p ls lm lu = false := by
    unfold rn
    have : (decide (p.fx = 4) || decide (p.fx = 6)) = false := by simpa using hk
    rw [this]; rfl
   simp [ht.beb hk]
   have S4 := S3.mkB #[.int .u64 0, .int .u64 0, .int .u64 0, .int .i64 0] T.k
   generalize w3.heap.size = ab at *
   generalize w3.alloc _ = w4 at *
   refine St.put (cs' := #[.int .u64 0, .int .u64 0, .int .u64 0, .int .i64 0]) (vs := [.int .u64 0, .int .u64 0, .int .u64 0, .int .i64 0]) S4 (by simp) (by simp) rfl fun w5 S5 => ?_
   exact ati (R2 := []) S5.swap fun w' S' => hno hae w' S'.drop.drop
 ·have hae : rn p ls lm lu = false := by unfold rn; rw [hre, Bool.and_false]
  have S3 := S2.iq f3
  simp [ahy]
  have S4 := S3.mkB #[.int .u64 0, .int .u64 0, .int .u64 0, .int .i64 0] T.k
  generalize w3.heap.size = ab at *
  generalize w3.alloc _ = w4 at *
  refine St.put (cs' := #[.int .u64 0, .int .u64 0, .int .u64 0, .int .i64 0]) (vs := [.int .u64 0, .int .u64 0, .int .u64 0, .int .i64 0]) S4 (by simp) (by simp) rfl fun w5 S5 => ?_
  exact ati (R2 := []) S5.swap fun w' S' => hno hae w' S'.drop.drop
end
set_option maxRecDepth 100000
open Go.Eng Go.Proofs.YtfnhoaemapheoaaGreat.Sint
theorem bce {m : im} (ha : Asc m) {i : Nat} (hi : i < m.length) : lk m m[i].1 = some m[i].2 := by
 induction m generalizing i with
 | nil => simp at hi
 | cons p t ih =>
  obtain ⟨x, y⟩ := p
  unfold Asc at ha
  rw [List.pairwise_cons] at ha
  cases i with
  | zero => rw [List.getElem_cons_zero, mh, if_pos rfl]
  | succ j =>
   simp only [List.length_cons] at hi
   rw [List.getElem_cons_succ, mh, if_neg]
   ·exact ih ha.2 (by omega)
   ·have := ha.1 t[j] (List.getElem_mem (by omega))
    simp only at this
    omega
inductive WrR (s f : Int) (L : Lg) (G : Nat) (D : Dk) (fq : List (List Int)) : (Lg × Dk) × Int → Prop
 | ok (L' : Lg) (D' : Dk) : mj s f L' (ft L'.fk).length D' → ft L'.fk = ft L.fk ++ fq → L'.ge = L.ge → D'.gr = D.gr → (D.ie = false → D'.ie = false) → WrR s f L G D fq ((L', D'), 0)
 | qf (i : Nat) (L' : Lg) (D' : Dk) : i < fq.length → mj s f L' G D' → ft L'.fk = ft L.fk ++ fq.take i → L'.ge = L.ge → D'.gr = D.gr → (D.ie = false → D'.ie = false) → WrR s f L G D fq ((L', D'), 9)
 | ga (i : Nat) (L' : Lg) (D' : Dk) (Q : List Prt) : D.ie = true → L'.ge = L.ge → L'.fk.length ≤ 63 → D'.ga = true → Vir s f Q G D' False → ft Q = ft L.fk ++ fq.take i → D'.gr = D.gr → f + (ft L'.fk).length ≤ f + (ft L.fk).length + fq.length → WrR s f L G D fq ((L', D'), 10)
theorem ajz {s f : Int} {L : Lg} {G : Nat} {D : Dk} {fq : List (List Int)} (g : mj s f L G D) (hl : ∀ b ∈ fq, b.length ≤ 8192) (hn : f + (ft L.fk).length + fq.length ≤ 1000000000000) : WrR s f L G D fq (wrF L D fq) := by
 have ha := bct fq g hl hn
 unfold wrF
 generalize pn L D fq = z at *
 cases ha with
 | ok L' D' g' e1 e2 e3 e4 =>
  obtain ⟨y1, y2, y3, y4, _, y6, _⟩ := alz g'.vir g'.up
  rw [if_pos rfl, y1]
  exact .ok L' _ ⟨y2, g'.size, y3⟩ e1 e2 (by rw [y6, e3]) fun h => by rw [y4]; exact e4 h
 | qf i L' D' hi g' e1 e2 e3 e4 =>
  rw [if_neg (by simp)]
  exact .qf i L' D' hi g' e1 e2 e3 e4
 | ga i j L' D0 D' Q b1 b2 b3 b4 b5 b6 b7 b8 =>
  rw [if_neg (by simp)]
  refine .ga i L' D' Q b1 b4 b2.vir.len b5 b6 b7 b8 ?_
  rw [b3, List.length_append, List.length_take]
  omega
section
variable {w0 w : World} {R : List Asn} {q hb : Nat} {m : im} {L : Lg} {dn : Bool} {D : Dk} {s f : Int}
def afo (L : Lg) (D : Dk) (m : im) : (Lg × Dk) × Int :=
 if (wrF L D (jl m)).2 = 0 then Lg.drop (wrF L D (jl m)).1.1 (wrF L D (jl m)).1.2 (IntKind.i64.wrap (L.ji + (ft L.fk).length)) else wrF L D (jl m)
def CmI (w0 : World) (tv : Value) (m : im) (q hb : Nat) (L : Lg) (D : Dk) (R : List Asn) : KL := fun x w1 => ∃ (u v : Value) (i : Nat), x = [u, v, .int .i64 (i : Nat)] ∧ i ≤ m.length ∧ St w0 w1 (jj v (jl (m.take i)) :: rdA 1 zt tv (m.map (·.1)) :: ju q hb m L false :: fy hb D :: R)
theorem aqr (S : St w0 w (ju q hb m L dn :: fy hb D :: R)) (hG : dn = false → D.ga = false → ∃ F, RI s f L F D m) (hf : f + (ft L.fk).length + m.length ≤ 1000000000000) (hml : m.length ≤ 50000) {K : KV}
  (hdn : (dn || D.ga) = true → ∀ w', St w0 w' (ju q hb m L dn :: fy hb D :: R) → K (.int .i64 10) w')
  (hbad : dn = false → D.ga = false → (wrF L D (jl m)).2 ≠ 0 → ∀ w', St w0 w' (ju q hb m (wrF L D (jl m)).1.1 (decide ((wrF L D (jl m)).2 = 10)) :: fy hb (wrF L D (jl m)).1.2 :: R) → K (.int .i64 (wrF L D (jl m)).2) w')
  (hok : dn = false → D.ga = false → (wrF L D (jl m)).2 = 0 → ∀ w', St w0 w' (ju q hb m (afo L D m).1.1 false :: fy hb (afo L D m).1.2 :: R) → K (.int .i64 (afo L D m).2) w') :
  fg P F.ac [ik q] w K := by
 rw [M.x.fcall]
 apply M.x.calls
 unfold M.x ik
 obtain ⟨lp, rp, mm, hm, S1⟩ := abc S
 obtain ⟨c0, _, _, c3⟩ := my S1
 cases dn with
 | true =>
  simp [c3]
  exact hdn rfl w S
 | false =>
 simp [c3, c0]
 refine act S.swap ?_
 cases hd : D.ga with
 | true =>
  simp
  exact hdn (by simp [hd]) w S
 | false =>
 obtain ⟨F0, I⟩ := hG rfl hd
 simp
 unfold M.x.j0
 have T1 := S1.iq ((Fr.refl _ w).dr 1)
 obtain ⟨_, c1, _, _⟩ := my T1
 simp only [pg] at c1
 simp [c1]
 have T2 : St w0 (Eng.dr w 1) (kb lp hb L :: fy hb D :: fu q (mo hb lp rp false) T.i :: jz rp .u64 mm :: R) := St.s22 T1
 refine azf T2 ?_
 simp [c1]
 refine apd T2 I.uk fun w2 v2 T3 => ?_
 have hlen := fun w' K => xq T3 w' K
 simp [hlen]
 have T4 := adr hm (St.s22 T3.drop)
 refine akn T4 I.asc (by omega) fun w3 tv T5 => ?_
 have hl5 := fun w' K => (T5.rd).ij (P := P) (t := T.g) (ty := T.a) (w := w') (by kernel_rfl) [false] (K := K)
 rw [List.length_map] at hl5
 simp [hl5]
 refine ⟨CmI w0 tv m q hb L D R, fun x _ => m.length - ms x 2, ⟨_, _, 0, rfl, Nat.zero_le _, ajv T5⟩, ?_⟩
 rintro x w4 ⟨u, v, i, rfl, hi, T6⟩
 by_cases hil : i < m.length
 ·have hwi : IntKind.i64.wrap ((i : Int) + 1) = ((i + 1 : Nat) : Int) := by rw [fm (by omega) (by omega)]; rfl
  simp [hil]
  unfold M.x.j3
  have hrd : SlU w4 tv (m.map (·.1)) := T6.swap.rd
  obtain ⟨b, o, cap, hv, _, hc⟩ := ame hrd (i := i) (by simpa using hil)
  rw [List.getElem_map] at hc
  have hia : ∀ w' K, iaT P T.g tv (.int .i64 (i : Nat)) w' K = K (.pointer (some ⟨b, o + i, none⟩)) w' := fun w' K => by rw [hv]; simp [hil]
  obtain ⟨lp2, rp2, mm2, hm2, U1⟩ := abc T6.up2
  obtain ⟨_, _, e2, _⟩ := my U1
  simp [hia, hc, e2]
  rw [zh mt.m (vv U1.swap).1, hm2 m[i].1, bce I.asc hil]
  show fg P F.cw [_, ky m[i].2] w4 _
  have hv3 : 0 ≤ (m[i].2).v ∧ (m[i].2).v ≤ 3 := by
   have := (I.ok _ (List.getElem_mem hil)).2.2.2
   unfold Rg.right at this
   split at this
   ·simp at this; omega
   ·simp [mi] at this; omega
  refine aqh T6 m[i].1 hv3 fun w5 v5 T7 => ?_
  obtain ⟨sv, hsv⟩ := aex T7
  subst hsv
  have hpush := fun {K' : KV} {cs : List Bool} {ty : TypeId} (hh : ∀ w' v', St w0 w' (jj v' (jl (m.take i) ++ [kz m[i].1 m[i].2]) :: rdA 1 zt tv (m.map (·.1)) :: ju q hb m L false :: fy hb D :: R) → K' v' w') => abe (cs := cs) (ty := ty) (K := K') T7 (by unfold jl; simp; omega) hh
  refine hpush fun w6 v6 T8 => ?_
  simp [hwi]
  refine ⟨⟨_, _, i + 1, rfl, by omega, ?_⟩, by simp [ms, gv]; omega⟩
  have e : jl (m.take (i + 1)) = jl (m.take i) ++ [kz m[i].1 m[i].2] := by
   unfold jl
   rw [List.take_add_one, List.getElem?_eq_getElem hil, List.map_append]
   rfl
  rw [e]
  exact T8
 ·have hie : i = m.length := by omega
  subst hie
  rw [List.take_length] at T6
  simp
  unfold M.x.j1
  have hbl : ∀ b ∈ jl m, b.length ≤ 8192 := fun b hb => by
   unfold jl at hb
   obtain ⟨p, _, rfl⟩ := List.mem_map.1 hb
   rw [xn]; omega
  have hall : (jl m).length = m.length := by unfold jl; simp
  have U1 : St w0 w4 (ju q hb m L false :: fy hb D :: jj v (jl m) :: rdA 1 zt tv (m.map (·.1)) :: R) := St.s22 T6
  refine aow U1 I.uk hbl (by rw [hall]; exact hf) (by rw [hall]; omega) fun w5 U2 => ?_
  have U3 := (St.up2 U2).drop
  by_cases h0 : (wrF L D (jl m)).2 = 0
  ·rw [h0] at U3
   rw [h0]
   have hok' := hok rfl hd h0
   unfold afo at hok'
   rw [if_pos h0] at hok'
   obtain ⟨lp2, rp2, mm2, hm2, U4⟩ := abc U3
   obtain ⟨_, e1, _, _⟩ := my U4
   simp [e1]
   have U5 : St w0 w5 (kb lp2 hb _ :: fy hb _ :: fu q (mo hb lp2 rp2 _) T.i :: jz rp2 .u64 mm2 :: R) := St.s22 U4
   have hfew : (wrF L D (jl m)).1.1.fk.length ≤ 1000000 := by
    have hw := ajz I.uk hbl (by rw [hall]; exact hf)
    generalize wrF L D (jl m) = z at *
    cases hw with
    | ok L' D' g' => have := g'.vir.len; simp only; omega
    | qf => simp at h0
    | ga => simp at h0
   refine baj U5 hfew _ fun w6 U6 => ?_
   have U7 := adr hm2 (St.s22 U6)
   exact hok' w6 (by simpa using U7)
  ·simp [h0]
   exact hbad rfl hd h0 w5 (by simpa using U3)
end
set_option maxRecDepth 100000
open Go.Eng Go.Proofs.YtfnhoaemapheoaaGreat.Sint
def wt (m : im) (p : Pk) (ls : List Spn) (lm : List Mem) (lu : List Int) : Pk := if rn p ls lm lu = true then ahi (iu m (decide (p.fx = 6)) p.tr p.b p.v).1 p.tr p.b (iu m (decide (p.fx = 6)) p.tr p.b p.v).2 (decide (p.fx = 6)) else pkZ
section
variable {w0 w : World} {R : List Asn} {v : Value} {m : im} {p : Pk} {ls : List Spn} {lm : List Mem} {lu : List Int}
end
set_option maxRecDepth 100000
open Go.Eng Go.Proofs.YtfnhoaemapheoaaGreat.Sint
section
variable {w0 w : World} {R : List Asn} {q hb : Nat} {m : im} {L : Lg} {dn : Bool}
end
set_option maxRecDepth 100000
open Go.Eng Go.Proofs.YtfnhoaemapheoaaGreat.Sint
section
variable {w0 w : World} {R : List Asn} {p hb : Nat} {v : Value} {L : Lg} {D : Dk} {s f : Int} {G : Nat} {l : List PB} {ls : List (List Int)} {vs : List SV}
end
set_option maxRecDepth 100000
open Go.Eng Go.Proofs.YtfnhoaemapheoaaGreat.Sint
theorem avd {L : Lg} {s f : Int} (h : Chn s f L.fk) (h0 : L.fk = [] → f = 0) : L.ji = f := by
 unfold Lg.ji
 cases hq : L.fk with
 | nil => exact (h0 hq).symm
 | cons q r => rw [hq] at h; exact h.2.1
def Cut (ds : List (List Int)) (F : Nat) (m1 m2 : im) : Prop := ∀ j, F ≤ (ds.take j).length → jg (ds.take j) = m1 ∨ jg (ds.take j) = m2
theorem acd {ds : List (List Int)} {F : Nat} {m : im} (h : sq ds F m) : Cut ds F m m := fun j hj => .inl (aag h hj)
theorem awp {ds : List (List Int)} {F : Nat} {m : im} {p : Int × Rg} (h : sq ds F m) (hF : F ≤ ds.length) (hp : okE p) : Cut (ds ++ [kz p.1 p.2]) F m (ny m p.1 p.2) := fun j hj => amu h hF hp hj
theorem bbl {ds : List (List Int)} {F : Nat} {m : im} (p : im) (h : sq ds F m) : Cut ds F m p := fun j hj => .inl (aag h hj)
theorem aix (n : Int) : ∀ (qs : List Prt) (D : Dk), (ka n qs D).1.2.ie = D.ie ∧ (ka n qs D).1.2.gr = D.gr ∧ (ka n qs D).1.2.left = D.left
 | [], D => ⟨rfl, rfl, rfl⟩
 | [_], D => ⟨rfl, rfl, rfl⟩
 | q :: q2 :: r, D => by
  have hr : (D.na q.no).1.ie = D.ie ∧ (D.na q.no).1.gr = D.gr ∧ (D.na q.no).1.left = D.left := by
   unfold Dk.na
   split
   ·exact ⟨rfl, rfl, rfl⟩
   ·split <;> exact ⟨rfl, rfl, rfl⟩
  rw [ka]
  split
  ·split
   ·have := aix n (q2 :: r) (D.na q.no).1
    rw [this.1, this.2.1, this.2.2]
    exact hr
   ·exact hr
  ·exact ⟨rfl, rfl, rfl⟩
theorem agt (gr ge : Int) : mj 0 0 ⟨ge, []⟩ 0 ⟨gr, 0, false, false, []⟩ :=
 ⟨⟨trivial, by omega, by omega, by simp, by simp [ft], .inl ⟨rfl, rfl, rfl⟩, fun _ => ⟨rfl, rfl⟩, fun q h => by simp at h⟩, fun q h => by simp at h, rfl⟩
theorem aig (gr ge : Int) : RI 0 0 ⟨ge, []⟩ 0 ⟨gr, 0, false, false, []⟩ [] :=
 ⟨agt gr ge, fun d hd => by simp [ft] at hd, fun j _ => by simp [ft, jg], Nat.zero_le _⟩
section
variable {w0 w : World} {R : List Asn} {q hb : Nat} {m m1 m2 : im} {L : Lg} {D : Dk} {G : Nat} {s f : Int} {Q : List Prt} {x : Prop} {ge : Int}
theorem abb (S : St w0 w (fy hb D :: R)) (hv : Vir s f Q G D x) (hd : D.ga = false) (hm : 64 ≤ ge ∧ ge ≤ 1048576) (hr : td (ft Q)) (hc : Cut (ft Q) G m1 m2) {K : KV}
  (h : ∀ w' q m' s' f' L' D', (m' = m1 ∨ m' = m2) → RI s' f' L' (ft L'.fk).length D' m' → L'.ge = ge → f' + (ft L'.fk).length ≤ f + (ft Q).length → D'.ie = D.ie → D'.gr = D.gr → (x → L'.fk = Q) → (ft L'.fk).length ≤ (ft Q).length → St w0 w' (ju q hb m' L' false :: fy hb D' :: R) → K (.tuple #[ik q, .int .i64 0]) w') : fg P F.bb [.pointer (some ⟨hb, 0, none⟩), .int .i64 ge] w K := by
 obtain ⟨s', f', Q', D', eo, g, e2, e3, ⟨j, e4⟩, e5, _, e6, _, _, e7⟩ := bbz hv hd hm
 obtain ⟨y1, y2, y3, y4, _, y6, _⟩ := alz g.vir g.up
 have hr' : td (ft Q') := by rw [e4]; exact avr hr j
 refine ayw S (by omega) eo g y1 hr' fun w2 q S2 => ?_
 have hl : (ft Q').length ≤ (ft Q).length := by rw [e4]; exact List.length_take_le' _ _
 have hcm : jg (ft Q') = m1 ∨ jg (ft Q') = m2 := by rw [e4]; exact hc j (by rw [← e4]; exact e5)
 exact h w2 q (jg (ft Q')) s' f' ⟨ge, Q'⟩ _ hcm ⟨⟨y2, g.size, y3⟩, hr', zs _, Nat.le_refl _⟩ rfl (by show f' + ((ft Q').length : Int) ≤ _; omega) (by rw [y4, e2]) (by rw [y6, e3]) (fun hx => (e6 hx).2.1) hl S2
inductive ahs (s f : Int) (ge : Int) (B : Int) (arm : Bool) (gr : Int) (m1 m2 : im) : Int → im → Bool → Lg → Dk → Prop
 | ok (F : Nat) (L : Lg) (D : Dk) (s' f' : Int) : RI s' f' L F D m2 → L.ge = ge → f' + (ft L.fk).length ≤ B → (arm = false → D.ie = false) → D.gr = gr → ahs s f ge B arm gr m1 m2 0 m2 false L D
 | qf (F : Nat) (L : Lg) (D : Dk) : RI s f L F D m1 → L.ge = ge → f + (ft L.fk).length ≤ B → (arm = false → D.ie = false) → D.gr = gr → ahs s f ge B arm gr m1 m2 9 m1 false L D
 | ga (F : Nat) (L : Lg) (D : Dk) (Q : List Prt) : arm = true → D.ga = true → Vir s f Q F D False → td (ft Q) → Cut (ft Q) F m1 m2 → f + (ft Q).length ≤ B → D.gr = gr → L.ge = ge → f + (ft L.fk).length ≤ B → ahs s f ge B arm gr m1 m2 10 m1 true L D
variable {p : Pk} {ls : List Spn} {lm : List Mem} {lu : List Int} {F0 : Nat}
theorem adi {B : Int} {k : Int × Rg} (I : RI s f L F0 D m) (hp : okE k) (hB : f + (ft L.fk).length + 1 ≤ B) (hB2 : B ≤ 1000000000000) :
  ((nl L D k.1 k.2).2 = 0 → ahs s f L.ge B D.ie D.gr m (ny m k.1 k.2) 0 (ny m k.1 k.2) false (nl L D k.1 k.2).1.1 (nl L D k.1 k.2).1.2) ∧ ((nl L D k.1 k.2).2 ≠ 0 → ahs s f L.ge B D.ie D.gr m (ny m k.1 k.2) (nl L D k.1 k.2).2 m (decide ((nl L D k.1 k.2).2 = 10)) (nl L D k.1 k.2).1.1 (nl L D k.1 k.2).1.2) := by
 have hw : WrR s f L F0 D [kz k.1 k.2] (nl L D k.1 k.2) := ajz I.uk (fun b hb => by rw [List.mem_singleton.1 hb, xn]; omega) (by simp; omega)
 have hsnoc : ∀ {ds : List (List Int)}, td ds → td (ds ++ [kz k.1 k.2]) := fun {ds} hr d hd => by
  rcases List.mem_append.1 hd with hd | hd
  ·exact hr d hd
  ·exact ⟨k, hp, List.mem_singleton.1 hd⟩
 generalize nl L D k.1 k.2 = z at *
 cases hw with
 | ok L' D' g e1 e2 e3 e4 =>
  refine ⟨fun _ => .ok _ L' D' s f ⟨g, by rw [e1]; exact hsnoc I.fq, ?_, Nat.le_refl _⟩ e2 (by rw [e1, List.length_append, List.length_singleton]; omega) e4 e3, fun h => by simp at h⟩
  have : ny m k.1 k.2 = jg (ft L'.fk) := by rw [e1, aeg hp.1 hp.2.1 hp.2.2.1 hp.2.2.2, I.arh]
  rw [this]
  exact zs _
 | qf i L' D' hi g e1 e2 e3 e4 =>
  refine ⟨fun h => by simp at h, fun _ => ?_⟩
  have hi0 : i = 0 := by simpa using hi
  rw [hi0, List.take_zero, List.append_nil] at e1
  exact .qf F0 L' D' ⟨g, by rw [e1]; exact I.fq, by rw [e1]; exact I.set, by rw [e1]; exact I.le⟩ e2 (by rw [e1]; omega) e4 e3
 | ga i L' D' Q b1 b2 b3 b4 b5 b6 b7 b8 =>
  refine ⟨fun h => by simp at h, fun _ => ?_⟩
  have hQ : Cut (ft Q) F0 m (ny m k.1 k.2) ∧ td (ft Q) := by
   cases i with
   | zero => rw [b6, List.take_zero, List.append_nil]; exact ⟨bbl _ I.set, I.fq⟩
   | succ i => rw [b6, List.take_of_length_le (by simp)]; exact ⟨awp I.set I.le hp, hsnoc I.fq⟩
  exact .ga F0 L' D' Q b1 b4 b5 hQ.2 hQ.1 (by rw [b6, List.length_append, List.length_take, List.length_singleton]; omega) b7 b2 (by simp at b8; omega)
theorem ayk {B : Int} (S : St w0 w (ju q hb m L false :: fy hb D :: R)) (hp : pu w0 p ls lm lu) (hr : wv p) (I : RI s f L F0 D m) (hB : f + (ft L.fk).length + 1 ≤ B) (hB2 : B ≤ 1000000000000) {K : KV}
  (hno : rn p ls lm lu = false → ∀ w', St w0 w' (ju q hb m L false :: fy hb D :: R) → K (.tuple #[pkA pkZ, .int .i64 6]) w')
  (hl : rn p ls lm lu = true → ∀ w' e m' dn' L' D', ahs s f L.ge B D.ie D.gr m (su m (decide (p.fx = 6)) p.tr p.b p.v) e m' dn' L' D' → St w0 w' (ju q hb m' L' dn' :: fy hb D' :: R) → K (.tuple #[pkA (if e = 0 then wt m p ls lm lu else pkZ), .int .i64 e]) w') :
  fg P F.k [ik q, pkA p] w K := by
 have up : D.ga = false := I.uk.up
 have hfin : ∀ (hae : rn p ls lm lu = true), okE (p.tr, (iu m (decide (p.fx = 6)) p.tr p.b p.v).1) := fun hae => by
  obtain ⟨_, htr, _⟩ := ahj hae hr
  exact agm I.ok hr.tr htr hr.b
 refine akj S (fun w' R' S' => hp.fr S'.fr) hr (fun _ _ => ⟨F0, I⟩) (by omega) hno (fun _ hd => by rw [up] at hd; cases hd) (fun hae _ _ he w' S' => ?_) (fun hae _ _ hne h0 w' S' => ?_) fun hae _ _ hne h0 w' S' => ?_
 ·have hM := adl (m := m) (jr := decide (p.fx = 6)) (tr := p.tr) (b := p.b) (v := p.v) I.asc
  rw [if_pos he] at hM
  have := hl hae w' 0 m false L D (by rw [hM]; exact .ok F0 L D s f I rfl (by omega) id rfl) S'
  unfold wt at this
  rw [if_pos rfl, if_pos hae] at this
  exact this
 ·have hM := adl (m := m) (jr := decide (p.fx = 6)) (tr := p.tr) (b := p.b) (v := p.v) I.asc
  rw [if_neg hne] at hM
  have := hl hae w' _ m _ _ _ (by rw [hM]; exact (adi I (hfin hae) hB hB2).2 h0) S'
  rw [if_neg h0] at this
  exact this
 ·have hM := adl (m := m) (jr := decide (p.fx = 6)) (tr := p.tr) (b := p.b) (v := p.v) I.asc
  rw [if_neg hne] at hM
  have := hl hae w' 0 _ false _ _ (by rw [hM]; exact (adi I (hfin hae) hB hB2).1 h0) S'
  unfold wt at this
  rw [if_pos rfl, if_pos hae] at this
  exact this
theorem ayg {B : Int} (S : St w0 w (ju q hb m L false :: fy hb D :: R)) (I : RI s f L F0 D m) (hB : f + (ft L.fk).length + m.length ≤ B) (hB2 : B ≤ 1000000000000) (hml : m.length ≤ 50000) {K : KV}
  (hl : ∀ w' e dn' L' D', ahs s f L.ge B D.ie D.gr m m e m dn' L' D' → (e = 0 → m.length ≤ (ft L'.fk).length ∧ (ft L'.fk).length ≤ m.length + (ft L.fk).length) → St w0 w' (ju q hb m L' dn' :: fy hb D' :: R) → K (.int .i64 e) w') :
  fg P F.ac [ik q] w K := by
 have up : D.ga = false := I.uk.up
 have hall : (jl m).length = m.length := by unfold jl; simp
 have hw := ajz (fq := jl m) I.uk (fun b hb => by
  unfold jl at hb
  obtain ⟨p, _, rfl⟩ := List.mem_map.1 hb
  rw [xn]; omega) (by rw [hall]; omega)
 refine aqr S (fun _ _ => ⟨F0, I⟩) (by omega) hml (fun hd => by rw [up] at hd; cases hd) (fun _ _ h0 w' S' => ?_) fun _ _ h0 w' S' => ?_
 ·refine hl w' _ _ _ _ ?_ (fun h => absurd h h0) S'
  generalize wrF L D (jl m) = z at *
  cases hw with
  | ok => simp at h0
  | qf i L' D' hi g e1 e2 e3 e4 =>
   have I2 := axi I g e1
   exact .qf F0 L' D' I2 e2 (by rw [e1, List.length_append, List.length_take, hall]; omega) e4 e3
  | ga i L' D' Q b1 b2 b3 b4 b5 b6 b7 b8 =>
   exact .ga F0 L' D' Q b1 b4 b5 (by rw [b6]; exact adm I.fq I.ok i) (by rw [b6]; exact acd (aec I.set I.le I.ok i)) (by rw [b6, List.length_append, List.length_take, hall]; omega) b7 b2 (by rw [hall] at b8; omega)
 ·have hc : afo L D m = Lg.drop (wrF L D (jl m)).1.1 (wrF L D (jl m)).1.2 (IntKind.i64.wrap (L.ji + (ft L.fk).length)) := by unfold afo; rw [if_pos h0]
  have hst : L.ji = f := avd I.uk.vir.chn fun h => (I.uk.vir.nil h).2
  have hf0 := I.uk.vir.f0
  have hwn : IntKind.i64.wrap (f + ((ft L.fk).length : Int)) = f + ((ft L.fk).length : Int) := fm (by omega) (by omega)
  rw [hst, hwn] at hc
  generalize wrF L D (jl m) = z at *
  cases hw with
  | qf => simp at h0
  | ga => simp at h0
  | ok L' D' g e1 e2 e3 e4 =>
   simp only at hc
   obtain ⟨most', qs⟩ := L'
   simp only at e1 e2 g
   obtain ⟨s', f', h1, h2, ⟨a, ⟨ha, hfa⟩, h3⟩, h4⟩ := axa g e1 I.arh I.ok
   have hnx := ags (L := ⟨most', qs⟩) g.vir.chn g.vir.s0 (fun h => (g.vir.nil h).2) g.vir.f0 g.vir.few
   simp only at hnx
   have hd : Lg.drop ⟨most', qs⟩ D' (f + ((ft L.fk).length : Int)) = ((⟨most', (ka (f + ((ft L.fk).length : Int)) qs D').1.1⟩, (ka (f + ((ft L.fk).length : Int)) qs D').1.2), 0) := by
    unfold Lg.drop
    rw [if_neg (by
     have : (ft qs).length = (ft L.fk).length + (jl m).length := by rw [e1]; simp
     omega), g.up]
    simp only [Bool.false_eq_true, if_false]
    rw [h1]
   rw [hd] at hc
   rw [hc] at S' ⊢
   obtain ⟨k1, k2, _⟩ := aix (f + ((ft L.fk).length : Int)) qs D'
   have hlen : (ft (ka (f + ((ft L.fk).length : Int)) qs D').1.1).length = (ft L.fk).length - a + m.length := by rw [h3, List.length_append, List.length_drop, hall]
   have hrr : td ((ft L.fk).drop a ++ jl m) := fun d hd => by
    rcases List.mem_append.1 hd with hd | hd
    ·exact I.fq d (List.mem_of_mem_drop hd)
    ·exact adm I.fq I.ok m.length d (List.mem_append_right _ (by rw [List.take_of_length_le (by omega)]; exact hd))
   refine hl w' 0 false _ _ (.ok _ _ _ s' f' ⟨h2, by rw [h3]; exact hrr, by rw [← h4]; exact zs _, Nat.le_refl _⟩ e2 ?_ (fun h => by rw [k1]; exact e4 h) (by rw [k2, e3])) (fun _ => by simp only; omega) S'
   simp only
   omega
end
set_option maxRecDepth 100000
open Go.Eng Go.Proofs.YtfnhoaemapheoaaGreat.Sint
theorem arn {s f : Int} {L : Lg} {G : Nat} {D : Dk} (g : mj s f L G D) (h : L.fk = []) : D.gp = 0 := by
 rcases g.vir.dsc with ⟨_, hf, _⟩ | ⟨Q0, q, _, _, _, hq, _⟩
 ·unfold Dk.gp; rw [hf]; rfl
 ·rw [h] at hq; simp at hq
theorem awv {s f : Int} {L : Lg} {G : Nat} {D : Dk} {k : Int} {r : Rg} (g : mj s f L G D) (hn : f + (ft L.fk).length + 1 ≤ 1000000000000) (h1 : L.fk.length < 63) (h2 : D.ie = false) (h3 : (D.gp : Int) + 65 ≤ D.gr) : (nl L D k r).2 = 0 := by
 have ha := axh (b := kz k r) g hn
 have hb := xn k r
 unfold nl
 have h0 : (L.append D (kz k r)).2 = 0 := by
  generalize L.append D (kz k r) = z at *
  cases ha with
  | aiz hx => omega
  | qf D' hx _ _ _ => rcases hx with hx | hx <;> omega
  | ga D' Q hx => rw [h2] at hx; cases hx
  | ok => rfl
 rw [amo h0]
 generalize L.append D (kz k r) = z at *
 cases ha with
 | aiz hx => simp at h0
 | qf => simp at h0
 | ga => simp at h0
 | ok L' D' g' =>
  have e0 : wrF L' D' [] = ((L', (L'.lh D').1), (L'.lh D').2) := by unfold wrF pn; simp
  rw [e0]
  exact (alz g'.vir g'.up).1
section
variable {w0 w : World} {R : List Asn} {q hb : Nat} {m : im} {L : Lg} {D : Dk} {s f : Int} {p : Pk} {ls : List Spn} {lm : List Mem} {lu : List Int} {F0 : Nat}
theorem aur {B : Int} (S : St w0 w (ju q hb m L false :: fy hb D :: R)) (hp : pu w0 p ls lm lu) (hr : wv p) (I : RI s f L F0 D m) (hB : f + (ft L.fk).length + 1 ≤ B) (hB2 : B ≤ 1000000000000) (hae : rn p ls lm lu = true) (h1 : L.fk.length < 63) (h2 : D.ie = false) (h3 : (D.gp : Int) + 65 ≤ D.gr) {K : KV}
  (hl : ∀ w' s' f' F' L' D', RI s' f' L' F' D' (su m (decide (p.fx = 6)) p.tr p.b p.v) → L'.ge = L.ge → f' + (ft L'.fk).length ≤ B → D'.ie = false → D'.gr = D.gr → St w0 w' (ju q hb (su m (decide (p.fx = 6)) p.tr p.b p.v) L' false :: fy hb D' :: R) → K (.tuple #[pkA (wt m p ls lm lu), .int .i64 0]) w') :
  fg P F.k [ik q, pkA p] w K := by
 have up : D.ga = false := I.uk.up
 obtain ⟨_, htr, _⟩ := ahj hae hr
 have hok : okE (p.tr, (iu m (decide (p.fx = 6)) p.tr p.b p.v).1) := agm I.ok hr.tr htr hr.b
 have hM := adl (m := m) (jr := decide (p.fx = 6)) (tr := p.tr) (b := p.b) (v := p.v) I.asc
 have hPk : wt m p ls lm lu = ahi (iu m (decide (p.fx = 6)) p.tr p.b p.v).1 p.tr p.b (iu m (decide (p.fx = 6)) p.tr p.b p.v).2 (decide (p.fx = 6)) := by unfold wt; rw [if_pos hae]
 rw [hPk] at hl
 have hw0 : ∀ r, (nl L D p.tr r).2 = 0 := fun r => awv I.uk (by omega) h1 h2 h3
 refine akj S (fun w' R' S' => hp.fr S'.fr) hr (fun _ _ => ⟨F0, I⟩) (by omega) (fun he => by rw [hae] at he; cases he) (fun _ hd => by rw [up] at hd; cases hd) (fun _ _ _ he w' S' => ?_) (fun _ _ _ hne h0 => absurd (hw0 _) h0) fun _ _ _ hne h0 w' S' => ?_
 ·rw [if_pos he] at hM
  rw [hM] at hl
  exact hl w' s f F0 L D I rfl (by omega) h2 rfl S'
 ·rw [if_neg hne] at hM
  rw [hM] at hl
  have hL := (adi I hok hB hB2).1 h0
  simp only at hL
  generalize (nl L D p.tr (iu m (decide (p.fx = 6)) p.tr p.b p.v).1).1 = z at *
  cases hL with
  | ok F1 _ _ s' f' I' e1 e2 e3 e4 => exact hl w' s' f' F1 _ _ I' e1 e2 (e3 h2) e4 S'
end
theorem bbg {w : World} {K : KV} (h : ∀ w', Fr (fun _ => False) w w' → K (.bool true) w') : fg P F.bn [] w K := by
 rw [M.bt.fcall]
 apply M.bt.calls
 unfold M.bt
 refine aqz (St.ji w) 10000 (fun h => by omega) fun _ _ w1 hb S1 => ?_
 simp
 refine abb (m1 := []) (m2 := []) S1 (agt 10000 256).vir rfl (by omega) (aig 10000 256).fq (acd (aig 10000 256).set) fun w2 q m' s f L D hm I hmost hfl harm hroom hx _ S2 => ?_
 have hm' : m' = [] := by rcases hm with h | h <;> exact h
 subst hm'
 have hp0 : L.fk = [] := hx trivial
 simp only [ik]
 simp
 unfold M.bt.j0
 simp
 have S3 : St w (w2.alloc (.cells #[.int .u64 0, .int .u64 0] T.c)) (fu w2.heap.size #[.int .u64 0, .int .u64 0] T.c :: _) := S2.mkB #[.int .u64 0, .int .u64 0] T.c
 generalize w2.heap.size = bb at *
 generalize w2.alloc _ = w3 at *
 refine St.put (cs' := #[.int .u64 3, .int .u64 1]) (vs := [.int .u64 3, .int .u64 1]) S3 (by simp) (by simp) rfl fun w4 S4 => ?_
 have bl : ∀ {w' : World} {L' : List Asn}, St w w' (fu bb #[.int .u64 3, .int .u64 1] T.c :: L') → ∀ K, ldN P 2 bb 0 w' K = K (jy ⟨3, 1⟩) w' := fun S' K => S'.ldA [.int .u64 3, .int .u64 1] rfl rfl K
 rw [bl S4]
 unfold jy
 simp
 have ep : Value.agg #[.int .i64 4, .int .u64 5, .int .u64 3, .int .u64 1, .int .u64 0, .int .u64 0, .int .i64 0, .bool false, .slice none 0 0, .slice none 0 0, .slice none 0 0] = pkA (pk0 4 5 ⟨3, 1⟩ ic 0 false) := rfl
 rw [ep]
 have hae : rn (pk0 4 5 ⟨3, 1⟩ ic 0 false) [] [] [] = true := by decide
 have hrng : wv (pk0 4 5 ⟨3, 1⟩ ic 0 false) := ⟨⟨by decide, by decide⟩, ⟨⟨by decide, by decide⟩, by decide, by decide⟩, ⟨by decide, by decide⟩, by decide, by decide⟩
 have hM : su [] (decide ((pk0 4 5 ⟨3, 1⟩ ic 0 false).fx = 6)) (pk0 4 5 ⟨3, 1⟩ ic 0 false).tr (pk0 4 5 ⟨3, 1⟩ ic 0 false).b (pk0 4 5 ⟨3, 1⟩ ic 0 false).v = [(5, ⟨⟨3, 1⟩, ic, 0⟩)] := by rfl
 have hP : wt [] (pk0 4 5 ⟨3, 1⟩ ic 0 false) [] [] [] = pk0 5 5 ⟨3, 1⟩ ic 0 true := by rfl
 have hu : D.gp = 0 := arn I.uk hp0
 refine aur (B := 1) (St.dn2 S4) (bcr _ _ _ _ _ _ _) hrng I (by rw [hp0] at hfl ⊢; simp [ft] at hfl ⊢; omega) (by omega) hae (by rw [hp0]; simp) harm (by rw [hu, hroom]; simp) fun w5 s2 f2 F2 L2 D2 I2 hm2 hb2 ha2 hr2 S5 => ?_
 rw [hM] at I2 S5
 rw [hP]
 simp
 have S6 := ais S5
 generalize w5.heap.size = tb at *
 generalize w5.alloc _ = w6 at *
 unfold pkA pkC
 simp
 refine alw (q := pk0 5 5 ⟨3, 1⟩ ic 0 true) S6 rfl (vz _ _ _ _ _ _) fun w7 S7 => ?_
 refine aom (kl := []) S7.up2 (fun _ _ _ => Sl.nil) fun w8 S8 => ?_
 obtain ⟨c1, c2, c3, c4⟩ := ave I2.uk.vir []
 refine abb (m1 := [(5, ⟨⟨3, 1⟩, ic, 0⟩)]) (m2 := [(5, ⟨⟨3, 1⟩, ic, 0⟩)]) S8 c1 c2 (by omega) I2.fq (acd I2.set) fun w9 q2 m' s3 f3 L3 D3 hm3 I3 _ _ _ _ _ _ S9 => ?_
 have hm' : m' = [(5, ⟨⟨3, 1⟩, ic, 0⟩)] := by rcases hm3 with h | h <;> exact h
 subst hm'
 have Z := S9.iq ((Fr.refl _ w9).dr 1)
 obtain ⟨k0, _, _, _, _, k7, _⟩ := lq Z.up2
 simp only [pg] at k0 k7
 have b9 := bl Z.up4
 simp [k0, k7, b9, pk0, ik]
 refine aug Z 5 fun w10 Z1 => ?_
 have e5 : kw [(5, (⟨⟨3, 1⟩, ic, 0⟩ : Rg))] 5 = ⟨⟨3, 1⟩, ic, 0⟩ := rfl
 rw [e5]
 have b10 := bl Z1.up4
 simp [b10, ky]
 have eb : Value.agg #[.int .u64 3, .int .u64 1] = jy ⟨3, 1⟩ := rfl
 simp only [eb, rh]
 simp
 refine akn Z1 I3.asc (by simp) fun w11 tv Z2 => ?_
 have hl5 := fun w' K => (Z2.rd).ij (P := P) (t := T.g) (ty := T.a) (w := w') (by kernel_rfl) [false] (K := K)
 simp at hl5
 simp [hl5]
 exact h w11 Z2.fr
set_option maxRecDepth 100000
open Go.Eng Go.Proofs.YtfnhoaemapheoaaGreat.Sint
structure ahq where
 fx : Int
 n : Int
 p : Pk
 ls : List Spn
 lm : List Mem
 lu : List Int
 kv : Value
 jd : List Int
def ajs (x : ahq) : List Value := .int .i64 x.fx :: .int .i64 x.n :: (pkC x.p ++ [x.kv])
def aaq (w : World) (b o : Nat) (x : ahq) : Prop := (∀ j u, (ajs x)[j]? = some u → fo w b (o + j) = some u) ∧ aai w x.p x.ls x.lm x.lu ∧ wv x.p ∧ LsR x.ls x.lm x.lu ∧ Sl w 1 pi x.kv x.jd ∧ x.n < 9223372036854775808
theorem bbe {x : Int} (h : (Lit.int .i64 x).wf = true) : x < 9223372036854775808 := by
 simp [Lit.wf, IntKind.min, IntKind.max, IntKind.bits, IntKind.signed] at h
 omega
theorem bcp {w : World} {n : Nat} {v : Value} (h : TV P w n T.h [v]) : ∃ l, Sl w 1 pi v l := by
 refine aal (sz := 1) (rd := rdE pi) (e := T.a) (by kernel_rfl) (by kernel_rfl) (by decide) (fun n b o cs ht hl hc => ?_) h
 obtain ⟨x, hx, _⟩ := ph (k := .i64) (by kernel_rfl) ht
 subst hx
 exact ⟨x, fun j u hj => hc j u hj⟩
theorem azh {w : World} {n : Nat} {v : Value} (h : TV P w n T.ae [v]) : ∃ l, ro w 14 aaq v l := by
 have hel := et.ae
 refine aal (sz := 14) (rd := aaq) (e := T.an) hel.ty (by kernel_rfl) (by decide) (fun n b o cs ht hl hc => ?_) h
 have hu := Tryz.underlying56
 obtain ⟨_, hf⟩ := yl hu ht
 obtain ⟨m0, t0⟩ : ∃ m, TV P w m T.a ((cs.drop 0).take (P.cellsOf T.a)) := hf 0 _ rfl
 obtain ⟨m1, t1⟩ : ∃ m, TV P w m T.a ((cs.drop 1).take (P.cellsOf T.a)) := hf 1 _ rfl
 obtain ⟨m2, t2⟩ : ∃ m, TV P w m T.b ((cs.drop 2).take (P.cellsOf T.b)) := hf 2 _ rfl
 obtain ⟨m3, t3⟩ : ∃ m, TV P w m T.h ((cs.drop 13).take (P.cellsOf T.h)) := hf 3 _ rfl
 have c0 : P.cellsOf T.a = 1 := by kernel_rfl
 have c1 : P.cellsOf T.b = 11 := by kernel_rfl
 have c2 : P.cellsOf T.h = 1 := by kernel_rfl
 match cs, hl with
 | [u0, u1, u2, u3, u4, u5, u6, u7, u8, u9, u10, u11, u12, u13], _ =>
  simp only [c0, c1, c2, List.drop_zero, List.drop_succ_cons, List.take_succ_cons, List.take_zero] at t0 t1 t2 t3
  obtain ⟨x0, e0, _⟩ := ph (k := .i64) (by kernel_rfl) t0
  obtain ⟨x1, e1, w1⟩ := ph (k := .i64) (by kernel_rfl) t1
  obtain ⟨p, ls, lm, lu, ep, hp, hr, hls⟩ := bdw t2
  obtain ⟨l3, s3⟩ := bcp t3
  simp only [List.cons.injEq, and_true] at e0 e1
  subst e0 e1
  refine ⟨⟨x0, x1, p, ls, lm, lu, u13, l3⟩, ?_, hp, hr, hls, s3, bbe w1⟩
  have e : ajs ⟨x0, x1, p, ls, lm, lu, u13, l3⟩ = [.int .i64 x0, .int .i64 x1, u2, u3, u4, u5, u6, u7, u8, u9, u10, u11, u12, u13] := by
   unfold ajs
   rw [← ep]
   rfl
  rw [e]
  exact fun j u hj => hc j u hj
section
variable {w0 w w' : World} {R : List Asn} {v : Value} {l : List ahq}
theorem aqf {b o : Nat} {x : ahq} (hb : b < w.heap.size) (h : aaq w b o x) (hf : Fr (fun _ => False) w w') : aaq w' b o x :=
 ⟨fun j u hj => by rw [un (hf.jd b hb fun h => h)]; exact h.1 j u hj, h.2.1.fr hf, h.2.2.1, h.2.2.2.1, h.2.2.2.2.1.fr hf fun _ _ _ h => h, h.2.2.2.2.2⟩
theorem axf (h : ro w 14 aaq v l) (hf : Fr (fun _ => False) w w') : ro w' 14 aaq v l := h.jd hf.size fun b o x hb hr => aqf hb hr hf
theorem ani (h : ro w 14 aaq v l) {i : Nat} (hi : i < l.length) : ∃ b o, (∀ w' K, iaT P T.ae v (.int .i64 (i : Nat)) w' K = K (.pointer (some ⟨b, o, none⟩)) w') ∧ b < w.heap.size ∧ aaq w b o l[i] := by
 have hss : szE P T.ae = 14 := by kernel_rfl
 obtain ⟨a, cap, hv, _, _, h3⟩ := h
 obtain ⟨b, o, rfl, hb, hr⟩ := h3 i l[i] (List.getElem?_eq_getElem hi)
 exact ⟨b, o + i * 14, fun w' K => by rw [hv]; simp [hi], hb, hr⟩
theorem adk {b o : Nat} {x : ahq} (h : aaq w b o x) : fo w b o = some (.int .i64 x.fx) ∧ fo w b (o + 1) = some (.int .i64 x.n) ∧ (∀ K, ldN P 11 b (o + 2) w K = K (pkA x.p) w) ∧ fo w b (o + 13) = some x.kv :=
 ⟨h.1 0 _ rfl, h.1 1 _ rfl, fun K => wu (pkC x.p) 11 rfl (fun k u hk => by
  have hlt : k < (pkC x.p).length := (List.getElem?_eq_some_iff.1 hk).1
  have := h.1 (k + 2) u (by show (pkC x.p ++ [x.kv])[k]? = some u; rw [List.getElem?_append_left hlt]; exact hk)
  rw [show o + 2 + k = o + (k + 2) by omega]; exact this) K, h.1 13 _ rfl⟩
def bev (W : World) (l : List ahq) : KL := fun x w1 => ∃ (u : Value) (i : Nat), x = [u, .int .i64 (i : Nat)] ∧ Fr (fun _ => False) W w1 ∧ i ≤ l.length ∧ ∀ (j : Nat) y, l[j]? = some y → j < i → ahv y.ls y.lm y.lu
theorem bae (hs : ro w 14 aaq v l) {K : KV} (h : ∀ bb w', (bb = true → l.length ≤ 60 ∧ ∀ x ∈ l, ahv x.ls x.lm x.lu) → Fr (fun _ => False) w w' → K (.bool bb) w') : fg P F.cr [v] w K := by
 rw [M.be.fcall]
 apply M.be.calls
 unfold M.be
 have hlen : ∀ w' K, biT P .len #[T.ae] T.a [false] [v] w' K = K (.int .i64 l.length) w' := fun w' K => hs.ij (by kernel_rfl) [false]
 by_cases hl : 60 < l.length
 ·have : (60 : Int) < l.length := by omega
  simp [hlen, this]
  exact h false w (fun h => by cases h) (Fr.refl _ _)
 have hn : ¬ (60 : Int) < l.length := by omega
 simp [hlen, hn]
 unfold M.be.j0
 simp only [fj]
 refine ⟨bev w l, fun x _ => l.length - ms x 1, ⟨_, 0, rfl, Fr.refl _ _, Nat.zero_le _, fun j k _ h => by omega⟩, ?_⟩
 rintro x w1 ⟨u, i, rfl, f1, hi, hz⟩
 by_cases hil : i < l.length
 ·obtain ⟨b, o, hia, hb, hr⟩ := ani (axf hs f1) hil
  obtain ⟨_, _, k2, _⟩ := adk hr
  have hwi : IntKind.i64.wrap ((i : Int) + 1) = ((i + 1 : Nat) : Int) := by rw [fm (by omega) (by omega)]; rfl
  simp [hlen, hil]
  unfold M.be.j3
  simp [hia, k2]
  refine atv hr.2.1 fun bb w2 hbb f2 => ?_
  cases bb with
  | false =>
   simp
   exact h false w2 (fun h => by cases h) (f1.trans f2)
  | true =>
   simp [hwi]
   refine ⟨⟨_, i + 1, rfl, f1.trans f2, by omega, fun j y hj hlt => ?_⟩, by simp [ms, gv]; omega⟩
   by_cases hji : j = i
   ·subst hji
    rw [List.getElem?_eq_getElem hil] at hj
    cases hj
    exact hbb rfl
   ·exact hz j y hj (by omega)
 ·simp [hlen, hil]
  refine h true w1 (fun _ => ⟨by omega, fun x hx => ?_⟩) f1
  obtain ⟨j, hj, rfl⟩ := List.getElem_of_mem hx
  exact hz j _ (List.getElem?_eq_getElem hj) (by omega)
end
set_option maxRecDepth 100000
open Go.Eng Go.Proofs.YtfnhoaemapheoaaGreat.Sint
theorem ayv (l : im) (k : Int) (r : Rg) : (ny l k r).length ≤ l.length + 1 := by
 induction l with
 | nil => simp [ny]
 | cons p t ih =>
  obtain ⟨x, y⟩ := p
  rw [ny]
  split
  ·simp; omega
  ·split <;> simp
theorem aue (m : im) (jr : Bool) (tr : Int) (b : Bal) (v : Int) : (su m jr tr b v).length ≤ m.length + 1 := by
 unfold su
 split
 ·exact ayv _ _ _
 ·omega
theorem baq (m : im) (p : Pk) (ls : List Spn) (lm : List Mem) (lu : List Int) : ∀ u ∈ pkC (wt m p ls lm lu), jn u = true := by
 unfold wt ahi
 split <;> exact vz _ _ _ _ _ _
section
variable {w0 w w' : World} {L X R : List Asn} {v v' : Value} {m m' : im}
end
set_option maxRecDepth 100000
open Go.Eng Go.Proofs.YtfnhoaemapheoaaGreat.Sint
structure PkE where
 p : Pk
 ls : List Spn
 lm : List Mem
 lu : List Int
section
variable {w0 w w' : World} {R : List Asn} {v : Value} {l : List PkE}
end
set_option maxRecDepth 100000
open Go.Eng
def Tl (m : im) (t : Pk) : Prop := (kw m t.tr).p.lr t.b = false ∧ (t.fx = 6 → (kw m t.tr).t.lr t.b = false ∧ ((kw m t.tr).t = t.b → (kw m t.tr).v = t.v))
theorem ahe {r : Rg} (h : r.right = true) (hr : r.rng) : r.p.lr r.t = false := by
 unfold Rg.right at h
 split at h
 ·rename_i he
  rw [he]
  exact bdv hr.1
 ·simp only [Bool.and_eq_true] at h
  simpa using h.2
theorem anr {m : im} (ha : Asc m) (k : Int) (r : Rg) (k' : Int) : kw (ny m k r) k' = if k = k' then r else kw m k' := by
 unfold kw
 rw [acp ha]
 split <;> rfl
theorem bdi {m : im} {t : Pk} {tr v : Int} {jr : Bool} {b : Bal} (ho : ∀ p ∈ m, okE p) (he : t.tr = tr) (h : Tl m t) (hk : (iu m jr tr b v).2 = true) :
  (iu m jr tr b v).1.p.lr t.b = false ∧ (t.fx = 6 → (iu m jr tr b v).1.t.lr t.b = false ∧ ((iu m jr tr b v).1.t = t.b → (iu m jr tr b v).1.v = t.v)) := by
 obtain ⟨h1, h2⟩ := ajg ho tr
 obtain ⟨t1, t2⟩ := h
 rw [he] at t1 t2
 have hpt : (kw m tr).p.lr (kw m tr).t = false := by
  first
   | exact ahe h1 h2
   | exact ahe h2 h1
 unfold iu at *
 generalize kw m tr = r at *
 cases jr with
 | false =>
  simp only [Bool.false_eq_true, if_false] at *
  unfold Rg.qp at *
  split at hk
  ·rename_i hs
   rw [if_pos hs]
   unfold Rg.oc at hs
   simp only [Bool.and_eq_true] at hs
   have hb : b.lr r.p = false := by simpa using hs.2
   exact ⟨ug hb t1, t2⟩
  ·simp at hk
 | true =>
  simp only [if_true] at *
  unfold Rg.acc at *
  split at hk
  ·rename_i hs
   rw [if_pos hs]
   obtain ⟨hs, _, hn⟩ := hs
   unfold Rg.oc at hs
   simp only [Bool.and_eq_true] at hs
   have hb : b.lr r.p = false := by simpa using hs.2
   refine ⟨ug hb t1, fun h6 => ⟨ug hb t1, fun heq => ?_⟩⟩
   obtain ⟨u1, u2⟩ := t2 h6
   simp only at heq ⊢
   rw [← heq] at u1 u2
   have hbt : b.lr r.t = false := ug hb hpt
   have hrt : r.t = b := bbh u1 hbt
   rw [← u2 hrt]
   by_cases hv : r.v = v
   ·exact hv.symm
   ·exact absurd ⟨hrt, hv⟩ hn
  ·simp at hk
theorem bbv {m : im} {t : Pk} (ha : Asc m) (ho : ∀ p ∈ m, okE p) (jr : Bool) (tr : Int) (b : Bal) (v : Int) (h : Tl m t) : Tl (su m jr tr b v) t := by
 unfold su
 split
 ·rename_i hk
  unfold Tl
  rw [anr ha]
  split
  ·rename_i he
   exact bdi ho he.symm h hk
  ·exact h
 ·exact h
theorem bca {m : im} {p : Pk} (ha : Asc m) (hk : (iu m (decide (p.fx = 6)) p.tr p.b p.v).2 = true) : Tl (su m (decide (p.fx = 6)) p.tr p.b p.v) p := by
 unfold su
 rw [if_pos hk]
 unfold Tl
 rw [anr ha, if_pos rfl]
 unfold iu at *
 by_cases h6 : p.fx = 6
 ·rw [decide_eq_true h6, if_pos rfl] at hk ⊢
  unfold Rg.acc at *
  split at hk
  ·rename_i hs
   rw [if_pos hs]
   exact ⟨vj _, fun _ => ⟨vj _, fun _ => rfl⟩⟩
  ·simp at hk
 ·rw [decide_eq_false h6, if_neg (by simp)] at hk ⊢
  unfold Rg.qp at *
  split at hk
  ·rename_i hs
   rw [if_pos hs]
   exact ⟨vj _, fun h => absurd h h6⟩
  ·simp at hk
end Go.Proofs.YtfnhoaemapheoaaGreat
