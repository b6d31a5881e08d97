/-
  slices.Sorted(maps.Keys(m)) at the map type map_int_p_disk_file. No condition.
-/
import Derived.Test.YtfnhoaemapheoaaGreatZSpn0
import Derived.Test.YtfnhoaemapheoaaGreatZEngSl
import Derived.Test.YtfnhoaemapheoaaGreatM
import Derived.Test.YtfnhoaemapheoaaGreatFacts
set_option maxRecDepth 100000
namespace Go.Proofs.YtfnhoaemapheoaaGreat.KeyD
open Go.Eng Go.Sort Go.Proofs.YtfnhoaemapheoaaGreat.Sint
def KI (w W : World) (U : Nat → Prop) (r : Nat) (m : MP) (J : List Int → Asn) : KL := fun x w1 => ∃ (done : List Int) (U1 : Nat → Prop), x.length = 1 ∧ xh w1 W.heap.size r .i64 m done ∧ (J done.reverse).ok w1 U1 ∧ (∀ b, U1 b → w.heap.size ≤ b ∧ b < w1.heap.size ∧ b ≠ W.heap.size) ∧ Fr (fun b => w.heap.size ≤ b) W w1
theorem aas {w : World} {it r : Nat} {k : IntKind} {m : MP} {done : List Int} (h : xh w it r k m done) : done.Nodup ∧ ∀ x ∈ done, x ∈ im m := by
 obtain ⟨es, clk, since, c0, ic, _, _, _, _, _, _, _, _, _, h1, h2⟩ := h
 exact ⟨h1, h2⟩
theorem aig {w : World} {r Bm : Nat} {m : MP} {e : TypeId} (hm : nj w r .i64 m) (hn : (im m).Nodup) (hB : w.heap[Bm]? = some (.cells #[.map (some r)] e (0, 0))) (hl : m.length < 60000) :
  aii P F.b [.pointer (some ⟨Bm, 0, none⟩)] aab (fun xs => xs.Perm (im m)) 60000 w := by
 intro l J W U K hf hJ hU hround hend
 apply M.ad.calls
 unfold M.ad
 have hBm : W.heap[Bm]? = some (.cells #[.map (some r)] e (0, 0)) := hf.heap hB fun h => h
 have c0 := fm hBm 0
 simp only [List.size_toArray, List.getElem?_toArray, List.getElem?_cons_zero] at c0
 have hm' : nj W r .i64 m := hm.xu (hf.ip r hm.lt fun h => h)
 have hrw := hm.lt
 simp [c0]
 refine avc mt.o hm' fun w1 hi f1 => ?_
 have hWs := hf.size
 have hWlt := (hi.lt).1
 refine ⟨KI w W U r m J, fun _ w1 => tj w1 W.heap.size m.length, ⟨[], U, rfl, hi, (J []).ip hJ f1 fun _ _ h => h, fun b hb => ?_, f1.mono fun _ _ h => h.elim⟩, ?_⟩
 ·have := hU b hb
  have := f1.size
  exact ⟨by omega, by omega, by omega⟩
 rintro x w2 ⟨done, U1, hx1, hi2, hJ2, hU2, f2⟩
 unfold M.ad.j0
 refine avx hi2 hn T.bg (fun hall => ?_) fun y v w3 hy hyd hc3 f3 hlt => ?_
 ·have e0 : ∀ w K, exT P (.tuple #[.bool false]) 0 w K = K (.bool false) w := fun _ _ => rfl
  simp [e0]
  obtain ⟨h1, h2⟩ := aas hi2
  refine hend _ w2 done.reverse U1 ?_ hJ2 f2
  refine (List.reverse_perm done).trans ?_
  refine (List.perm_ext_iff_of_nodup h1 hn).2 fun z => ⟨h2 z, fun hz => ?_⟩
  obtain ⟨p, hp, rfl⟩ := List.mem_map.1 hz
  exact hall p hp
 ·simp
  rw [axd hc3]
  simp
  have hnit : ∀ b, U1 b → ¬ b = W.heap.size := fun b hb => (hU2 b hb).2.2
  have hJ3 := (J done.reverse).ip hJ2 f3 hnit
  have hlen : done.length < m.length := by
   obtain ⟨h1, h2⟩ := aas hi2
   have := sp (l := y :: done) (l' := im m) (List.nodup_cons.2 ⟨hyd, h1⟩) fun z hz => by
    rcases List.mem_cons.1 hz with rfl | hz
    ·exact List.mem_map_of_mem hy
    ·exact h2 z hz
   simp only [im, List.length_map, List.length_cons] at this
   omega
  have hs3 := f3.size
  refine hround done.reverse y w3 U1 _ hJ3 (fun b hb => ⟨(hU2 b hb).1, by have := (hU2 b hb).2.1; omega⟩) (by simp; omega) fun w4 U4 hJ4 hU4 f4 => ?_
  simp
  have hit : ¬ U1 W.heap.size := fun h => hnit _ h rfl
  have hr1 : ¬ U1 r := fun h => by have := (hU2 r h).1; omega
  have hi3 : xh w3 W.heap.size r .i64 m (y :: done) := hc3.1
  have hi4 := hi3.ip (f4.ip _ hi3.lt.1 hit) (f4.ip _ hi3.lt.2 hr1)
  refine ⟨⟨y :: done, U4, rfl, hi4, by simpa using hJ4, fun b hb => ?_, ?_⟩, ?_⟩
  ·rcases hU4 b hb with h | h
   ·have := hU2 b h
    have := f4.size
    exact ⟨by omega, by omega, by omega⟩
   ·have := hi3.lt.1
    have := f2.size
    exact ⟨by omega, by omega, by omega⟩
  ·refine (f2.kg f3 fun b hb he => by omega).kg f4 fun b hb he => (hU2 b he).1
  ·have : tj w4 W.heap.size m.length = tj w3 W.heap.size m.length := by
    unfold tj
    rw [f4.ip _ hi3.lt.1 hit]
   rw [this]; exact hlt
theorem ajw {w : World} {r : Nat} {m : MP} (hm : nj w r .i64 m) (hn : (im m).Nodup) (hl : m.length < 60000) {K : KV}
  (h : ∀ w' v, OwN w' w.heap.size v (mn (im m)) → Fr (fun _ => False) w w' → K v w') :
  ey P F.m [.map (some r)] w fun t w => ey P F.bk [t] w K := by
 rw [M.am.fcall]
 apply M.am.calls
 unfold M.am
 rw [xm, amz]
 show ey P F.bk _ _ K
 rw [M.ct.fcall]
 have f1 : Fr (fun _ => False) w (w.alloc (.cells #[.map (some r)] T.o)) := (Fr.refl _ w).alloc _
 have hB : (w.alloc (.cells #[.map (some r)] T.o)).heap[w.heap.size]? = some (.cells #[.map (some r)] T.o (0, 0)) := by rw [fx, if_pos rfl]
 have hsz : w.heap.size ≤ (w.alloc (.cells #[.map (some r)] T.o)).heap.size := by simp
 refine aga (ks := im m) FN.b.at (by kernel_rfl) (by kernel_rfl) (by simpa [im] using hl) (aig (hm.xu (f1.ip r hm.lt fun h => h)) hn hB hl) fun w2 v o2 f2 => ?_
 exact h w2 v (o2.mono hsz) (f1.trans f2)
end Go.Proofs.YtfnhoaemapheoaaGreat.KeyD
set_option maxRecDepth 100000
namespace Go.Proofs.YtfnhoaemapheoaaGreat
open Go.Eng Go.Proofs.YtfnhoaemapheoaaGreat.Sint
structure Fil where
 n : Int
 iy : List Int
 gu : List Int
structure Dk where
 gq : Int
 left : Int
 ie : Bool
 gh : Bool
 fs : List Fil
structure FE where
 n : Int
 p : Nat
 fv : Value
 lv : Value
 iy : List Int
 gu : List Int
def FE.abs (e : FE) : Fil := ⟨e.n, e.iy, e.gu⟩
def FE.ptr (e : FE) : Value := .pointer (some ⟨e.p, 0, none⟩)
def Fil.len (f : Fil) : Nat := f.iy.length + f.gu.length
def Dk.gk (D : Dk) : Nat := (D.fs.map Fil.len).sum
abbrev jd (v : Value) (l : List Int) : Asn := pp T.aq 1 adn v l
abbrev SlB (w : World) (v : Value) (l : List Int) : Prop := Sl w 1 adn v l
def bfm (e : FE) : List Asn := [fq e.p #[e.fv, e.lv] T.ai, jd e.fv e.iy, jd e.lv e.gu]
def vm (e : FE) : Asn := nv (bfm e)
def auh (hb r : Nat) (D : Dk) : Asn := fq hb #[.int .i64 D.gq, .map (some r), .int .i64 D.left, .bool D.ie, .bool D.gh] T.ah
structure ll (m : MP) (es : List FE) (D : Dk) : Prop where
 fs : D.fs = es.map FE.abs
 ml : m.length = es.length
 mg : ∀ e ∈ es, ko m e.n = some e.ptr
 mz : ∀ k, (∀ e ∈ es, e.n ≠ k) → ko m k = none
 tn : (es.map FE.n).Nodup
 kp : (im m).Perm (es.map FE.n)
 gq : D.gq ≤ 1048576
 gk : (D.gk : Int) ≤ D.gq
 rng : ∀ e ∈ es, 0 ≤ e.n ∧ e.n < 64
 arm : D.ie = true → 0 ≤ D.left ∧ D.left < 9223372036854775808
def ky (hb r : Nat) (m : MP) (es : List FE) (D : Dk) : List Asn := auh hb r D :: jz r .i64 m :: es.map vm
def fy (hb : Nat) (D : Dk) : Asn where
 ok w B := ∃ r m es, ll m es D ∧ Rs (ky hb r m es D) w B
 ip := by
  rintro w w' B S ⟨r, m, es, h1, h2⟩ hf hn
  exact ⟨r, m, es, h1, h2.ip hf hn⟩
section
variable {w0 w : World} {hb r : Nat} {m : MP} {es : List FE} {D : Dk} {R : List Asn} {e : FE}
theorem xk (S : St w0 w (fy hb D :: R)) : ∃ r m es, ll m es D ∧ St w0 w (ky hb r m es D ++ R) := by
 obtain ⟨B, ⟨r, m, es, h1, h2⟩, _, cl⟩ := S.open
 exact ⟨r, m, es, h1, cl w _ (Fr.refl _ _) (h2.mono fun b hb => .inl hb)⟩
theorem yw (h : ll m es D) (S : St w0 w (ky hb r m es D ++ R)) : St w0 w (fy hb D :: R) := by
 obtain ⟨U, h1, _, g⟩ := S.zj
 exact g w [fy hb D] (Fr.refl _ _) ⟨U, ⟨r, m, es, h, h1⟩, fun b hb => .inl hb, trivial⟩
theorem mh (hb r : Nat) (m : MP) (a b : List FE) (e : FE) (D : Dk) (R : List Asn) : (ky hb r m (a ++ e :: b) D ++ R).Perm (vm e :: (ky hb r m (a ++ b) D ++ R)) := by
 unfold ky
 simp only [List.map_append, List.map_cons, List.cons_append, List.append_assoc]
 refine (List.Perm.cons _ (List.Perm.cons _ ?_)).trans ((List.Perm.cons _ (.swap _ _ _)).trans (.swap _ _ _))
 exact List.perm_middle
theorem uz (S : St w0 w (vm e :: R)) : St w0 w (fq e.p #[e.fv, e.lv] T.ai :: jd e.fv e.iy :: jd e.lv e.gu :: R) := St.all.1 S
theorem aok (S : St w0 w (fq e.p #[e.fv, e.lv] T.ai :: jd e.fv e.iy :: jd e.lv e.gu :: R)) : St w0 w (vm e :: R) := St.all.2 S
theorem qw (S : St w0 w (ky hb r m es D ++ R)) : w.heap[hb]? = some (.cells #[.int .i64 D.gq, .map (some r), .int .i64 D.left, .bool D.ie, .bool D.gh] T.ah (0, 0)) := St.blk S
theorem ado (S : St w0 w (ky hb r m es D ++ R)) : nj w r .i64 m ∧ (im m).Nodup := by
 obtain ⟨B, h1, _⟩ := (St.swap S).open
 exact h1.1
theorem nq (h : w.heap[hb]? = some (.cells #[.int .i64 D.gq, .map (some r), .int .i64 D.left, .bool D.ie, .bool D.gh] T.ah (0, 0))) :
  fi w hb 0 = some (.int .i64 D.gq) ∧ fi w hb 1 = some (.map (some r)) ∧ fi w hb 2 = some (.int .i64 D.left) ∧ fi w hb 3 = some (.bool D.ie) ∧ fi w hb 4 = some (.bool D.gh) ∧ ∀ i, mq w hb i = false :=
 ⟨by rw [fm h]; rfl, by rw [fm h]; rfl, by rw [fm h]; rfl, by rw [fm h]; rfl, by rw [fm h]; rfl, kj h⟩
theorem ll.bds (h : ll m es D) (k : Int) : (ko m k = none ∧ ∀ e ∈ es, e.n ≠ k) ∨ ∃ a e b, es = a ++ e :: b ∧ e.n = k ∧ ko m k = some e.ptr := by
 by_cases hx : ∃ e ∈ es, e.n = k
 ·obtain ⟨e, he, rfl⟩ := hx
  obtain ⟨a, b, hab⟩ := List.append_of_mem he
  exact .inr ⟨a, e, b, hab, rfl, h.mg e he⟩
 ·exact .inl ⟨h.mz k fun e he hk => hx ⟨e, he, hk⟩, fun e he hk => hx ⟨e, he, hk⟩⟩
theorem apr (hh : w.heap[hb]? = some (.cells #[.int .i64 D.gq, .map (some r), .int .i64 D.left, .bool D.ie, .bool D.gh] T.ah (0, 0))) {K : KV} (h : K (.int .i64 (if D.gh then 10 else 0)) w) : ey P F.bb [.pointer (some ⟨hb, 0, none⟩)] w K := by
 rw [M.cy.fcall]
 apply M.cy.calls
 unfold M.cy
 obtain ⟨_, _, _, _, c4, _⟩ := nq hh
 cases hd : D.gh with
 | true => rw [hd] at h c4; simp [c4]; simpa using h
 | false => rw [hd] at h c4; simp [c4]; simpa using h
theorem agl (hk : ll m es D) (S : St w0 w (ky hb r m es D ++ R)) (k : Int) {K : KV} (h0 : D.gh = true → K (.tuple #[.pointer none, .int .i64 10]) w) (h1 : D.gh = false → (∀ e ∈ es, e.n ≠ k) → K (.tuple #[.pointer none, .int .i64 11]) w)
  (h2 : D.gh = false → ∀ a e b, es = a ++ e :: b → e.n = k → K (.tuple #[e.ptr, .int .i64 0]) w) : ey P F.bh [.pointer (some ⟨hb, 0, none⟩), .int .i64 k] w K := by
 rw [M.cg.fcall]
 apply M.cg.calls
 unfold M.cg
 rw [fh]
 refine apr (qw S) ?_
 obtain ⟨_, c1, _, _, c4, _⟩ := nq (qw S)
 cases hd : D.gh with
 | true => simp; exact h0 hd
 | false =>
  simp
  unfold M.cg.j0
  simp [c1]
  rw [abi mt.o (ado S).1]
  rcases hk.bds k with ⟨hn, hall⟩ | ⟨a, e, b, he, hek, hg⟩
  ·rw [hn]
   simp
   exact h1 hd hall
  ·rw [hg]
   simp [FE.ptr]
   exact h2 hd a e b he hek
theorem aqb (S : St w0 w (vm e :: R)) (hl : e.iy.length + e.gu.length ≤ 10000000) {K : KV} (h : ∀ w' v, St w0 w' (jd v (e.iy ++ e.gu) :: vm e :: R) → K v w') : ey P F.ca [e.ptr] w K := by
 rw [M.di.fcall]
 apply M.di.calls
 unfold M.di
 have hb := (uz S).blk
 have c0 : fi w e.p 0 = some e.fv := by rw [fm hb]; rfl
 have c1 : fi w e.p 1 = some e.lv := by rw [fm hb]; rfl
 have s1 : SlB w e.fv e.iy := (uz S).swap.row il
 have s2 : SlB w e.lv e.gu := (uz S).zq.row il
 obtain ⟨a1, k1, hv1, _⟩ := id s1
 obtain ⟨a2, k2, hv2, _⟩ := id s2
 rw [hv1] at c0
 rw [hv2] at c1
 simp [FE.ptr, c0, c1]
 rw [← hv1, ← hv2]
 have hcell : w.heap.size < (Eng.dr w 1).heap.size + 1 := by simp
 have hn : ((Eng.dr w 1).alloc (.cells #[e.fv, e.lv] T.d)).heap[w.heap.size]? = some (.cells (([(e.fv, e.iy), (e.lv, e.gu)] : List (Value × List Int)).map (·.1)).toArray T.d (0, 0)) := by
  rw [fx, if_pos (by simp)]; rfl
 have f1 : Fr (fun _ => False) w ((Eng.dr w 1).alloc (.cells #[e.fv, e.lv] T.d)) := ((Fr.refl _ w).dr 1).alloc _
 rw [M.u.fcall]
 refine CB.yq (L := [(e.fv, e.iy), (e.lv, e.gu)]) hn (fun p hp => ?_) (by simp [CB.tot]; omega) (by simp) fun w' v o f2 => ?_
 ·simp at hp
  rcases hp with rfl | rfl
  ·exact s1.fr f1 fun _ _ _ h => h
  ·exact s2.fr f1 fun _ _ _ h => h
 ·have hs : w.heap.size ≤ ((Eng.dr w 1).alloc (.cells #[e.fv, e.lv] T.d)).heap.size := f1.size
  refine h w' v (S.add (a := jd v (e.iy ++ e.gu)) (f1.trans f2) (B := fun b => v.ownBlock = some b) ⟨?_, fun b hb => hb⟩ fun b hb => ?_)
  ·simpa using o.mono (Nat.zero_le _)
  ·have := o.lt hb
   exact ⟨by omega, this.2⟩
end
set_option maxRecDepth 100000
open Go.Eng Go.Proofs.YtfnhoaemapheoaaGreat.Sint
def Dk.get (D : Dk) (k : Int) : Option Fil := D.fs.find? fun f => decide (f.n = k)
def Dk.nr (D : Dk) : List Int := D.fs.map Fil.n
def Dk.gr (D : Dk) : List Int := mn D.nr
abbrev pn (v : Value) (l : List Int) : Asn := pp T.b 1 mj v l
theorem lq (x : Int) : (mj x).length = 1 := rfl
section
variable {w0 w : World} {hb r : Nat} {m : MP} {es a b : List FE} {D : Dk} {R : List Asn} {e e' : FE}
theorem ll.nr (h : ll m es D) : D.nr = es.map FE.n := by
 unfold Dk.nr
 rw [h.fs, List.map_map]; rfl
theorem ll.nd (h : ll m es D) : (im m).Nodup := h.kp.nodup_iff.2 h.tn
theorem ll.few (h : ll m es D) : es.length ≤ 64 := by
 have := sp (l := es.map FE.n) (l' := (List.range 64).map Int.ofNat) h.tn fun x hx => by
  obtain ⟨e, he, rfl⟩ := List.mem_map.1 hx
  have := h.rng e he
  exact List.mem_map.2 ⟨e.n.toNat, List.mem_range.2 (by omega), by simp; omega⟩
 simpa using this
theorem ll.ud (h : ll m (a ++ e :: b) D) : D.get e.n = some e.abs := by
 unfold Dk.get
 rw [h.fs]
 have hn := h.tn
 rw [List.map_append, List.map_cons, List.nodup_append] at hn
 rw [List.map_append, List.find?_append]
 have : (a.map FE.abs).find? (fun f => decide (f.n = e.n)) = none := by
  rw [List.find?_eq_none]
  intro f hf
  obtain ⟨x, hx, rfl⟩ := List.mem_map.1 hf
  have := hn.2.2 x.n (List.mem_map_of_mem hx) e.n (List.mem_cons_self ..)
  simp [FE.abs]
  exact decide_eq_false this
 rw [this]
 simp [FE.abs]
theorem ll.aaa (h : ll m es D) {k : Int} (hk : ∀ e ∈ es, e.n ≠ k) : D.get k = none := by
 unfold Dk.get
 rw [h.fs, List.find?_eq_none]
 intro f hf
 obtain ⟨x, hx, rfl⟩ := List.mem_map.1 hf
 simp [FE.abs]
 exact decide_eq_false (hk x hx)
theorem avz (S : St w0 w (ky hb r m (a ++ e :: b) D ++ R)) : w.heap[e.p]? = some (.cells #[e.fv, e.lv] T.ai (0, 0)) ∧ SlB w e.fv e.iy ∧ SlB w e.lv e.gu := by
 have S' := uz (S.perm (mh hb r m a b e D R))
 exact ⟨S'.blk, S'.swap.row il, S'.zq.row il⟩
theorem art (S : St w0 w R) (gq : Int) {K : KV} (h0 : (gq < 1 ∨ 1048576 < gq) → K (.tuple #[.pointer none, .int .i64 1]) w)
  (h1 : 1 ≤ gq → gq ≤ 1048576 → ∀ w' hb, St w0 w' (fy hb ⟨gq, 0, false, false, []⟩ :: R) → K (.tuple #[.pointer (some ⟨hb, 0, none⟩), .int .i64 0]) w') : ey P F.dw [.int .i64 gq] w K := by
 rw [M.ec.fcall]
 apply M.ec.calls
 unfold M.ec
 by_cases hx : gq < 1
 ·simp [hx]; exact h0 (.inl hx)
 by_cases hy : 1048576 < gq
 ·simp [hx, hy]; exact h0 (.inr hy)
 simp [hx, hy]
 rw [apm]
 simp
 have hm := afo w .i64
 refine h1 (by omega) (by omega) _ (w.heap.size + 1) (yw (m := []) (es := []) (r := w.heap.size) ⟨rfl, rfl, fun e he => by (cases he), fun _ _ => rfl, by simp, by simp [im], by (show gq ≤ 1048576; omega), by (show ((0 : Nat) : Int) ≤ gq; omega), fun e he => by (cases he), fun h => by (cases h)⟩ ?_)
 have f : Fr (fun _ => False) w ((w.alloc (.map #[] 0)).alloc (.cells #[.int .i64 gq, .map (some w.heap.size), .int .i64 0, .bool false, .bool false] T.ah)) := ((Fr.refl _ w).alloc _).alloc _
 obtain ⟨U, _, _, g⟩ := S.zj (L := [])
 refine g _ (ky (w.heap.size + 1) w.heap.size [] [] ⟨gq, 0, false, false, []⟩) (f.mono fun _ _ h => h.elim) ⟨fun b => b = w.heap.size + 1, ⟨?_, rfl⟩, fun b hb => .inr (by simp at hb ⊢; omega), fun b => b = w.heap.size, ⟨⟨hm.xu (by rw [fx, if_neg (by simp)]), by simp [im]⟩, rfl⟩, fun b hb => ⟨.inr (by simp at hb ⊢; omega), by simp at hb ⊢; omega⟩, trivial⟩
 rw [fx, if_pos (by simp)]
theorem ahx (hk : ll m es D) (S : St w0 w (ky hb r m es D ++ R)) {K : KV} (h : ∀ w' v, St w0 w' (pn v D.gr :: (ky hb r m es D ++ R)) → K v w') : ey P F.ba [.pointer (some ⟨hb, 0, none⟩)] w K := by
 rw [M.cx.fcall]
 apply M.cx.calls
 unfold M.cx
 obtain ⟨_, c1, _⟩ := nq (qw S)
 simp [c1]
 have hf := hk.few
 refine KeyD.ajw (ado S).1 hk.nd (by rw [hk.ml]; omega) fun w' v o f => ?_
 have hd : mn (im m) = D.gr := by
  unfold Dk.gr
  rw [hk.nr]
  exact th hk.kp
 rw [hd] at o
 refine h w' v (S.add (a := pn v D.gr) f (B := fun b => v.ownBlock = some b) ⟨o.mono (Nat.zero_le _), fun b hb => hb⟩ fun b hb => ⟨(o.lt hb).1, (o.lt hb).2⟩)
def lenOf (D : Dk) (k : Int) : Nat := ((D.get k).map Fil.len).getD 0
theorem azb {l l' : List Nat} (h : l.Perm l') : l.sum = l'.sum := by
 induction h with
 | nil => rfl
 | cons x _ ih => simp [ih]
 | swap x y l => simp; omega
 | trans _ _ h1 h2 => exact h1.trans h2
theorem azq (hk : ll m es D) : (D.gr.map (lenOf D)).sum = D.gk := by
 have h1 : (D.gr.map (lenOf D)).Perm (D.nr.map (lenOf D)) := (mf _).map _
 rw [azb h1]
 unfold Dk.gk Dk.nr
 rw [List.map_map]
 congr 1
 apply List.map_congr_left
 intro f hf
 rw [hk.fs] at hf
 obtain ⟨x, hx, rfl⟩ := List.mem_map.1 hf
 obtain ⟨a, b, hab⟩ := List.append_of_mem hx
 subst hab
 show lenOf D x.n = x.abs.len
 unfold lenOf
 rw [hk.ud]; rfl
theorem adm {l : List Nat} {x : Nat} (h : x ∈ l) : x ≤ l.sum := by
 induction l with
 | nil => cases h
 | cons y l ih =>
  rcases List.mem_cons.1 h with rfl | h
  ·simp
  ·have := ih h; simp; omega
def abv (D : Dk) (i : Nat) : Nat := ((D.gr.take i).map (lenOf D)).sum
def UsI (w0 : World) (hb r : Nat) (m : MP) (es : List FE) (D : Dk) (R : List Asn) (v : Value) : KL := fun x w1 => ∃ (u : Value) (i : Nat), x = [u, .int .i64 (abv D i : Nat), .int .i64 (i : Nat)] ∧ i ≤ D.gr.length ∧ St w0 w1 (pn v D.gr :: (ky hb r m es D ++ R))
theorem bcz (hk : ll m es D) (S : St w0 w (ky hb r m es D ++ R)) {K : KV} (h : ∀ w', St w0 w' (ky hb r m es D ++ R) → K (.int .i64 (D.gk : Nat)) w') : ey P F.dd [.pointer (some ⟨hb, 0, none⟩)] w K := by
 rw [M.ch.fcall]
 apply M.ch.calls
 unfold M.ch
 rw [fh]
 refine ahx hk S fun w1 v S1 => ?_
 have hsl : ∀ {w}, St w0 w (pn v D.gr :: (ky hb r m es D ++ R)) → Sl w 1 mj v D.gr := fun S => S.row lq
 rw [(hsl S1).ii (by simp)]
 refine ⟨UsI w0 hb r m es D R v, fun x _ => D.gr.length - ms x 2, ⟨_, 0, rfl, Nat.zero_le _, S1⟩, ?_⟩
 rintro x w2 ⟨u, i, rfl, hi, S2⟩
 have q0 : ∀ a b c : Value, gv [a, b, c] 0 = a := fun _ _ _ => rfl
 have q1 : ∀ a b c : Value, gv [a, b, c] 1 = b := fun _ _ _ => rfl
 have q2 : ∀ a b c : Value, gv [a, b, c] 2 = c := fun _ _ _ => rfl
 have q4 : ∀ a b c d e : Value, gv [a, b, c, d, e] 4 = e := fun _ _ _ _ _ => rfl
 have hus := azq hk
 have hu := hk.gk
 have hr := hk.gq
 have hfl : D.gr.length = es.length := by unfold Dk.gr; rw [(mf _).length_eq, hk.nr, List.length_map]
 have hfew := hk.few
 simp only [q0, q1, q2, ka, fh]
 by_cases hil : i < D.gr.length
 ·have hil' : (i : Int) < D.gr.length := by omega
  simp only [hil', decide_true, Eng.cond_true]
  unfold M.ch.j2
  obtain ⟨bb, o, cap, hv, hbb, _, hc⟩ := (hsl S2).at hil
  have c0 := hc 0 _ rfl
  simp only [Nat.mul_one, Nat.add_zero] at c0
  have hmem : D.gr[i] ∈ D.gr := List.getElem_mem hil
  have htk : abv D (i + 1) = abv D i + lenOf D D.gr[i] := by
   unfold abv
   rw [List.take_succ_eq_append_getElem hil, List.map_append, List.sum_append]; simp
  have htot : abv D (i + 1) ≤ D.gk := by
   rw [← hus]
   unfold abv
   conv => rhs; rw [← List.take_append_drop (i + 1) D.gr, List.map_append, List.sum_append]
   omega
  generalize hki : D.gr[i] = k at *
  have hmem' : k ∈ es.map FE.n := by
   rw [← hk.nr]; exact (mf _).mem_iff.1 hmem
  obtain ⟨e, he, hek⟩ := List.mem_map.1 hmem'
  obtain ⟨a, b, hab⟩ := List.append_of_mem he
  subst hab
  obtain ⟨hbk, s1, s2⟩ := avz (a := a) (e := e) (b := b) S2.drop
  obtain ⟨_, c1, _⟩ := nq (qw S2.drop)
  have hg := hk.mg e (by simp)
  have d0 : fi w2 e.p 0 = some e.fv := by rw [fm hbk]; rfl
  have d1 : fi w2 e.p 1 = some e.lv := by rw [fm hbk]; rfl
  obtain ⟨a1, k1, hv1, _⟩ := s1
  obtain ⟨a2, k2, hv2, _⟩ := s2
  rw [hv1] at d0
  rw [hv2] at d1
  have hlu : ∀ K, luT P T.o (.map (some r)) (.int .i64 k) false (Eng.dr w2 1) K = K (.pointer (some ⟨e.p, 0, none⟩)) (Eng.dr w2 1) := fun K => by
   rw [abi mt.o (nj.xu (w' := Eng.dr w2 1) (ado S2.drop).1 rfl), ← hek, hg]; rfl
  have hlen : lenOf D k = e.iy.length + e.gu.length := by
   unfold lenOf
   rw [← hek, hk.ud]; rfl
  have hw1 : IntKind.i64.wrap ((e.iy.length : Int) + (e.gu.length : Int)) = ((e.iy.length + e.gu.length : Nat) : Int) := by rw [fj (by omega) (by omega)]; omega
  have hw2 : IntKind.i64.wrap ((abv D i : Int) + ((e.iy.length + e.gu.length : Nat) : Int)) = ((abv D (i + 1) : Nat) : Int) := by
   rw [fj (by omega) (by omega)]; omega
  have hwi : IntKind.i64.wrap ((i : Int) + 1) = ((i + 1 : Nat) : Int) := by rw [fj (by omega) (by omega)]; rfl
  rw [hv]
  simp [q0, q1, q2, hil, c0, c1, hlu, d0, d1, hw1, hw2, hwi, -Int.natCast_add]
  rw [← hv]
  refine ⟨⟨_, i + 1, rfl, by omega, S2.iq ((Fr.refl _ w2).dr 1)⟩, ?_⟩
  simp only [ms, q2]
  simp; omega
 ·have hil' : ¬ (i : Int) < D.gr.length := by omega
  simp only [hil', decide_false, Eng.cond_false, q4]
  have : abv D i = D.gk := by
   unfold abv
   rw [List.take_of_length_le (by omega), hus]
  rw [this]
  exact h w2 S2.drop
theorem azc (S : St w0 w (ky hb r m es D ++ R)) {K : KV} (h : K (.bool D.gh) w) : ey P F.bg [.pointer (some ⟨hb, 0, none⟩)] w K := by
 rw [M.cz.fcall]
 apply M.cz.calls
 unfold M.cz
 obtain ⟨_, _, _, _, c4, _⟩ := nq (qw S)
 simp [c4]
 exact h
def Dk.jp (D : Dk) (k : Int) : List Int × Int := if D.gh then ([], 10) else match D.get k with
 | none => ([], 11)
 | some f => (f.iy ++ f.gu, 0)
theorem uw (hk : ll m (a ++ e :: b) D) : e.iy.length + e.gu.length ≤ D.gk := by
 have : e.abs.len ∈ D.fs.map Fil.len := by
  rw [hk.fs]
  exact List.mem_map_of_mem (List.mem_map_of_mem (by simp))
 exact adm this
theorem bbp (hk : ll m es D) (S : St w0 w (ky hb r m es D ++ R)) (k : Int) {K : KV} (h : ∀ w' v, St w0 w' (jd v (D.jp k).1 :: (ky hb r m es D ++ R)) → K (.tuple #[v, .int .i64 (D.jp k).2]) w') : ey P F.cj [.pointer (some ⟨hb, 0, none⟩), .int .i64 k] w K := by
 rw [M.db.fcall]
 apply M.db.calls
 unfold M.db
 unfold Dk.jp at h
 have Snil : St w0 w (jd (.slice none 0 0) [] :: (ky hb r m es D ++ R)) := S.add (a := jd (.slice none 0 0) []) (Fr.refl _ w) (B := fun _ => False) ⟨Ow.none, fun b hb => by simp [Value.ownBlock] at hb⟩ fun b hb => hb.elim
 refine agl hk S k (fun hd => ?_) (fun hd hn => ?_) fun hd a e b he hek => ?_
 ·simp [hd] at h ⊢
  exact h w _ Snil
 ·rw [hk.aaa hn] at h
  simp [hd] at h ⊢
  exact h w _ Snil
 ·subst he
  have hl := uw hk
  have hu := hk.gk
  have hr := hk.gq
  rw [← hek, hk.ud] at h
  simp [hd] at h ⊢
  refine aqb (S.perm (mh hb r m a b e D R)) (by omega) fun w' v S' => ?_
  exact h w' v (S'.tail (mh hb r m a b e D R).symm)
end
set_option maxRecDepth 100000
open Go.Eng Go.Proofs.YtfnhoaemapheoaaGreat.Sint
def Dk.lh (D : Dk) (k : Int) (fa lo : List Int) : Dk := { D with fs := D.fs.map fun f => if f.n = k then ⟨k, fa, lo⟩ else f }
def Dk.rem (D : Dk) (k : Int) : Dk := { D with fs := D.fs.filter fun f => decide (f.n ≠ k) }
section
variable {w0 w : World} {hb r : Nat} {m : MP} {es a b : List FE} {D : Dk} {R : List Asn} {e e' : FE}
theorem ll.amr (h : ll m (a ++ e :: b) D) : ∀ x, x ∈ a ∨ x ∈ b → x.n ≠ e.n := by
 have hn := h.tn
 rw [List.map_append, List.map_cons, List.nodup_append, List.nodup_cons] at hn
 rintro x (hx | hx) he
 ·exact hn.2.2 x.n (List.mem_map_of_mem hx) e.n (List.mem_cons_self ..) he
 ·exact hn.2.1.1 (he ▸ List.mem_map_of_mem hx)
theorem arg (h : ll m (a ++ e :: b) D) (fa lo : List Int) : (D.lh e.n fa lo).fs = a.map FE.abs ++ ⟨e.n, fa, lo⟩ :: b.map FE.abs := by
 unfold Dk.lh
 simp only [h.fs, List.map_append, List.map_cons, List.map_map]
 have hx : ∀ x : FE, x ∈ a ∨ x ∈ b → ((fun f : Fil => if f.n = e.n then (⟨e.n, fa, lo⟩ : Fil) else f) ∘ FE.abs) x = x.abs := fun x hx => by
  show (if x.n = e.n then _ else x.abs) = _
  rw [if_neg (h.amr x hx)]
 rw [List.map_congr_left fun x hxa => hx x (.inl hxa), List.map_congr_left (l := b) fun x hxb => hx x (.inr hxb)]
 simp [FE.abs]
theorem abf (h : ll m (a ++ e :: b) D) (fa lo : List Int) : (D.lh e.n fa lo).gk + (e.iy.length + e.gu.length) = D.gk + (fa.length + lo.length) := by
 unfold Dk.gk
 rw [arg h, h.fs]
 simp [FE.abs, Fil.len]
 omega
theorem ll.lh (h : ll m (a ++ e :: b) D) (hn : e'.n = e.n) (hp : e'.p = e.p) (hu : ((D.lh e.n e'.iy e'.gu).gk : Int) ≤ D.gq) : ll m (a ++ e' :: b) (D.lh e.n e'.iy e'.gu) where
 fs := by rw [arg h, ← hn]; simp [FE.abs]
 ml := by rw [h.ml]; simp
 mg x hx := by
  rcases List.mem_append.1 hx with hx | hx
  ·exact h.mg x (by simp [hx])
  ·rcases List.mem_cons.1 hx with rfl | hx
   ·rw [hn, h.mg e (by simp)]; simp [FE.ptr, hp]
   ·exact h.mg x (by simp [hx])
 mz k hk := h.mz k fun x hx => by
  rcases List.mem_append.1 hx with hx | hx
  ·exact hk x (by simp [hx])
  ·rcases List.mem_cons.1 hx with rfl | hx
   ·rw [← hn]; exact hk e' (by simp)
   ·exact hk x (by simp [hx])
 tn := by have := h.tn; simp only [List.map_append, List.map_cons] at *; rw [hn]; exact this
 kp := by have := h.kp; simp only [List.map_append, List.map_cons] at *; rw [hn]; exact this
 gq := h.gq
 gk := hu
 rng x hx := by
  rcases List.mem_append.1 hx with hx | hx
  ·exact h.rng x (by simp [hx])
  ·rcases List.mem_cons.1 hx with rfl | hx
   ·rw [hn]; exact h.rng e (by simp)
   ·exact h.rng x (by simp [hx])
 arm := h.arm
theorem ll.rem (h : ll m (a ++ e :: b) D) : ll (wd m e.n) (a ++ b) (D.rem e.n) where
 fs := by
  unfold Dk.rem
  simp only [h.fs, List.map_append, List.map_cons, List.filter_append]
  have hx : ∀ l : List FE, (∀ x ∈ l, x.n ≠ e.n) → (l.map FE.abs).filter (fun f => decide (f.n ≠ e.n)) = l.map FE.abs := fun l hl => List.filter_eq_self.2 fun f hf => by
   obtain ⟨x, hx, rfl⟩ := List.mem_map.1 hf
   exact decide_eq_true (hl x hx)
  rw [List.filter_cons, hx a fun x h' => h.amr x (.inl h'), hx b fun x h' => h.amr x (.inr h')]
  simp [FE.abs]
 ml := by
  have h1 := zi m e.n
  have h2 : (im (wd m e.n)).length = (im m).length - 1 := by
   rw [h1, List.length_erase_of_mem]
   exact h.kp.mem_iff.2 (List.mem_map_of_mem (by simp))
  simp only [im, List.length_map] at h2
  rw [h2, h.ml]
  simp
 mg x hx := by
  rw [afj _ _ _ fun he => h.amr x (List.mem_append.1 hx) he.symm]
  exact h.mg x (by rcases List.mem_append.1 hx with h | h <;> simp [h])
 mz k hk := by
  by_cases hek : e.n = k
  ·subst hek; exact ajy _ _ h.nd
  ·rw [afj _ _ _ hek]
   refine h.mz k fun x hx => ?_
   rcases List.mem_append.1 hx with hx | hx
   ·exact hk x (by simp [hx])
   ·rcases List.mem_cons.1 hx with rfl | hx
    ·exact hek
    ·exact hk x (by simp [hx])
 tn := by
  have := h.tn
  rw [(List.Perm.map FE.n (List.perm_middle (l₁ := a) (a := e) (l₂ := b))).nodup_iff] at this
  exact (List.nodup_cons.1 this).2
 kp := by
  rw [zi]
  have h1 := (h.kp.trans (List.Perm.map FE.n (List.perm_middle (l₁ := a) (a := e) (l₂ := b)))).erase e.n
  rw [List.map_cons, List.erase_cons_head] at h1
  exact h1
 gq := h.gq
 gk := by
  have h1 := h.gk
  have h2 : (D.rem e.n).gk ≤ D.gk := by
   unfold Dk.rem Dk.gk
   have : ∀ l : List Fil, ((l.filter fun f => decide (f.n ≠ e.n)).map Fil.len).sum ≤ (l.map Fil.len).sum := fun l => by
    induction l with
    | nil => simp
    | cons f l ih =>
     rw [List.filter_cons]
     split
     ·rw [List.map_cons, List.map_cons, List.sum_cons, List.sum_cons]; omega
     ·rw [List.map_cons, List.sum_cons]; omega
   exact this D.fs
  show ((D.rem e.n).gk : Int) ≤ D.gq
  omega
 rng x hx := h.rng x (by rcases List.mem_append.1 hx with h | h <;> simp [h])
 arm := h.arm
theorem oc (S : St w0 w R) : St w0 w (jd (.slice none 0 0) [] :: R) := S.add (a := jd (.slice none 0 0) []) (Fr.refl _ w) (B := fun _ => False) ⟨Ow.none, fun b hb => by simp [Value.ownBlock] at hb⟩ fun b hb => hb.elim
theorem akh {v : Value} {l : List Int} (S : St w0 w (jd v l :: vm e :: R)) : St w0 ((w.setCell ⟨e.p, 0, none⟩ v).setCell ⟨e.p, 1, none⟩ (.slice none 0 0)) (vm { e with fv := v, lv := .slice none 0 0, iy := l, gu := [] } :: R) := by
 have S1 := uz S.swap
 have S2 : St w0 w (fq e.p #[e.fv, e.lv] T.ai :: jd v l :: R) := (S1.swap.drop.swap.drop : St w0 w _)
 have hh := S2.blk
 have S3 := S2.kh (cs' := #[v, .slice none 0 0]) (e' := T.ai) (w' := (w.setCell ⟨e.p, 0, none⟩ v).setCell ⟨e.p, 1, none⟩ (.slice none 0 0)) (((Fr.refl (fun x => x = e.p) w).setCell (.inl rfl) _ _).setCell (.inl rfl) _ _) (by rw [jv (jv hh)]; rfl)
 exact aok (e := { e with fv := v, lv := .slice none 0 0, iy := l, gu := [] }) ((oc S3).perm ((List.Perm.swap _ _ _).trans (List.Perm.cons _ (List.Perm.swap _ _ _))))
theorem Ow.take {α : Type} {enc : α → List Value} {base : Nat} {et : TypeId} {v : Value} {l : List α} {t : TypeId} (he : ∀ x, (enc x).length = 1) (h : Ow w base et 1 enc v l) (ht : ki P t = true) (hz : szE P t = 1) {n : Nat} (hn : n ≤ l.length) {k : IntKind} :
  ∃ v', Ow w base et 1 enc v' (l.take n) ∧ (∀ g, v'.ownBlock = some g → v.ownBlock = some g) ∧ ∀ w1 K, slT P t v none (some (.int k (n : Int))) none w1 K = K v' w1 := by
 have h' := h
 obtain ⟨h1, h2⟩ := h
 have hlen : (l.take n).length = n := by rw [List.length_take]; omega
 have hfl : (l.take n).flatMap enc = (l.flatMap enc).take (n * 1) := by
  clear h' h1 h2 hlen
  induction l generalizing n with
  | nil => simp
  | cons x l ih =>
   cases n with
   | zero => simp
   | succ n =>
    have := ih (n := n) (by simpa using hn)
    rw [List.take_succ_cons, List.flatMap_cons, this, List.flatMap_cons, List.take_append, he]
    have hx := he x
    have e : (n + 1) * 1 - 1 = n * 1 := by omega
    rw [e, List.take_of_length_le (l := enc x) (by rw [hx]; omega)]
 rcases h2 with ⟨rfl, h0⟩ | ⟨g, cap, cur, rfl, hb0, hb, hc, hr⟩
 ·have : n = 0 := by omega
  subst this
  refine ⟨.slice none 0 0, ?_, fun g hg => hg, fun w1 K => by rw [xb ht (.inl ⟨rfl, rfl⟩) (.inr ⟨k, rfl⟩) (Nat.le_refl _) (Nat.le_refl _)]; simp⟩
  rw [List.take_zero]; exact Ow.none
 ·refine ⟨.slice (some ⟨g, 0, none⟩) n cap, ?_, fun g hg => hg, fun w1 K => ?_⟩
  ·unfold Ow
   rw [hlen, hfl]
   exact azx h' hn
  ·rw [xb ht (.inl ⟨rfl, rfl⟩) (.inr ⟨k, rfl⟩) (Nat.zero_le _) (by omega)]
   simp [Addr.add]
theorem bdw {v : Value} {l : List Int} (S : St w0 w (jd v l :: R)) {n : Nat} (hn : n ≤ l.length) : ∃ v', (∀ w1 K, slT P T.d v none (some (.int .i64 (n : Int))) none w1 K = K v' w1) ∧ St w0 w (jd v' (l.take n) :: R) := by
 obtain ⟨B, ⟨h1, h2⟩, hB, cl⟩ := S.open
 obtain ⟨v', o, g, f⟩ := Ow.take il h1 (t := T.d) (by kernel_rfl) (by kernel_rfl) hn (k := .i64)
 exact ⟨v', f, cl w [jd v' (l.take n)] (Fr.refl _ _) (Rs.one (B := B) ⟨o, fun b hb => h2 b (g b hb)⟩ fun b hb => .inl hb)⟩
def Dk.lf (D : Dk) (k : Int) : Dk × Int := if D.gh then (D, 10) else match D.get k with
 | none => (D, 11)
 | some f => (D.lh k (f.iy ++ f.gu) [], 0)
def Dk.cut (D : Dk) (k n : Int) : Dk × Int := if D.gh then (D, 10) else match D.get k with
 | none => (D, 11)
 | some f => if n < 0 ∨ (f.iy.length + f.gu.length : Nat) < n then (D, 1) else (D.lh k ((f.iy ++ f.gu).take n.toNat) [], 0)
def Dk.acy (D : Dk) (k : Int) : Dk × Int := if D.gh then (D, 10) else match D.get k with
 | none => (D, 11)
 | some _ => (D.rem k, 0)
theorem ade (S : St w0 w (fq e.p #[e.fv, e.lv] T.ai :: R)) : fi w e.p 0 = some e.fv ∧ fi w e.p 1 = some e.lv ∧ ∀ i, mq w e.p i = false := by
 have hh := S.blk
 exact ⟨by rw [fm hh]; rfl, by rw [fm hh]; rfl, kj hh⟩
theorem asa (S : St w0 w (fy hb D :: R)) (k : Int) {K : KV} (h : ∀ w', St w0 w' (fy hb (D.lf k).1 :: R) → K (.int .i64 (D.lf k).2) w') : ey P F.ci [.pointer (some ⟨hb, 0, none⟩), .int .i64 k] w K := by
 obtain ⟨r, m, es, hk, S'⟩ := xk S
 rw [M.da.fcall]
 apply M.da.calls
 unfold M.da
 unfold Dk.lf at h
 refine agl hk S' k (fun hd => ?_) (fun hd hn => ?_) fun hd a e b he hek => ?_
 ·simp [hd] at h ⊢
  exact h w S
 ·rw [hk.aaa hn] at h
  simp [hd] at h ⊢
  exact h w S
 ·subst he
  have hl := uw hk
  have hu := hk.gk
  have hr := hk.gq
  rw [← hek, hk.ud] at h
  simp [hd, FE.abs] at h ⊢
  refine aqb (S'.perm (mh hb r m a b e D R)) (by omega) fun w' v S2 => ?_
  have S3 := akh S2
  obtain ⟨x1, x2, hv, _⟩ := S2.row il
  generalize (e.iy ++ e.gu).length = L at hv
  subst hv
  obtain ⟨c0, c1, fz⟩ := ade (uz S2.swap)
  simp [FE.ptr, c0, c1, fz, gj, gp]
  refine h _ (yw (m := m) (r := r) (es := a ++ { e with fv := .slice x1 L x2, lv := .slice none 0 0, iy := e.iy ++ e.gu, gu := [] } :: b) (hk.lh (e' := { e with fv := .slice x1 L x2, lv := .slice none 0 0, iy := e.iy ++ e.gu, gu := [] }) rfl rfl ?_) (S3.perm (mh hb r m a b _ _ R).symm))
  have := abf hk (e.iy ++ e.gu) []
  simp at this ⊢
  omega
theorem bff (S : St w0 w (fy hb D :: R)) (k n : Int) {K : KV} (h : ∀ w', St w0 w' (fy hb (D.cut k n).1 :: R) → K (.int .i64 (D.cut k n).2) w') : ey P F.dg [.pointer (some ⟨hb, 0, none⟩), .int .i64 k, .int .i64 n] w K := by
 obtain ⟨r, m, es, hk, S'⟩ := xk S
 rw [M.bm.fcall]
 apply M.bm.calls
 unfold M.bm
 unfold Dk.cut at h
 refine agl hk S' k (fun hd => ?_) (fun hd hn => ?_) fun hd a e b he hek => ?_
 ·simp [hd] at h ⊢
  exact h w S
 ·rw [hk.aaa hn] at h
  simp [hd] at h ⊢
  exact h w S
 ·subst he
  have hl := uw hk
  have hu := hk.gk
  have hr := hk.gq
  rw [← hek, hk.ud] at h
  simp [hd, FE.abs] at h ⊢
  unfold M.bm.j0
  refine aqb (S'.perm (mh hb r m a b e D R)) (by omega) fun w' v S2 => ?_
  have hlen := fun K => (S2.row il).ii (P := P) (t := T.d) (ty := T.b) (w := w') (by kernel_rfl) [false] (K := K)
  have hback : St w0 w' (fy hb D :: R) := yw hk (S2.drop.perm (mh hb r m a b e D R).symm)
  by_cases h0 : n < 0
  ·simp [h0] at h ⊢
   exact h w' hback
  ·by_cases h1 : ((e.iy.length : Int) + e.gu.length) < n
   ·simp [h0, h1, hlen] at h ⊢
    exact h w' hback
   ·simp [h0, h1, hlen] at h ⊢
    unfold M.bm.j1
    obtain ⟨v', hs, S3⟩ := bdw (n := n.toNat) S2 (by simp; omega)
    have hn : ((n.toNat : Nat) : Int) = n := by omega
    rw [hn] at hs
    rw [hs]
    have S4 := akh S3
    obtain ⟨x1, x2, hv, _⟩ := S3.row il
    generalize (List.take n.toNat (e.iy ++ e.gu)).length = L at hv
    subst hv
    obtain ⟨c0, c1, fz⟩ := ade (uz S3.swap)
    simp [FE.ptr, c0, c1, fz, gj, gp]
    refine h _ (yw (m := m) (r := r) (es := a ++ { e with fv := .slice x1 L x2, lv := .slice none 0 0, iy := (e.iy ++ e.gu).take n.toNat, gu := [] } :: b) ?_ (S4.perm (mh hb r m a b _ _ R).symm))
    have := abf hk ((e.iy ++ e.gu).take n.toNat) []
    simp [List.take_append] at this ⊢
    have hh := hk.lh (e' := { e with fv := .slice x1 L x2, lv := .slice none 0 0, iy := (e.iy ++ e.gu).take n.toNat, gu := [] }) rfl rfl (by
     simp [List.take_append]
     omega)
    simpa [List.take_append] using hh
theorem awm (S : St w0 w (fy hb D :: R)) (k : Int) {K : KV} (h : ∀ w', St w0 w' (fy hb (D.acy k).1 :: R) → K (.int .i64 (D.acy k).2) w') : ey P F.co [.pointer (some ⟨hb, 0, none⟩), .int .i64 k] w K := by
 obtain ⟨r, m, es, hk, S'⟩ := xk S
 rw [M.cu.fcall]
 apply M.cu.calls
 unfold M.cu
 unfold Dk.acy at h
 refine agl hk S' k (fun hd => ?_) (fun hd hn => ?_) fun hd a e b he hek => ?_
 ·simp [hd] at h ⊢
  exact h w S
 ·rw [hk.aaa hn] at h
  simp [hd] at h ⊢
  exact h w S
 ·subst he
  rw [← hek, hk.ud] at h
  obtain ⟨_, c1, _⟩ := nq (qw S')
  simp [hd, c1] at h ⊢
  refine bfh mt.o (ado S').1 k _ _ _ fun o hm => ?_
  refine h _ (yw (m := wd m e.n) (r := r) (es := a ++ b) hk.rem ?_)
  have S2 : St w0 w (jz r .i64 m :: auh hb r (D.rem e.n) :: ((a ++ b).map vm ++ R)) := ((S'.perm (mh hb r m a b e D R)).drop : St w0 w (auh hb r D :: jz r .i64 m :: ((a ++ b).map vm ++ R))).swap
  obtain ⟨B, ⟨h1, h2⟩, hB, cl⟩ := S2.open
  refine (cl (World.setObj w r o) [jz r .i64 (wd m e.n)] ((Fr.refl B w).setObj (.inl h2) o) (Rs.one (B := B) ⟨⟨?_, ?_⟩, h2⟩ fun b hb => .inl hb)).swap
  ·rw [hek]; exact hm
  ·rw [zi]; exact h1.2.erase _
end
set_option maxRecDepth 100000
open Go.Eng Go.Proofs.YtfnhoaemapheoaaGreat.Sint
def Dk.abq (D : Dk) (k : Int) : Dk := { D with fs := D.fs ++ [⟨k, [], []⟩] }
def Dk.mr (D : Dk) (l : List Int) : List Int := if D.ie then l.take (min (l.length : Int) D.left).toNat else l
def Dk.after (D : Dk) (l : List Int) : Dk := if D.ie then { D with gh := decide (D.left < l.length), left := D.left - (min (l.length : Int) D.left).toNat } else D
def Dk.put (D : Dk) (k : Int) (l : List Int) : Dk := match D.get k with
 | none => ((D.abq k).lh k [] (D.mr l)).after l
 | some f => (D.lh k f.iy (f.gu ++ D.mr l)).after l
def Dk.append (D : Dk) (k : Int) (l : List Int) : Dk × Int :=
 if D.gh then (D, 10) else if k < 0 ∨ 64 ≤ k then (D, 1) else if D.gq < D.gk + l.length then (D, 9) else (D.put k l, if (D.put k l).gh then 10 else 0)
section
variable {w0 w : World} {hb r : Nat} {m : MP} {es a b : List FE} {D : Dk} {R : List Asn} {e e' : FE}
theorem ri {v v2 : Value} {l l2 : List Int} (S : St w0 w (jd v l :: R)) (hs : SlB w v2 l2) (hl : l.length + l2.length ≤ 1000000000) {cs : List Bool} {ty : TypeId} {K : KV} (h : ∀ w' v', St w0 w' (jd v' (l ++ l2) :: R) → K v' w') :
  biT P .append #[T.d, T.d] ty cs [v, v2] w K := by
 obtain ⟨B, ⟨h1, h2⟩, hB, cl⟩ := S.open
 refine xi et.d il wk h1 hs hl (by decide) (Nat.zero_le _) cs fun v' w' o f g => ?_
 refine h w' v' (cl w' [jd v' (l ++ l2)] (f.mono fun x _ hx => h2 x hx) (Rs.one (B := fun x => v'.ownBlock = some x) ⟨o, fun b hb => hb⟩ fun x hx => ?_))
 rcases g with g | ⟨y, g1, g2⟩
 ·exact .inl (h2 x (by rw [← g]; exact hx))
 ·rw [hx] at g1; cases g1
  exact .inr ⟨g2, (o.lt hx).2⟩
theorem aol (S : St w0 w (fy hb D :: R)) {K : KV} (h : K (.int .i64 (if D.gh then 10 else 0)) w) : ey P F.bb [.pointer (some ⟨hb, 0, none⟩)] w K := by
 obtain ⟨r, m, es, hk, S'⟩ := xk S
 exact apr (qw S') h
theorem bau (hk : ll m (a ++ e :: b) D) (S : St w0 w (ky hb r m (a ++ e :: b) D ++ R)) {v2 : Value} {l2 : List Int} (hs : SlB w v2 l2) (hu : ((D.gk + l2.length : Nat) : Int) ≤ D.gq) {K : KV}
  (h : ∀ w', St w0 w' (fy hb (D.lh e.n e.iy (e.gu ++ l2)) :: R) → K (.int .i64 (if D.gh then 10 else 0)) w') : M.aj.j2 [e.ptr] [v2] (.pointer (some ⟨hb, 0, none⟩)) w K := by
 unfold M.aj.j2
 have hl := uw hk
 have hr := hk.gq
 have S1 := uz (S.perm (mh hb r m a b e D R))
 obtain ⟨c0, c1, fz⟩ := ade S1
 obtain ⟨x1, x2, hv, _⟩ := S1.zq.row il
 have c1' := c1
 rw [hv] at c1'
 simp [FE.ptr, c1']
 rw [← hv]
 refine ri S1.zq hs (by omega) fun w1 v' S2 => ?_
 have S3 := S2.zq.tail (List.Perm.refl _)
 have S4 : St w0 w1 (fq e.p #[e.fv, e.lv] T.ai :: jd v' (e.gu ++ l2) :: jd e.fv e.iy :: (ky hb r m (a ++ b) D ++ R)) := S2.swap
 obtain ⟨d0, d1, fz1⟩ := ade S4
 have hcell : ∃ x y z, v' = .slice x y z := by
  obtain ⟨x, z, hv, _⟩ := S2.row il
  exact ⟨x, _, z, hv⟩
 obtain ⟨y1, y2, y3, rfl⟩ := hcell
 have hh := S4.blk
 have S5 := S4.kh (cs' := #[e.fv, .slice y1 y2 y3]) (e' := T.ai) (w' := w1.setCell ⟨e.p, 1, none⟩ (.slice y1 y2 y3)) ((Fr.refl (fun x => x = e.p) w1).setCell (.inl rfl) _ _) (by rw [jv hh]; rfl)
 simp [d1, fz1]
 have S6 := aok (e := { e with lv := .slice y1 y2 y3, gu := e.gu ++ l2 }) (S5.tail (.swap _ _ _))
 have hk' := hk.lh (e' := { e with lv := .slice y1 y2 y3, gu := e.gu ++ l2 }) rfl rfl (by
  have := abf hk e.iy (e.gu ++ l2)
  simp at this ⊢
  omega)
 have S7 : St w0 (w1.setCell ⟨e.p, 1, none⟩ (.slice y1 y2 y3)) (fy hb (D.lh e.n e.iy (e.gu ++ l2)) :: R) := yw (m := m) (r := r) (es := a ++ { e with lv := .slice y1 y2 y3, gu := e.gu ++ l2 } :: b) hk' (S6.perm (mh hb r m a b _ _ R).symm)
 exact aol S7 (h _ S7)
theorem bbf (hk : ll m (a ++ e :: b) D) (S : St w0 w (ky hb r m (a ++ e :: b) D ++ R)) (hd : D.gh = false) {bv : Value} {l : List Int} (hbs : ∀ w' L, St w0 w' (L ++ R) → SlB w' bv l) (hu : ((D.gk + l.length : Nat) : Int) ≤ D.gq) {K : KV}
  (h : ∀ w', St w0 w' (fy hb ((D.lh e.n e.iy (e.gu ++ D.mr l)).after l) :: R) → K (.int .i64 (if ((D.lh e.n e.iy (e.gu ++ D.mr l)).after l).gh then 10 else 0)) w') : M.aj.j1 (.pointer (some ⟨hb, 0, none⟩)) bv [e.ptr] w K := by
 unfold M.aj.j1
 have hh := qw S
 have hr := hk.gq
 obtain ⟨_, _, c2, c3, c4, fz⟩ := nq hh
 have hs := hbs w _ S
 have hlen := fun w' K => hs.ii (P := P) (w := w') (t := T.d) (ty := T.b) (by kernel_rfl) [false] (K := K)
 rw [fh]
 cases ha : D.ie with
 | false =>
  rw [ha] at c3
  simp [c3]
  have e1 : D.mr l = l := by unfold Dk.mr; rw [ha]; rfl
  have e2 : (D.lh e.n e.iy (e.gu ++ l)).after l = D.lh e.n e.iy (e.gu ++ l) := by
   unfold Dk.after
   rw [show (D.lh e.n e.iy (e.gu ++ l)).ie = D.ie from rfl, ha]; rfl
  rw [e1, e2] at h
  exact bau hk S hs hu h
 | true =>
  rw [ha] at c3
  obtain ⟨hle, hlt⟩ := hk.arm ha
  have S2 : St w0 ((w.setCell ⟨hb, 4, none⟩ (.bool (decide (D.left < l.length)))).setCell ⟨hb, 2, none⟩ (.int .i64 (D.left - min (l.length : Int) D.left))) (ky hb r m (a ++ e :: b) { D with gh := decide (D.left < l.length), left := D.left - min (l.length : Int) D.left } ++ R) :=
   St.kh (cs' := #[.int .i64 D.gq, .map (some r), .int .i64 (D.left - min (l.length : Int) D.left), .bool D.ie, .bool (decide (D.left < l.length))]) (e' := T.ah) S (((Fr.refl (fun x => x = hb) w).setCell (.inl rfl) _ _).setCell (.inl rfl) _ _) (by rw [jv (jv hh)]; rfl)
  obtain ⟨v', s', hsub, hsl⟩ := (hbs _ _ S2).sub (P := P) (t := T.d) (lo := none) (hi := some (.int .i64 ((min (l.length : Int) D.left).toNat : Nat))) (i := 0) (j := (min (l.length : Int) D.left).toNat) (by kernel_rfl) (by kernel_rfl) (.inl ⟨rfl, rfl⟩) (.inr ⟨_, rfl⟩) (Nat.zero_le _) (by omega)
  rw [List.drop_zero, Nat.sub_zero] at s'
  have hmin : (((min (l.length : Int) D.left).toNat : Nat) : Int) = min (l.length : Int) D.left := by omega
  have hmlen : (l.take (min (l.length : Int) D.left).toNat).length = (min (l.length : Int) D.left).toNat := by rw [List.length_take]; omega
  rw [hmin] at hsl
  have hlen' := fun w' K => s'.ii (P := P) (w := w') (t := T.d) (ty := T.b) (by kernel_rfl) [false] (K := K)
  rw [hmlen] at hlen'
  have hwr : IntKind.i64.wrap (D.left - min (l.length : Int) D.left) = D.left - min (l.length : Int) D.left := fj (by omega) (by omega)
  simp only [apy]
  simp [c2, c3, c4, fz, hlen, ahg, gj, gp, hsl, hlen', hmin, hwr]
  have e1 : D.mr l = l.take (min (l.length : Int) D.left).toNat := by unfold Dk.mr; rw [ha]; rfl
  have e2 : (D.lh e.n e.iy (e.gu ++ D.mr l)).after l = Dk.lh { D with gh := decide (D.left < l.length), left := D.left - min (l.length : Int) D.left } e.n e.iy (e.gu ++ l.take (min (l.length : Int) D.left).toNat) := by
   unfold Dk.after
   rw [show (D.lh e.n e.iy (e.gu ++ D.mr l)).ie = D.ie from rfl, ha, e1]
   show Dk.mk _ _ _ _ _ = Dk.mk _ _ _ _ _
   congr 1
   show D.left - _ = _
   rw [← hmin]; rfl
  rw [e2] at h
  refine bau (D := { D with gh := decide (D.left < l.length), left := D.left - min (l.length : Int) D.left }) { hk with arm := fun _ => ⟨?_, ?_⟩ } S2 s' ?_ h
  ·show 0 ≤ D.left - min (l.length : Int) D.left; omega
  ·show D.left - min (l.length : Int) D.left < _; omega
  ·show ((D.gk + _ : Nat) : Int) ≤ D.gq
   rw [hmlen]; omega
theorem bbm (hk : ll m es D) (S : St w0 w (ky hb r m es D ++ R)) {k : Int} (hall : ∀ e ∈ es, e.n ≠ k) (hr : 0 ≤ k ∧ k < 64) :
  ll (qg m k (FE.ptr ⟨k, w.heap.size, .slice none 0 0, .slice none 0 0, [], []⟩)) (es ++ ⟨k, w.heap.size, .slice none 0 0, .slice none 0 0, [], []⟩ :: []) (D.abq k) ∧
  St w0 (w.alloc (.cells #[.slice none 0 0, .slice none 0 0] T.ai)) (vm ⟨k, w.heap.size, .slice none 0 0, .slice none 0 0, [], []⟩ :: (ky hb r m es D ++ R)) := by
 have hkn : k ∉ im m := fun h => by
  obtain ⟨e, he, h'⟩ := List.mem_map.1 (hk.kp.mem_iff.1 h)
  exact hall e he h'
 have hmk : im (qg m k (FE.ptr ⟨k, w.heap.size, .slice none 0 0, .slice none 0 0, [], []⟩)) = im m ++ [k] := by rw [ajh, if_neg hkn]
 have hml : (qg m k (FE.ptr ⟨k, w.heap.size, .slice none 0 0, .slice none 0 0, [], []⟩)).length = m.length + 1 := by
  have := congrArg List.length hmk
  simpa [im] using this
 refine ⟨⟨?_, ?_, ?_, ?_, ?_, ?_, hk.gq, ?_, ?_, hk.arm⟩, ?_⟩
 ·show D.fs ++ _ = _
  rw [hk.fs]; simp [FE.abs]
 ·rw [hml, hk.ml]; simp
 ·intro x hx
  rw [abm]
  rcases List.mem_append.1 hx with hx | hx
  ·rw [if_neg fun h => hall x hx h.symm]; exact hk.mg x hx
  ·rw [List.mem_singleton] at hx
   subst hx
   rw [if_pos rfl]
 ·intro j hj
  rw [abm, if_neg (c := k = j) fun h => hj ⟨k, w.heap.size, .slice none 0 0, .slice none 0 0, [], []⟩ (by simp) h]
  exact hk.mz j fun e he => hj e (by simp [he])
 ·rw [List.map_append, List.nodup_append]
  refine ⟨hk.tn, by simp, ?_⟩
  rintro x hx y hy rfl
  obtain ⟨e, he, rfl⟩ := List.mem_map.1 hx
  simp at hy
  exact hall e he hy
 ·rw [hmk, List.map_append]
  exact hk.kp.append_right _
 ·have : (D.abq k).gk = D.gk := by unfold Dk.abq Dk.gk; simp [Fil.len]
  rw [this]; exact hk.gk
 ·intro x hx
  rcases List.mem_append.1 hx with hx | hx
  ·exact hk.rng x hx
  ·rw [List.mem_singleton] at hx
   subst hx
   exact hr
 ·have S1 : St w0 (w.alloc (.cells #[.slice none 0 0, .slice none 0 0] T.ai)) (fq w.heap.size #[.slice none 0 0, .slice none 0 0] T.ai :: (ky hb r m es D ++ R)) :=
   S.add ((Fr.refl _ w).alloc _) (B := fun x => x = w.heap.size) ⟨by rw [fx, if_pos rfl], rfl⟩ fun x hx => by subst hx; rw [ig]; omega
  exact aok (e := ⟨k, w.heap.size, .slice none 0 0, .slice none 0 0, [], []⟩) ((oc (oc S1)).zq)
theorem alt (S : St w0 w (fy hb D :: R)) (k : Int) {bv : Value} {l : List Int} (hbs : ∀ w' L, St w0 w' (L ++ R) → SlB w' bv l) (hl : l.length ≤ 1000000000) {K : KV}
  (h : ∀ w', St w0 w' (fy hb (D.append k l).1 :: R) → K (.int .i64 (D.append k l).2) w') : ey P F.bx [.pointer (some ⟨hb, 0, none⟩), .int .i64 k, bv] w K := by
 rw [M.aj.fcall]
 apply M.aj.calls
 unfold M.aj
 unfold Dk.append at h
 refine aol S ?_
 cases hd : D.gh with
 | true => simp [hd] at h ⊢; exact h w S
 | false =>
 by_cases h0 : k < 0
 ·simp [hd, h0] at h ⊢; exact h w S
 by_cases h1 : 64 ≤ k
 ·simp [hd, h0, h1] at h ⊢; exact h w S
 have hlen := fun w' K L (S' : St w0 w' (L ++ R)) => (hbs w' L S').ii (P := P) (w := w') (t := T.d) (ty := T.b) (by kernel_rfl) [false] (K := K)
 obtain ⟨r, m, es, hk, S'⟩ := xk S
 obtain ⟨a1, k1, hbv, _⟩ := hbs w _ S'
 have hh := qw S'
 obtain ⟨c0, _⟩ := nq hh
 have hlen1 := fun w' K => (hbs w _ S').ii (P := P) (w := w') (t := T.d) (ty := T.b) (by kernel_rfl) [false] (K := K)
 have hr := hk.gq
 have hu0 := hk.gk
 simp [hd, h0, h1, c0, hlen1]
 refine bcz hk (S'.iq ((Fr.refl _ w).dr 1)) fun w1 S1 => ?_
 obtain ⟨c0, c1, _⟩ := nq (qw S1)
 have hw : IntKind.i64.wrap ((D.gk : Int) + l.length) = (D.gk : Int) + l.length := fj (by omega) (by omega)
 simp [c0, hw]
 by_cases h2 : D.gq < D.gk + l.length
 ·simp [h2]
  simp [hd, h0, h1, h2] at h
  exact h w1 (yw hk S1)
 simp [h2]
 simp [hd, h0, h1, h2] at h
 unfold M.aj.j0
 simp [c1]
 rw [abi mt.o (ado S1).1]
 unfold Dk.put at h
 rcases hk.bds k with ⟨hn, hall⟩ | ⟨a, e, b, he, hek, hg⟩
 ·rw [hk.aaa hall] at h
  rw [hn]
  have c1' : ∀ o, fi (w1.alloc o) hb 1 = some (.map (some r)) := fun o => by
   have hlt := (Array.getElem?_eq_some_iff.1 (qw S1)).1; exact (sr (w := w1) (w' := w1.alloc o) (b := hb) (by rw [fx, if_neg (by omega)]) 1).trans c1
  simp [c1']
  obtain ⟨hk2, S2⟩ := bbm hk S1 hall (by omega)
  have S3 := S2
  refine amv mt.o (w := w1.alloc (.cells #[.slice none 0 0, .slice none 0 0] T.ai)) (r := r) (m := m) ?_ k _ _ fun o hm => ?_
  ·exact (ado S2.drop).1
  obtain ⟨B, ⟨h1, h2⟩, hB, cl⟩ := S2.zq.open
  have S4 := cl (World.setObj (w1.alloc (.cells #[.slice none 0 0, .slice none 0 0] T.ai)) r o) [jz r .i64 (qg m k (FE.ptr ⟨k, w1.heap.size, .slice none 0 0, .slice none 0 0, [], []⟩))] ((Fr.refl B _).setObj (.inl h2) o) (Rs.one (B := B) ⟨⟨hm, hk2.nd⟩, h2⟩ fun b hb => .inl hb)
  have S5 : St w0 (World.setObj (w1.alloc (.cells #[.slice none 0 0, .slice none 0 0] T.ai)) r o) (ky hb r (qg m k (FE.ptr ⟨k, w1.heap.size, .slice none 0 0, .slice none 0 0, [], []⟩)) (es ++ ⟨k, w1.heap.size, .slice none 0 0, .slice none 0 0, [], []⟩ :: []) (D.abq k) ++ R) := by
   refine St.perm S4 (List.Perm.trans ?_ (mh hb r _ es [] ⟨k, w1.heap.size, .slice none 0 0, .slice none 0 0, [], []⟩ (D.abq k) R).symm)
   rw [List.append_nil]
   exact (List.Perm.swap _ _ _).trans (List.Perm.cons _ (List.Perm.swap _ _ _))
  exact bbf (e := ⟨k, w1.heap.size, .slice none 0 0, .slice none 0 0, [], []⟩) hk2 S5 hd hbs (by
   have : (D.abq k).gk = D.gk := by unfold Dk.abq Dk.gk; simp [Fil.len]
   rw [this]
   show _ ≤ D.gq
   omega) h
 ·subst he
  rw [← hek, hk.ud] at h
  rw [hg]
  simp [FE.ptr]
  exact bbf hk S1 hd hbs (by omega) h
end
set_option maxRecDepth 100000
open Go.Eng Go.Proofs.YtfnhoaemapheoaaGreat.Sint
def vq (kl : List Int) (i len : Nat) : Nat := (max 0 (min (kl.getD i 0) (len : Int))).toNat
def aay (kl : List Int) (D : Dk) (k : Int) (i : Nat) : Dk := match D.get k with
 | none => D
 | some f => D.lh k (f.iy ++ f.gu.take (vq kl i f.gu.length)) []
def crN (kl : List Int) (D : Dk) (F : List Int) : Nat → Dk
 | 0 => D
 | i + 1 => aay kl (crN kl D F i) (F.getD i 0) i
def Dk.jx (D : Dk) (kl : List Int) : Dk := { crN kl D D.gr D.gr.length with ie := false, gh := false }
section
variable {w0 w : World} {hb r : Nat} {m : MP} {es a b : List FE} {D : Dk} {R : List Asn} {e e' : FE}
theorem awr (D : Dk) (k : Int) (fa lo : List Int) : (D.lh k fa lo).nr = D.nr := by
 unfold Dk.nr Dk.lh
 rw [List.map_map]
 refine List.map_congr_left fun f hf => ?_
 show (if f.n = k then (⟨k, fa, lo⟩ : Fil) else f).n = f.n
 split
 ·rename_i h; exact h.symm
 ·rfl
theorem aqw (kl : List Int) (D : Dk) (k : Int) (i : Nat) : (aay kl D k i).nr = D.nr := by
 unfold aay
 split
 ·rfl
 ·exact awr ..
theorem ank (kl : List Int) (D : Dk) (F : List Int) : ∀ i, (crN kl D F i).nr = D.nr
 | 0 => rfl
 | i + 1 => (aqw kl _ _ _).trans (ank kl D F i)
theorem bea (hk : ll m (a ++ e :: b) D) (S : St w0 w (ky hb r m (a ++ e :: b) D ++ R)) {n : Nat} (hn : n ≤ e.gu.length) {x2 : List Value} {t17 : Value} {K4 : KL} {K : KV}
  (h : ∀ w', St w0 w' (fy hb (D.lh e.n (e.iy ++ e.gu.take n) []) :: R) → K4 [gv x2 4, t17, e.ptr, .int .i64 (n : Int)] w') : M.aq.j5 e.ptr [.int .i64 (n : Int)] K4 x2 t17 w K := by
 unfold M.aq.j5
 have hl := uw hk
 have hu := hk.gk
 have hr := hk.gq
 have S1 := S.perm (mh hb r m a b e D R)
 have S2 := uz S1
 obtain ⟨c0, c1, fz⟩ := ade S2
 have s1 : SlB w e.fv e.iy := S2.swap.row il
 have s2 : SlB w e.lv e.gu := S2.zq.row il
 obtain ⟨v', s', hsub, hsl⟩ := s2.sub (P := P) (t := T.d) (lo := none) (hi := some (.int .i64 (n : Int))) (i := 0) (j := n) (by kernel_rfl) (by kernel_rfl) (.inl ⟨rfl, rfl⟩) (.inr ⟨_, rfl⟩) (Nat.zero_le _) hn
 rw [List.drop_zero, Nat.sub_zero] at s'
 obtain ⟨a1, k1, hv1, _⟩ := id s1
 obtain ⟨a2, k2, hv2, _⟩ := id s2
 obtain ⟨a3, k3, hv3, _⟩ := id s'
 have c0' := c0
 have c1' := c1
 rw [hv1] at c0'
 rw [hv2] at c1' hsl
 rw [hv3] at hsl
 simp [FE.ptr, c0', c1', hsl]
 rw [← hv1]
 have hmin : (List.take n e.gu).length = min n e.gu.length := by simp
 rw [← hmin, ← hv3]
 have hbl : ((Eng.dr w 1).alloc (.cells #[e.fv, v'] T.d)).heap[w.heap.size]? = some (.cells (([(e.fv, e.iy), (v', e.gu.take n)] : List (Value × List Int)).map (·.1)).toArray T.d (0, 0)) := by
  rw [fx, if_pos (by simp)]; rfl
 have f1 : Fr (fun _ => False) w ((Eng.dr w 1).alloc (.cells #[e.fv, v'] T.d)) := ((Fr.refl _ w).dr 1).alloc _
 rw [M.u.fcall]
 refine CB.yq (L := [(e.fv, e.iy), (v', e.gu.take n)]) hbl (fun p hp => ?_) (by simp [CB.tot]; omega) (by simp) fun w' v o f2 => ?_
 ·simp at hp
  rcases hp with rfl | rfl
  ·exact s1.fr f1 fun _ _ _ h => h
  ·exact s'.fr f1 fun _ _ _ h => h
 ·have hs : w.heap.size ≤ ((Eng.dr w 1).alloc (.cells #[e.fv, v'] T.d)).heap.size := f1.size
  have S3 : St w0 w' (jd v (e.iy ++ e.gu.take n) :: vm e :: (ky hb r m (a ++ b) D ++ R)) := S1.add (a := jd v (e.iy ++ e.gu.take n)) (f1.trans f2) (B := fun b => v.ownBlock = some b) ⟨by simpa using o.mono (Nat.zero_le _), fun b hb => hb⟩ fun b hb => by
   have := o.lt hb
   exact ⟨by omega, this.2⟩
  have S4 := akh S3
  obtain ⟨d0, d1, fz1⟩ := ade (uz S3.swap)
  obtain ⟨y1, y2, hv, _⟩ := S3.row il
  generalize (e.iy ++ e.gu.take n).length = L at hv
  subst hv
  simp [d0, d1, fz1, gj, gp]
  refine h _ (yw (m := m) (r := r) (es := a ++ { e with fv := .slice y1 L y2, lv := .slice none 0 0, iy := e.iy ++ e.gu.take n, gu := [] } :: b) (hk.lh (e' := { e with fv := .slice y1 L y2, lv := .slice none 0 0, iy := e.iy ++ e.gu.take n, gu := [] }) rfl rfl ?_) (S4.perm (mh hb r m a b _ _ R).symm))
  have := abf hk (e.iy ++ e.gu.take n) []
  simp at this ⊢
  omega
def CrI (w0 : World) (hb : Nat) (D : Dk) (kl : List Int) (R : List Asn) (v : Value) : KL := fun x w1 => ∃ (u0 u1 u2 u3 : Value) (i : Nat), x = [u0, u1, u2, u3, .int .i64 (i : Nat)] ∧ i ≤ D.gr.length ∧ St w0 w1 (pn v D.gr :: fy hb (crN kl D D.gr i) :: R)
theorem aqj (S : St w0 w (fy hb D :: R)) {kv : Value} {kl : List Int} (hks : ∀ w' L, St w0 w' (L ++ R) → Sl w' 1 mj kv kl) {K : KV}
  (h : ∀ w', St w0 w' (fy hb (D.jx kl) :: R) → K (.tuple #[]) w') : ey P F.cb [.pointer (some ⟨hb, 0, none⟩), kv] w K := by
 rw [M.aq.fcall]
 apply M.aq.calls
 unfold M.aq
 simp
 unfold M.aq.j0
 rw [fh]
 obtain ⟨r0, m0, es0, hk0, S0⟩ := xk S
 have hfl : D.gr.length ≤ 64 := by
  have := hk0.few
  unfold Dk.gr
  rw [(mf _).length_eq, hk0.nr, List.length_map]; exact this
 refine ahx hk0 S0 fun w1 v S1 => ?_
 have S1' : St w0 w1 (pn v D.gr :: fy hb D :: R) := ((yw hk0 (S1.perm List.perm_middle.symm)) : St w0 w1 (fy hb D :: (pn v D.gr :: R))).swap
 have hsl : ∀ {w i}, St w0 w (pn v D.gr :: fy hb (crN kl D D.gr i) :: R) → Sl w 1 mj v D.gr := fun S => S.row lq
 rw [(hsl (i := 0) S1').ii (by simp)]
 refine ⟨CrI w0 hb D kl R v, fun x _ => D.gr.length - ms x 4, ⟨_, _, _, _, 0, rfl, Nat.zero_le _, S1'⟩, ?_⟩
 rintro x w2 ⟨u0, u1, u2, u3, i, rfl, hi, S2⟩
 have q : ∀ a b c d e : Value, gv [a, b, c, d, e] 4 = e := fun _ _ _ _ _ => rfl
 simp only [q, ka, fh]
 by_cases hil : i < D.gr.length
 ·have hil' : (i : Int) < D.gr.length := by omega
  simp only [hil', decide_true, Eng.cond_true]
  unfold M.aq.j3
  obtain ⟨bb, o, cap, hv, hbb, _, hc⟩ := (hsl S2).at hil
  have c0 := hc 0 _ rfl
  simp only [Nat.mul_one, Nat.add_zero] at c0
  have hmem : D.gr[i] ∈ D.gr := List.getElem_mem hil
  have hnext : crN kl D D.gr (i + 1) = aay kl (crN kl D D.gr i) D.gr[i] i := by
   show aay kl _ (D.gr.getD i 0) i = _
   rw [List.getD_eq_getElem?_getD, List.getElem?_eq_getElem hil]; rfl
  have hmem' : D.gr[i] ∈ (crN kl D D.gr i).nr := by
   rw [ank]; exact (mf _).mem_iff.1 hmem
  obtain ⟨r, m, es, hk, S3⟩ := xk S2.swap
  generalize hD : crN kl D D.gr i = D1 at *
  generalize hki : D.gr[i] = k at *
  rw [hk.nr] at hmem'
  obtain ⟨e, he, hek⟩ := List.mem_map.1 hmem'
  obtain ⟨a, b, hab⟩ := List.append_of_mem he
  subst hab
  obtain ⟨_, c1, _⟩ := nq (qw S3)
  have hg := hk.mg e (by simp)
  have hlu : ∀ K, luT P T.o (.map (some r)) (.int .i64 k) false w2 K = K e.ptr w2 := fun K => by
   rw [abi mt.o (ado S3).1, ← hek, hg]; rfl
  obtain ⟨hbk, s1, s2⟩ := avz (a := a) (e := e) (b := b) S3
  have d1 : fi w2 e.p 1 = some e.lv := by rw [fm hbk]; rfl
  have hlenl := fun w' K => s2.ii (P := P) (w := w') (t := T.d) (ty := T.b) (by kernel_rfl) [false] (K := K)
  have hks2 := hks w2 (pn v D.gr :: [fy hb D1]) S2
  have hlenk := fun w' K => hks2.ii (P := P) (w := w') (t := T.g) (ty := T.b) (by kernel_rfl) [false] (K := K)
  obtain ⟨a2, k2, hv2, _⟩ := id s2
  have d1' := d1
  rw [hv2] at d1' hlenl
  have hwi : IntKind.i64.wrap ((i : Int) + 1) = ((i + 1 : Nat) : Int) := by rw [fj (by omega) (by omega)]; rfl
  have hst : crN kl D D.gr (i + 1) = D1.lh e.n (e.iy ++ e.gu.take (vq kl i e.gu.length)) [] := by
   rw [hnext]
   unfold aay
   rw [← hek, hk.ud]; rfl
  have fin : ∀ w' y0 y1 y2 y3, St w0 w' (fy hb (D1.lh e.n (e.iy ++ e.gu.take (vq kl i e.gu.length)) []) :: pn v D.gr :: R) → CrI w0 hb D kl R v [y0, y1, y2, y3, .int .i64 ((i + 1 : Nat) : Int)] w' ∧ D.gr.length - ms [y0, y1, y2, y3, .int .i64 ((i + 1 : Nat) : Int)] 4 < D.gr.length - ms [u0, u1, u2, u3, .int .i64 (i : Nat)] 4 := fun w' y0 y1 y2 y3 S' => ⟨⟨_, _, _, _, i + 1, rfl, by omega, by rw [hst]; exact S'.swap⟩, by simp only [ms, q]; simp; omega⟩
  rw [hv]
  by_cases hik : i < kl.length
  ·have hik' : (i : Int) < kl.length := by omega
   obtain ⟨bk, ok, capk, hkv, hbk2, _, hck⟩ := hks2.at hik
   have ck := hck 0 _ rfl
   simp only [Nat.mul_one, Nat.add_zero] at ck
   have hsty : ((vq kl i e.gu.length : Nat) : Int) = max 0 (min kl[i] (e.gu.length : Int)) := by
    unfold vq
    rw [List.getD_eq_getElem?_getD, List.getElem?_eq_getElem hik]
    simp only [Option.getD_some]
    omega
   simp [q, hil, c0, c1, hlu, hlenk, hik]
   rw [hkv]
   simp [hik, ck, FE.ptr, d1', hlenl, ahg, bae, ← hsty]
   have S4 := S3.iq ((Fr.refl _ w2).dr 1)
   refine bea (n := vq kl i e.gu.length) (R := pn v D.gr :: R) hk S4 (by omega) fun w' S' => ?_
   rw [← hv]
   have := fin w' (gv [u0, u1, u2, u3, .int .i64 (i : Nat)] 4) (.int .i64 k) e.ptr (.int .i64 (vq kl i e.gu.length : Nat)) S'
   rw [hwi]
   exact this
  ·have hik' : ¬ (i : Int) < kl.length := by omega
   have hst0 : vq kl i e.gu.length = 0 := by
    unfold vq
    rw [List.getD_eq_getElem?_getD, List.getElem?_eq_none (by omega)]
    simp only [Option.getD_none]
    omega
   rw [hst0] at fin
   simp [q, hil, c0, c1, hlu, hlenk, hik]
   refine bea (n := 0) (R := pn v D.gr :: R) hk S3 (by omega) fun w' S' => ?_
   rw [← hv]
   have := fin w' (gv [u0, u1, u2, u3, .int .i64 (i : Nat)] 4) (.int .i64 k) e.ptr (.int .i64 (0 : Nat)) S'
   rw [hwi]
   exact this
 ·have hil' : ¬ (i : Int) < D.gr.length := by omega
  simp only [hil', decide_false, Eng.cond_false]
  have hii : i = D.gr.length := by omega
  subst hii
  obtain ⟨r, m, es, hk, S3⟩ := xk S2.drop
  obtain ⟨_, _, _, c3, c4, fz⟩ := nq (qw S3)
  have hh := qw S3
  simp [c3, c4, fz, gj, gp]
  refine h _ (yw (r := r) (m := m) (es := es) (D := D.jx kl) { hk with arm := fun h => by cases h } (St.kh (cs' := #[.int .i64 (crN kl D D.gr D.gr.length).gq, .map (some r), .int .i64 (crN kl D D.gr D.gr.length).left, .bool false, .bool false]) (e' := T.ah) S3 (((Fr.refl (fun x => x = hb) w2).setCell (.inl rfl) _ _).setCell (.inl rfl) _ _) ?_))
  rw [jv (jv hh)]; rfl
end
set_option maxRecDepth 100000
open Go.Eng Go.Proofs.YtfnhoaemapheoaaGreat.Sint
section
variable {w0 w : World} {hb : Nat} {D : Dk} {R : List Asn}
theorem bbl (S : St w0 w (fy hb D :: R)) (k : Int) {K : KV} (h : ∀ w' v, St w0 w' (jd v (D.jp k).1 :: fy hb D :: R) → K (.tuple #[v, .int .i64 (D.jp k).2]) w') : ey P F.cj [.pointer (some ⟨hb, 0, none⟩), .int .i64 k] w K := by
 obtain ⟨r, m, es, hk, S'⟩ := xk S
 exact bbp hk S' k fun w' v S2 => h w' v (yw hk (S2.perm List.perm_middle.symm) : St w0 w' (fy hb D :: (jd v (D.jp k).1 :: R))).swap
theorem bah (S : St w0 w (fy hb D :: R)) {K : KV} (h : ∀ w' v, St w0 w' (pn v D.gr :: fy hb D :: R) → K v w') : ey P F.ba [.pointer (some ⟨hb, 0, none⟩)] w K := by
 obtain ⟨r, m, es, hk, S'⟩ := xk S
 exact ahx hk S' fun w' v S2 => h w' v (yw hk (S2.perm List.perm_middle.symm) : St w0 w' (fy hb D :: (pn v D.gr :: R))).swap
theorem ako (S : St w0 w (fy hb D :: R)) {K : KV} (h : K (.bool D.gh) w) : ey P F.bg [.pointer (some ⟨hb, 0, none⟩)] w K := by
 obtain ⟨r, m, es, hk, S'⟩ := xk S
 exact azc S' h
end
end Go.Proofs.YtfnhoaemapheoaaGreat
set_option maxRecDepth 100000
namespace Go.Eng
section
variable {P : Program} {x : Int} {w : World} {K : KV}
theorem axw : unT P .neg (.int .u32 x) w K = K (.int .u32 (IntKind.u32.wrap (0 - x))) w := by
 simp [unT, ia, Op.unary, Op.intArith, Sem.run_pure]
theorem axm : unT P .xor (.int .u32 x) w K = K (.int .u32 (IntKind.u32.wrap (BitVec.ofInt IntKind.u32.bits IntKind.u32.max ^^^ BitVec.ofInt IntKind.u32.bits x).toNat)) w := by
 have e : (if IntKind.u32.signed = true then (-1 : Int) else IntKind.u32.max) = IntKind.u32.max := if_neg (by decide)
 unfold unT ia
 simp only [Op.unary, e, Op.intBits, Sem.run_pure]
end
end Go.Eng
namespace Go.Proofs.YtfnhoaemapheoaaGreat
open Go.Eng Go.Proofs.YtfnhoaemapheoaaGreat.Sint
def aqg (a b : Int) : Int := IntKind.u32.wrap (BitVec.ofInt IntKind.u32.bits a ^^^ BitVec.ofInt IntKind.u32.bits b).toNat
def azt (a b : Int) : Int := IntKind.u32.wrap (BitVec.ofInt IntKind.u32.bits a &&& BitVec.ofInt IntKind.u32.bits b).toNat
def orE (a b : Int) : Int := IntKind.u32.wrap (BitVec.ofInt IntKind.u32.bits a ||| BitVec.ofInt IntKind.u32.bits b).toNat
def orL (a b : Int) : Int := IntKind.u64.wrap (BitVec.ofInt IntKind.u64.bits a ||| BitVec.ofInt IntKind.u64.bits b).toNat
def aia (a : Int) : Int := aqg IntKind.u32.max a
def zv (r : Int) : Int := aqg (r.fdiv (2 ^ min (1 : Int).toNat IntKind.u32.bits)) (azt 3988292384 (IntKind.u32.wrap (0 - azt r 1)))
def qz (f : Int → Int) : Nat → Int → Int
 | 0, r => r
 | n + 1, r => f (qz f n r)
def acp (r : Int) (c : Int) : Int := qz zv 8 (aqg r (IntKind.u32.wrap c))
def yo (l : List Int) : Int := aia (l.foldl acp (aia 0))
theorem amb {t : TypeId} {rx ry : Operand} {x y : Int} {w : World} {K : KV} : en P .xor t rx ry (.int .u32 x) (.int .u32 y) w K = K (.int .u32 (aqg x y)) w := ari
theorem alr {t : TypeId} {rx ry : Operand} {x y : Int} {w : World} {K : KV} : en P .and t rx ry (.int .u32 x) (.int .u32 y) w K = K (.int .u32 (azt x y)) w := akx
theorem ayn {t : TypeId} {rx ry : Operand} {x y : Int} {w : World} {K : KV} : en P .or t rx ry (.int .u32 x) (.int .u32 y) w K = K (.int .u32 (orE x y)) w := axl
theorem azy {t : TypeId} {rx ry : Operand} {x y : Int} {w : World} {K : KV} : en P .or t rx ry (.int .u64 x) (.int .u64 y) w K = K (.int .u64 (orL x y)) w := axl
theorem aor {x : Int} {w : World} {K : KV} : unT P .xor (.int .u32 x) w K = K (.int .u32 (aia x)) w := axm
def StI (w : World) (r : Int) (n : Nat) : KL := fun x w1 => ∃ (i : Nat), x = [.int .u32 (qz zv i r), .int .i64 (i : Nat)] ∧ w1 = w ∧ i ≤ n
theorem bak {w : World} {r : Int} {n : Nat} (hn : n ≤ 1000000) {K : KV} (h : K (.int .u32 (qz zv n r)) w) : ey P F.ea [.int .u32 r, .int .i64 (n : Nat)] w K := by
 rw [M.dt.fcall]
 apply M.dt.calls
 unfold M.dt
 rw [fh]
 refine ⟨StI w r n, fun x _ => n - ms x 1, ⟨0, rfl, rfl, Nat.zero_le _⟩, ?_⟩
 rintro x w1 ⟨i, rfl, rfl, hi⟩
 have q0 : gv [.int .u32 (qz zv i r), .int .i64 (i : Nat)] 0 = .int .u32 (qz zv i r) := rfl
 have q1 : gv [.int .u32 (qz zv i r), .int .i64 (i : Nat)] 1 = .int .i64 (i : Nat) := rfl
 simp only [q0, q1, fh]
 by_cases hil : i < n
 ·have hil' : (i : Int) < n := by omega
  have hwi : IntKind.i64.wrap ((i : Int) + 1) = ((i + 1 : Nat) : Int) := by rw [fj (by omega) (by omega)]; rfl
  simp [hil']
  unfold M.dt.j2
  simp only [q0, q1, fh]
  rw [ack (by omega), alr, axw, alr, amb, iw, hwi]
  exact ⟨⟨i + 1, rfl, rfl, by omega⟩, by simp [ms, gv]; omega⟩
 ·have hil' : ¬ (i : Int) < n := by omega
  have he : i = n := by omega
  subst he
  simp
  exact h
def MoI (w : World) (l : List Int) (s : Int) : KL := fun x w1 => ∃ (u : Value) (i : Nat), x = [u, .int .u32 ((l.take i).foldl acp (aia s)), .int .i64 (i : Nat)] ∧ w1 = w ∧ i ≤ l.length
theorem awz {w : World} {v : Value} {l : List Int} (hs : SlB w v l) (hl : l.length ≤ 1000000000) {K : KV} (h : K (.int .u32 (yo l)) w) : ey P F.ec [v] w K := by
 rw [M.ed.fcall]
 apply M.ed.calls
 unfold M.ed
 rw [M.dx.fcall]
 apply M.dx.calls
 unfold M.dx
 rw [aor, fh, hs.ii (by kernel_rfl)]
 refine ⟨MoI w l 0, fun x _ => l.length - ms x 2, ⟨_, 0, rfl, rfl, Nat.zero_le _⟩, ?_⟩
 rintro x w1 ⟨u, i, rfl, rfl, hi⟩
 generalize hf : (l.take i).foldl acp (aia 0) = f
 have q0 : gv [u, .int .u32 f, .int .i64 (i : Nat)] 0 = u := rfl
 have q1 : gv [u, .int .u32 f, .int .i64 (i : Nat)] 1 = .int .u32 f := rfl
 have q2 : gv [u, .int .u32 f, .int .i64 (i : Nat)] 2 = .int .i64 (i : Nat) := rfl
 simp only [q2, fh]
 by_cases hil : i < l.length
 ·have hil' : (i : Int) < l.length := by omega
  have hwi : IntKind.i64.wrap ((i : Int) + 1) = ((i + 1 : Nat) : Int) := by rw [fj (by omega) (by omega)]; rfl
  obtain ⟨b, o, cap, hv, _, _, hc⟩ := hs.at hil
  have c0 := hc 0 _ rfl
  simp only [Nat.mul_one, Nat.add_zero] at c0
  have htk : (l.take (i + 1)).foldl acp (aia 0) = acp f l[i] := by
   rw [List.take_succ_eq_append_getElem hil, List.foldl_append, hf]; rfl
  generalize l[i] = c at *
  simp [hil']
  unfold M.dx.j2
  simp only [q1, q2, fh]
  rw [hv]
  simp [hil, c0]
  rw [kf (ks := .u8) (kd := .u32) (by kernel_rfl) (by kernel_rfl), amb]
  refine bak (n := 8) (by omega) ?_
  rw [hwi]
  exact ⟨⟨.int .u8 c, i + 1, by rw [htk]; rfl, rfl, by omega⟩, by simp [ms, gv]; omega⟩
 ·have hil' : ¬ (i : Int) < l.length := by omega
  simp [hil']
  rw [List.take_of_length_le (by omega)] at hf
  have q4 : gv [v, .int .i64 (l.length : Nat), .int .i64 (i : Nat), u, .int .u32 f] 4 = .int .u32 f := rfl
  try simp only [q0, q1, q4]
  rw [aor, ← hf]
  exact h
def b8 (x : Int) : Int := IntKind.u8.wrap x
def s8 (x : Int) : Int := x.fdiv (2 ^ min (8 : Int).toNat IntKind.u32.bits)
def sx (n : Int) : List Int := (List.range 4).map fun i => b8 (qz s8 i n)
section
variable {w0 w : World} {R : List Asn} {v : Value} {l : List Int}
theorem axu (S : St w0 w R) (x : Int) : St w0 (w.alloc (.cells #[.int .u8 x] T.aq)) (jd (.slice (some ⟨w.heap.size, 0, none⟩) 1 1) [x] :: R) := St.ti (l := [x]) S il rfl (by unfold maxLen; simp)
def P3I (w0 : World) (l : List Int) (n : Int) (R : List Asn) : KL := fun x w1 => ∃ (v : Value) (i : Nat), x = [v, .int .u32 (qz s8 i n), .int .i64 (i : Nat)] ∧ i ≤ 4 ∧ St w0 w1 (jd v (l ++ (sx n).take i) :: R)
theorem qf (n : Int) : (sx n).length = 4 := by simp [sx]
theorem atp (n : Int) {i : Nat} (hi : i < 4) : (sx n).take (i + 1) = (sx n).take i ++ [b8 (qz s8 i n)] := by
 rw [List.take_succ_eq_append_getElem (by rw [qf]; exact hi)]
 simp [sx]
theorem aow (S : St w0 w (jd v l :: R)) (hl : l.length ≤ 100000000) (n : Int) {K : KV} (h : ∀ w' v', St w0 w' (jd v' (l ++ sx n) :: R) → K v' w') : ey P F.dr [v, .int .u32 n] w K := by
 rw [M.ds.fcall]
 apply M.ds.calls
 unfold M.ds
 rw [fh]
 refine ⟨P3I w0 l n R, fun x _ => 4 - ms x 2, ⟨v, 0, rfl, by omega, by simpa using S⟩, ?_⟩
 rintro x w1 ⟨v, i, rfl, hi, S⟩
 have q0 : gv [v, .int .u32 (qz s8 i n), .int .i64 (i : Nat)] 0 = v := rfl
 have q1 : gv [v, .int .u32 (qz s8 i n), .int .i64 (i : Nat)] 1 = .int .u32 (qz s8 i n) := rfl
 have q2 : gv [v, .int .u32 (qz s8 i n), .int .i64 (i : Nat)] 2 = .int .i64 (i : Nat) := rfl
 simp only [q2, fh]
 by_cases hil : i < 4
 ·have hil' : (i : Int) < 4 := by omega
  have hwi : IntKind.i64.wrap ((i : Int) + 1) = ((i + 1 : Nat) : Int) := by rw [fj (by omega) (by omega)]; rfl
  simp [hil']
  unfold M.ds.j2
  simp only [q0, q1, q2, fh]
  rw [kf (ks := .u32) (kd := .u8) (by kernel_rfl) (by kernel_rfl)]
  simp
  have S1 := axu S (b8 (qz s8 i n))
  refine Go.Eng.ri et.d il wk S1.swap (l2 := [b8 (qz s8 i n)]) (S1.row il) (by simp [qf]; omega) (by decide) fun w2 v2 S2 => ?_
  rw [ack (by omega), hwi]
  refine ⟨⟨v2, i + 1, rfl, by omega, ?_⟩, by simp [ms, gv]; omega⟩
  rw [atp n hil, ← List.append_assoc]
  exact S2.swap.drop
 ·have hil' : ¬ (i : Int) < 4 := by omega
  have he : i = 4 := by omega
  subst he
  simp
  rw [List.take_of_length_le (by rw [qf]; omega)] at S
  exact h w1 v S
def shE (c : Int) (i : Nat) : Int := IntKind.u32.wrap (IntKind.u32.wrap c * 2 ^ min (8 * i) IntKind.u32.bits)
def zd (l : List Int) : Nat → Int
 | 0 => 0
 | i + 1 => orE (zd l i) (shE (l.getD i 0) i)
def vw (l : List Int) : Int := zd l 4
def U3I (w : World) (l : List Int) : KL := fun x w1 => ∃ (u0 u1 : Value) (i : Nat), x = [u0, u1, .int .u32 (zd l i), .int .i64 (i : Nat)] ∧ w1 = w ∧ i ≤ 4
theorem awx (hs : SlB w v l) (hl : 4 ≤ l.length) {K : KV} (h : K (.int .u32 (vw l)) w) : ey P F.ed [v] w K := by
 rw [M.eb.fcall]
 apply M.eb.calls
 unfold M.eb
 obtain ⟨v', s', _, hsub⟩ := hs.sub (P := P) (t := T.d) (lo := none) (hi := some (.int .i64 (4 : Nat))) (i := 0) (j := 4) (by kernel_rfl) (by kernel_rfl) (.inl ⟨rfl, rfl⟩) (.inr ⟨_, rfl⟩) (Nat.zero_le _) hl
 have e4 : (List.take (4 - 0) (List.drop 0 l)) = l.take 4 := by simp
 rw [e4] at s'
 have hsub' : ∀ w1 K, slT P T.d v none (some (.int .i64 4)) none w1 K = K v' w1 := hsub
 have hl4 : (l.take 4).length = 4 := by simp; omega
 rw [fh, hsub', s'.ii (by kernel_rfl), hl4]
 refine ⟨U3I w l, fun x _ => 4 - ms x 3, ⟨_, _, 0, rfl, rfl, by omega⟩, ?_⟩
 rintro x w1 ⟨u0, u1, i, rfl, rfl, hi⟩
 have q2 : gv [u0, u1, .int .u32 (zd l i), .int .i64 (i : Nat)] 2 = .int .u32 (zd l i) := rfl
 have q3 : gv [u0, u1, .int .u32 (zd l i), .int .i64 (i : Nat)] 3 = .int .i64 (i : Nat) := rfl
 have q0 : gv [u0, u1, .int .u32 (zd l i), .int .i64 (i : Nat)] 0 = u0 := rfl
 have q1 : gv [u0, u1, .int .u32 (zd l i), .int .i64 (i : Nat)] 1 = u1 := rfl
 simp only [q3, fh]
 by_cases hil : i < 4
 ·have hil' : (i : Int) < ((4 : Nat) : Int) := by omega
  have hwi : IntKind.i64.wrap ((i : Int) + 1) = ((i + 1 : Nat) : Int) := by rw [fj (by omega) (by omega)]; rfl
  have hw8 : IntKind.i64.wrap (8 * (i : Int)) = ((8 * i : Nat) : Int) := by rw [fj (by omega) (by omega)]; omega
  have hwu : IntKind.u64.wrap (8 * (i : Int)) = 8 * (i : Int) := we (by omega) (by omega)
  have ht8 : (8 * (i : Int)).toNat = 8 * i := by omega
  obtain ⟨b, o, cap, hv, _, _, hc⟩ := s'.at (i := i) (by omega)
  have c0 := hc 0 _ rfl
  simp only [Nat.mul_one, Nat.add_zero] at c0
  have hgd : l.getD i 0 = (l.take 4)[i]'(by omega) := by
   rw [List.getD_eq_getElem?_getD, List.getElem?_eq_getElem (by omega), List.getElem_take]; rfl
  rw [← hgd] at c0
  rw [hl4] at hv
  have e : zd l (i + 1) = orE (zd l i) (shE (l.getD i 0) i) := rfl
  generalize l.getD i 0 = c at *
  rw [ka, decide_eq_true hil', Eng.cond_true]
  unfold M.eb.j2
  simp only [q0, q1, q2, q3, fh, sq, hw8]
  rw [hv]
  rw [agp (by kernel_rfl) (by omega) (by omega)]
  have hz : szE P T.d = 1 := by kernel_rfl
  rw [hz]
  simp [c0]
  rw [kf (ks := .u8) (kd := .u32) (by kernel_rfl) (by kernel_rfl), kf (ks := .i64) (kd := .u64) (by kernel_rfl) (by kernel_rfl), hwu, aci (by omega), ht8, ayn, hwi]
  exact ⟨⟨_, _, i + 1, by rw [e]; rfl, rfl, by omega⟩, by simp [ms, gv]; omega⟩
 ·have hil' : ¬ (i : Int) < 4 := by omega
  have he : i = 4 := by omega
  subst he
  simp
  exact h
def kb (n : Int) : List Int := (List.range 8).map fun k => b8 (n.fdiv (2 ^ min (56 - 8 * k) IntKind.u64.bits))
theorem ph (n : Int) : (kb n).length = 8 := by simp [kb]
theorem auc (n : Int) {k : Nat} (hk : k < 8) : (kb n).take (k + 1) = (kb n).take k ++ [b8 (n.fdiv (2 ^ min (56 - 8 * k) IntKind.u64.bits))] := by
 rw [List.take_succ_eq_append_getElem (by rw [ph]; exact hk)]
 simp [kb]
def P6I (w0 : World) (l : List Int) (n : Int) (R : List Asn) : KL := fun x w1 => ∃ (v : Value) (k : Nat), x = [v, .int .i64 (56 - 8 * (k : Int))] ∧ k ≤ 8 ∧ St w0 w1 (jd v (l ++ (kb n).take k) :: R)
def bdk (x : List Value) : Nat := match gv x 1 with
 | .int _ k => (k + 8).toNat
 | _ => 0
theorem anw (S : St w0 w (jd v l :: R)) (hl : l.length ≤ 100000000) (n : Int) {K : KV} (h : ∀ w' v', St w0 w' (jd v' (l ++ kb n) :: R) → K v' w') : ey P F.dp [v, .int .u64 n] w K := by
 rw [M.dp.fcall]
 apply M.dp.calls
 unfold M.dp
 rw [fh]
 refine ⟨P6I w0 l n R, fun x _ => bdk x, ⟨v, 0, rfl, by omega, by simpa using S⟩, ?_⟩
 rintro x w1 ⟨v, k, rfl, hk, S⟩
 have q0 : gv [v, .int .i64 (56 - 8 * (k : Int))] 0 = v := rfl
 have q1 : gv [v, .int .i64 (56 - 8 * (k : Int))] 1 = .int .i64 (56 - 8 * (k : Int)) := rfl
 simp only [q1, fh]
 by_cases hil : k < 8
 ·have hil' : (0 : Int) ≤ 56 - 8 * (k : Int) := by omega
  have hwu : IntKind.u64.wrap (56 - 8 * (k : Int)) = 56 - 8 * (k : Int) := we (by omega) (by omega)
  have hwi : IntKind.i64.wrap (56 - 8 * (k : Int) - 8) = 56 - 8 * ((k + 1 : Nat) : Int) := by rw [fj (by omega) (by omega)]; omega
  have htn : (56 - 8 * (k : Int)).toNat = 56 - 8 * k := by omega
  rw [ke, decide_eq_true hil']
  simp only [fg]
  unfold M.dp.j2
  simp only [q0, q1, fh]
  rw [kf (ks := .i64) (kd := .u64) (by kernel_rfl) (by kernel_rfl), hwu, ack hil', htn, kf (ks := .u64) (kd := .u8) (by kernel_rfl) (by kernel_rfl)]
  simp
  have S1 := axu S (b8 (n.fdiv (2 ^ min (56 - 8 * k) IntKind.u64.bits)))
  refine Go.Eng.ri et.d il wk S1.swap (l2 := [b8 (n.fdiv (2 ^ min (56 - 8 * k) IntKind.u64.bits))]) (S1.row il) (by simp [ph]; omega) (by decide) fun w2 v2 S2 => ?_
  rw [hwi]
  refine ⟨⟨v2, k + 1, rfl, by omega, ?_⟩, by simp [bdk, gv]; omega⟩
  rw [auc n hil, ← List.append_assoc]
  exact S2.swap.drop
 ·have hil' : ¬ (0 : Int) ≤ 56 - 8 * (k : Int) := by omega
  rw [ke, decide_eq_false hil']
  simp only [fg]
  rw [List.take_of_length_le (by rw [ph]; omega)] at S
  exact h w1 v S
def yv (l : List Int) : Nat → Int
 | 0 => 0
 | i + 1 => orL (IntKind.u64.wrap (yv l i * 2 ^ min (8 : Int).toNat IntKind.u64.bits)) (IntKind.u64.wrap (l.getD i 0))
def lj (l : List Int) : Int := yv l 8
def U6I (w : World) (l : List Int) : KL := fun x w1 => ∃ (u0 : Value) (i : Nat), x = [u0, .int .u64 (yv l i), .int .i64 (i : Nat)] ∧ w1 = w ∧ i ≤ 8
theorem aut (hs : SlB w v l) (hl : 8 ≤ l.length) {K : KV} (h : K (.int .u64 (lj l)) w) : ey P F.eb [v] w K := by
 rw [M.ea.fcall]
 apply M.ea.calls
 unfold M.ea
 obtain ⟨v', s', _, hsub⟩ := hs.sub (P := P) (t := T.d) (lo := none) (hi := some (.int .i64 (8 : Nat))) (i := 0) (j := 8) (by kernel_rfl) (by kernel_rfl) (.inl ⟨rfl, rfl⟩) (.inr ⟨_, rfl⟩) (Nat.zero_le _) hl
 have e4 : (List.take (8 - 0) (List.drop 0 l)) = l.take 8 := by simp
 rw [e4] at s'
 have hsub' : ∀ w1 K, slT P T.d v none (some (.int .i64 8)) none w1 K = K v' w1 := hsub
 have hl4 : (l.take 8).length = 8 := by simp; omega
 rw [fh, hsub', s'.ii (by kernel_rfl), hl4]
 refine ⟨U6I w l, fun x _ => 8 - ms x 2, ⟨_, 0, rfl, rfl, by omega⟩, ?_⟩
 rintro x w1 ⟨u0, i, rfl, rfl, hi⟩
 have q1 : gv [u0, .int .u64 (yv l i), .int .i64 (i : Nat)] 1 = .int .u64 (yv l i) := rfl
 have q2 : gv [u0, .int .u64 (yv l i), .int .i64 (i : Nat)] 2 = .int .i64 (i : Nat) := rfl
 have q0 : gv [u0, .int .u64 (yv l i), .int .i64 (i : Nat)] 0 = u0 := rfl
 simp only [q2, fh]
 by_cases hil : i < 8
 ·have hil' : (i : Int) < ((8 : Nat) : Int) := by omega
  have hwi : IntKind.i64.wrap ((i : Int) + 1) = ((i + 1 : Nat) : Int) := by rw [fj (by omega) (by omega)]; rfl
  obtain ⟨b, o, cap, hv, _, _, hc⟩ := s'.at (i := i) (by omega)
  have c0 := hc 0 _ rfl
  simp only [Nat.mul_one, Nat.add_zero] at c0
  have hgd : l.getD i 0 = (l.take 8)[i]'(by omega) := by
   rw [List.getD_eq_getElem?_getD, List.getElem?_eq_getElem (by omega), List.getElem_take]; rfl
  rw [← hgd] at c0
  rw [hl4] at hv
  have e : yv l (i + 1) = orL (IntKind.u64.wrap (yv l i * 2 ^ min (8 : Int).toNat IntKind.u64.bits)) (IntKind.u64.wrap (l.getD i 0)) := rfl
  generalize l.getD i 0 = c at *
  rw [ka, decide_eq_true hil', Eng.cond_true]
  unfold M.ea.j2
  simp only [q0, q1, q2, fh]
  rw [hv]
  rw [agp (by kernel_rfl) (by omega) (by omega)]
  have hz : szE P T.d = 1 := by kernel_rfl
  rw [hz]
  simp [c0]
  rw [aci (by omega), kf (ks := .u8) (kd := .u64) (by kernel_rfl) (by kernel_rfl), azy, hwi]
  exact ⟨⟨_, i + 1, by rw [e], rfl, by omega⟩, by simp [ms, gv]; omega⟩
 ·have hil' : ¬ (i : Int) < 8 := by omega
  have he : i = 8 := by omega
  subst he
  simp
  exact h
theorem amq {n : Nat} (h : n < 4294967296) : IntKind.u32.wrap (n : Int) = n := by
 show (if (false && decide ((n : Int) % 4294967296 ≥ 2147483648)) = true then (n : Int) % 4294967296 - 4294967296 else (n : Int) % 4294967296) = n
 simp; omega
theorem awj {n : Nat} (h : n < 4294967296) : (BitVec.ofInt IntKind.u32.bits (n : Int)).toNat = n := by
 show (BitVec.ofInt 32 (n : Int)).toNat = n
 rw [BitVec.toNat_ofInt]; omega
theorem agx {a c i : Nat} (ha : a < 2 ^ i) (hc : 2 ^ i * c + a < 4294967296) : orE (a : Int) ((2 ^ i * c : Nat) : Int) = ((2 ^ i * c + a : Nat) : Int) := by
 unfold orE
 rw [BitVec.toNat_or, awj (by omega), awj (by omega), Nat.or_comm, ← Nat.two_pow_add_eq_or_of_lt ha, amq hc]
theorem bbt {a c : Nat} (ha : a < 256) (hc : 256 * c + a < 18446744073709551616) : orL ((256 * c : Nat) : Int) (a : Int) = ((256 * c + a : Nat) : Int) := by
 have := Nat.two_pow_add_eq_or_of_lt (i := 8) (b := a) ha c
 unfold orL
 rw [BitVec.toNat_or]
 have h1 : (BitVec.ofInt IntKind.u64.bits ((256 * c : Nat) : Int)).toNat = 256 * c := ajd (by omega)
 have h2 : (BitVec.ofInt IntKind.u64.bits (a : Int)).toNat = a := ajd (by omega)
 rw [h1, h2, ← this, xg hc]
theorem afe {n : Nat} : b8 (n : Int) = ((n % 256 : Nat) : Int) := by
 unfold b8
 show (if (false && decide ((n : Int) % 256 ≥ 128)) = true then (n : Int) % 256 - 256 else (n : Int) % 256) = _
 simp
theorem ana {n : Nat} : s8 (n : Int) = ((n / 256 : Nat) : Int) := aka n 8
theorem aeu {n : Nat} (hn : n < 4294967296) (r : List Int) : vw (sx (n : Int) ++ r) = n := by
 have e : sx (n : Int) = [((n % 256 : Nat) : Int), ((n / 256 % 256 : Nat) : Int), ((n / 256 / 256 % 256 : Nat) : Int), ((n / 256 / 256 / 256 % 256 : Nat) : Int)] := by
  show [b8 (n : Int), b8 (s8 n), b8 (s8 (s8 n)), b8 (s8 (s8 (s8 n)))] = _
  rw [ana, ana, ana, afe, afe, afe, afe]
 rw [e]
 generalize h0 : n % 256 = c0
 generalize h1 : n / 256 % 256 = c1
 generalize h2 : n / 256 / 256 % 256 = c2
 generalize h3 : n / 256 / 256 / 256 % 256 = c3
 have sh : ∀ (c i : Nat), c < 256 → i < 4 → 2 ^ (8 * i) * c < 4294967296 → shE (c : Int) i = ((2 ^ (8 * i) * c : Nat) : Int) := fun c i hc hi hb => by
  unfold shE
  rw [amq (by omega)]
  have hm : min (8 * i) IntKind.u32.bits = 8 * i := Nat.min_eq_left (by show 8 * i ≤ 32; omega)
  rw [hm]
  have : (c : Int) * 2 ^ (8 * i) = ((2 ^ (8 * i) * c : Nat) : Int) := by rw [Int.mul_comm]; simp
  rw [this, amq hb]
 show orE (orE (orE (orE 0 (shE (c0 : Int) 0)) (shE (c1 : Int) 1)) (shE (c2 : Int) 2)) (shE (c3 : Int) 3) = n
 rw [sh c0 0 (by omega) (by omega) (by simp; omega), sh c1 1 (by omega) (by omega) (by simp; omega), sh c2 2 (by omega) (by omega) (by simp; omega), sh c3 3 (by omega) (by omega) (by simp; omega)]
 have z0 := agx (a := 0) (c := c0) (i := 0) (by simp) (by simp; omega)
 have z1 := agx (a := c0) (c := c1) (i := 8) (by simp; omega) (by simp; omega)
 have z2 := agx (a := 256 * c1 + c0) (c := c2) (i := 16) (by simp; omega) (by simp; omega)
 have z3 := agx (a := 65536 * c2 + (256 * c1 + c0)) (c := c3) (i := 24) (by simp; omega) (by simp; omega)
 simp only [Nat.mul_zero, Nat.pow_zero, Nat.one_mul, Nat.add_zero, Nat.mul_one] at z0 z1 z2 z3 ⊢
 rw [show ((0 : Int)) = ((0 : Nat) : Int) from rfl, z0, z1]
 rw [show 2 ^ 8 * c1 + c0 = 256 * c1 + c0 from rfl, show 8 * 2 = 16 from rfl, z2, show 2 ^ 16 * c2 + (256 * c1 + c0) = 65536 * c2 + (256 * c1 + c0) from rfl, show 8 * 3 = 24 from rfl, z3]
 congr 1
 show 16777216 * c3 + (65536 * c2 + (256 * c1 + c0)) = n
 omega
theorem ama {n : Nat} (hn : n < 18446744073709551616) (r : List Int) : lj (kb (n : Int) ++ r) = n := by
 have hb : ∀ k, k < 8 → (kb (n : Int) ++ r).getD k 0 = ((n / 2 ^ (56 - 8 * k) % 256 : Nat) : Int) := fun k hk => by
  rw [List.getD_eq_getElem?_getD, List.getElem?_append_left (by rw [ph]; exact hk)]
  unfold kb
  rw [List.getElem?_map, List.getElem?_range hk]
  show b8 ((n : Int).fdiv (2 ^ min (56 - 8 * k) IntKind.u64.bits)) = _
  have hm : min (56 - 8 * k) IntKind.u64.bits = 56 - 8 * k := Nat.min_eq_left (by show 56 - 8 * k ≤ 64; omega)
  rw [hm, aka, afe]
 have key : ∀ i, i ≤ 8 → yv (kb (n : Int) ++ r) i = ((n / 2 ^ (64 - 8 * i) : Nat) : Int) := by
  intro i
  induction i with
  | zero => intro _; show (0 : Int) = _; simp; omega
  | succ i ih =>
   intro hi
   show orL (IntKind.u64.wrap (yv (kb (n : Int) ++ r) i * 2 ^ 8)) (IntKind.u64.wrap ((kb (n : Int) ++ r).getD i 0)) = _
   rw [ih (by omega), hb i (by omega)]
   have e1 : n / 2 ^ (64 - 8 * i) = n / 2 ^ (56 - 8 * i) / 256 := by
    rw [Nat.div_div_eq_div_mul]
    congr 1
    rw [show (256 : Nat) = 2 ^ 8 from rfl, ← Nat.pow_add]
    congr 1; omega
   have e2 : 64 - 8 * (i + 1) = 56 - 8 * i := by omega
   rw [e1, e2]
   have hlt : n / 2 ^ (56 - 8 * i) ≤ n := Nat.div_le_self _ _
   generalize n / 2 ^ (56 - 8 * i) = m at *
   have e3 : ((m / 256 : Nat) : Int) * 2 ^ 8 = ((256 * (m / 256) : Nat) : Int) := by rw [Int.mul_comm]; simp
   rw [e3, xg (by omega), xg (by omega), bbt (by omega) (by omega)]
   congr 1; omega
 show yv _ 8 = _
 rw [key 8 (by omega)]; simp
theorem agy (z : Int) : ∃ n : Nat, IntKind.u32.wrap z = (n : Int) ∧ n < 4294967296 := by
 have : IntKind.u32.wrap z = z % 4294967296 := by
  show (if (false && decide (z % 4294967296 ≥ 2147483648)) = true then z % 4294967296 - 4294967296 else z % 4294967296) = _
  simp
 exact ⟨(z % 4294967296).toNat, by rw [this]; omega, by omega⟩
theorem aon (l : List Int) : ∃ n : Nat, yo l = (n : Int) ∧ n < 4294967296 := by
 unfold yo
 rw [aia, aqg]
 exact agy _
end
end Go.Proofs.YtfnhoaemapheoaaGreat
set_option maxRecDepth 100000
namespace Go.Eng
section
variable {P : Program}
theorem aza {t : TypeId} (h : ki P t = true) {a : Option Addr} {len cap : Nat} {k1 k2 k3 : IntKind} {i j m : Nat} (h0 : i ≤ j) (h1 : j ≤ m) (h2 : m ≤ cap) (w : World) (K : KV) :
  slT P t (.slice a len cap) (some (.int k1 (i : Int))) (some (.int k2 (j : Int))) (some (.int k3 (m : Int))) w K = K (.slice (if m = i then a else a.map (·.add (i * szE P t))) (j - i) (m - i)) w := by
 obtain ⟨hu, inf, hi, hs⟩ := uk h
 have h3 : i ≤ m := by omega
 simp [slT, ia, Instr.sliceAt, Instr.slice, Instr.sliceBounds, Instr.sliceBound, asIntOf, Sem.run_bind, ib hu, Result.andThen, Sem.run_pure, wy hi, hs, h0, h1, h2, h3]
theorem Sl.att {α : Type} {enc : α → List Value} {sz : Nat} {w : World} {v : Value} {l : List α} {i j : Nat} (hs : Sl w sz enc v l) {t : TypeId} (h : ki P t = true) (hz : szE P t = sz) {k1 k2 k3 : IntKind} (h0 : i ≤ j) (h1 : j ≤ l.length) :
  ∃ v', Sl w sz enc v' ((l.drop i).take (j - i)) ∧ (∀ b, v'.ownBlock = some b → v.ownBlock = some b) ∧ ∀ w1 K, slT P t v (some (.int k1 (i : Int))) (some (.int k2 (j : Int))) (some (.int k3 (j : Int))) w1 K = K v' w1 := by
 obtain ⟨a, cap, rfl, g1, g2, g3⟩ := hs
 refine ⟨_, ?_, ?_, fun w1 K => aza h h0 (Nat.le_refl _) (by omega) w1 K⟩
 ·have hlen : ((l.drop i).take (j - i)).length = j - i := by simp; omega
  refine ⟨_, _, by rw [hlen], by omega, by omega, fun k x hk => ?_⟩
  have hk' : k < j - i := by have := (List.getElem?_eq_some_iff.1 hk).1; omega
  rw [List.getElem?_take_of_lt hk', List.getElem?_drop] at hk
  obtain ⟨b, o, rfl, hb, hr⟩ := g3 (i + k) x hk
  rw [if_neg (by omega)]
  refine ⟨b, o + i * sz, by simp [Addr.add, hz], hb, ?_⟩
  rw [Nat.add_assoc, ← Nat.add_mul]; exact hr
 ·intro b hb
  cases a with
  | none => split at hb <;> simp [Value.ownBlock] at hb
  | some a =>
   have : ∀ k, (a.add k).block = a.block := fun k => by unfold Addr.add; split <;> rfl
   split at hb <;> simp_all [Value.ownBlock]
theorem arf {t : TypeId} {v v1 v2 : Value} {lo hi mx : Option Value} (h1 : ∀ w1 K, slT P t v lo hi mx w1 K = K v1 w1) (h2 : ∀ w1 K, slT P t v lo hi mx w1 K = K v2 w1) (w : World) : v1 = v2 := by
 have h := (h1 w fun x _ => x = v1).symm.trans (h2 w fun x _ => x = v1)
 exact (h.mp rfl).symm
end
end Go.Eng
namespace Go.Proofs.YtfnhoaemapheoaaGreat
open Go.Eng Go.Proofs.YtfnhoaemapheoaaGreat.Sint
section
variable {w0 w : World} {R : List Asn} {v : Value} {l : List Int}
theorem yp (S : St w0 w R) (hs : SlB w v l) (hlen : l.length ≤ 100000000) {K : KV} (h : ∀ w' v', St w0 w' (jd v' l :: R) → K v' w') : ey P F.q [v] w K := by
 rw [M.cf.fcall]
 apply M.cf.calls
 unfold M.cf
 simp only [fh]
 have hs' := hs
 obtain ⟨a, cap, rfl, _⟩ := hs'
 cases a with
 | none =>
  simp
  have hz : l = [] := by
   obtain ⟨a', cap', hv, _, _, h3⟩ := hs
   cases l with
   | nil => rfl
   | cons x l =>
    obtain ⟨b, o, ha, _⟩ := h3 0 x rfl
    injection hv with h1 _ _
    rw [← h1] at ha; cases ha
  subst hz
  exact h w _ (Eng.oc S)
 | some a =>
  simp
  have S1 : St w0 (w.alloc (.cells #[] T.aq)) (jd (.slice (some ⟨w.heap.size, 0, none⟩) 0 0) [] :: R) := St.ti (l := ([] : List Int)) S il rfl (by simp)
  refine Go.Eng.ri et.d il wk S1 (hs.fr ((Fr.refl (fun _ => False) w).alloc _) fun _ _ _ h => h) (by simp; omega) (by decide) fun w2 v2 S2 => ?_
  exact h w2 v2 S2
theorem apw {v1 v2 : Value} {l1 l2 : List Int} (S : St w0 w R) (s1 : SlB w v1 l1) (s2 : SlB w v2 l2) (hl : l1.length + l2.length ≤ 100000000) {K : KV} (h : ∀ w' v', St w0 w' (jd v' (l1 ++ l2) :: R) → K v' w') :
  bsT P T.i 2 #[(0, v1), (1, v2)] w fun t w => ey P F.l [t] w K := by
 obtain ⟨a1, k1, hv1, _⟩ := id s1
 obtain ⟨a2, k2, hv2, _⟩ := id s2
 have hbs : ∀ K', bsT P T.i 2 #[(0, v1), (1, v2)] w K' = K' (.slice (some ⟨w.heap.size, 0, none⟩) 2 2) (w.alloc (.cells #[v1, v2] T.d)) := fun K' => by rw [hv1, hv2]; simp
 rw [hbs]
 have f1 : Fr (fun _ => False) w (w.alloc (.cells #[v1, v2] T.d)) := (Fr.refl _ w).alloc _
 have hn : (w.alloc (.cells #[v1, v2] T.d)).heap[w.heap.size]? = some (.cells (([(v1, l1), (v2, l2)] : List (Value × List Int)).map (·.1)).toArray T.d (0, 0)) := by
  rw [fx, if_pos rfl]; rfl
 rw [M.u.fcall]
 refine CB.yq (L := [(v1, l1), (v2, l2)]) hn (fun p hp => ?_) (by simp [CB.tot]; omega) (by simp) fun w' v o f2 => ?_
 ·simp at hp
  rcases hp with rfl | rfl
  ·exact s1.fr f1 fun _ _ _ h => h
  ·exact s2.fr f1 fun _ _ _ h => h
 ·have hs : w.heap.size ≤ (w.alloc (.cells #[v1, v2] T.d)).heap.size := f1.size
  refine h w' v (S.add (a := jd v (l1 ++ l2)) (f1.trans f2) (B := fun b => v.ownBlock = some b) ⟨?_, fun b hb => hb⟩ fun b hb => ?_)
  ·simpa using o.mono (Nat.zero_le _)
  ·have := o.lt hb
   exact ⟨by omega, this.2⟩
def te (d : List Int) : List Int := sx (d.length : Int) ++ d
def gt (d : List Int) : List Int := te d ++ sx (yo (te d))
theorem lb (d : List Int) : (gt d).length = d.length + 8 := by unfold gt te; simp [qf]; omega
theorem asi {dv : Value} {d : List Int} {v0 : Value} {l0 : List Int} (S : St w0 w R) (h0 : ∀ w' L, St w0 w' (L ++ R) → SlB w' v0 l0) (hd : ∀ w' L, St w0 w' (L ++ R) → SlB w' dv d) (hl0 : l0.length ≤ 10000000) (hl : d.length ≤ 1000000000) {K : KV}
  (h : ∀ w' v', St w0 w' (jd v' (if 8192 < d.length then [] else l0 ++ gt d) :: R) → K (.tuple #[v', .int .i64 (if 8192 < d.length then 4 else 0)]) w') : ey P F.dq [v0, dv] w K := by
 rw [M.dq.fcall]
 apply M.dq.calls
 unfold M.dq
 rw [fh, (hd w [] S).ii (by kernel_rfl)]
 by_cases hbig : 8192 < d.length
 ·have hbig' : (8192 : Int) < d.length := by omega
  rw [if_pos hbig] at h
  simp only [if_pos hbig] at h
  simp [hbig']
  exact h w _ (Eng.oc S)
 ·have hbig' : ¬ (8192 : Int) < d.length := by omega
  rw [if_neg hbig] at h
  simp only [if_neg hbig] at h
  simp [hbig']
  unfold M.dq.j0
  rw [(hd w [] S).ii (by kernel_rfl), kf (ks := .i64) (kd := .u32) (by kernel_rfl) (by kernel_rfl), amq (by omega)]
  refine aow (Eng.oc S) (by simp) _ fun w1 v1 S1 => ?_
  rw [List.nil_append] at S1
  refine Go.Eng.ri et.d il wk S1 (hd w1 [_] S1) (by simp [qf]; omega) (by decide) fun w2 v2 S2 => ?_
  have S2' : St w0 w2 (jd v2 (te d) :: R) := S2
  have hbl : (te d).length = d.length + 4 := by unfold te; simp [qf]; omega
  refine awz (S2'.row il) (by omega) ?_
  refine aow S2' (by omega) _ fun w3 v3 S3 => ?_
  have S3' : St w0 w3 (jd v3 (gt d) :: R) := S3
  have hfl := lb d
  refine apw S3' (h0 w3 [_] S3') (S3'.row il) (by omega) fun w4 v4 S4 => ?_
  exact h w4 v4 S4.swap.drop
def wg (l : List Int) : Option (List Int) × Int :=
 if l.length < 4 then (none, 3) else if 8192 < vw l then (none, 2) else if (l.length : Int) - 4 < 4 + vw l then (none, 3)
 else if yo (l.take (4 + (vw l).toNat)) ≠ vw (l.drop (4 + (vw l).toNat)) then (none, 2) else (some ((l.drop 4).take (vw l).toNat), 0)
theorem aix (l : List Int) : ∃ n : Nat, vw l = (n : Int) ∧ n < 4294967296 := by
 show ∃ n : Nat, zd l 4 = _ ∧ _
 rw [zd, orE]
 exact agy _
theorem bbw (S : St w0 w R) (hs : ∀ w' L, St w0 w' (L ++ R) → SlB w' v l) (hl : l.length ≤ 10000000) {K : KV}
  (h : ∀ w' dv rv, St w0 w' (jd dv ((wg l).1.getD []) :: R) → K (.tuple #[dv, rv, .int .i64 (wg l).2]) w') : ey P F.dz [v] w K := by
 rw [M.dr.fcall]
 apply M.dr.calls
 unfold M.dr
 have s0 := hs w [] S
 have hlen : ∀ w' K', biT P .len #[T.d] T.b [false] [v] w' K' = K' (.int .i64 l.length) w' := fun w' K' => s0.ii (by kernel_rfl) [false]
 rw [fh, hlen]
 unfold wg at h
 by_cases c1 : l.length < 4
 ·have c1' : (l.length : Int) < 4 := by omega
  simp only [if_pos c1] at h
  simp [c1']
  exact h w _ _ (Eng.oc S)
 ·have c1' : ¬ (l.length : Int) < 4 := by omega
  simp only [if_neg c1] at h
  simp [c1']
  unfold M.dr.j0
  refine awx s0 (by omega) ?_
  obtain ⟨n, hn, hn2⟩ := aix l
  rw [hn] at h ⊢
  have hw1 : IntKind.i64.wrap (n : Int) = n := ajr (by omega)
  have hw2 : IntKind.i64.wrap (4 + (n : Int)) = ((4 + n : Nat) : Int) := by rw [fj (by omega) (by omega)]; omega
  rw [kf (ks := .u32) (kd := .i64) (by kernel_rfl) (by kernel_rfl), hw1, iw, hw2, nt]
  by_cases c2 : (8192 : Int) < n
  ·simp only [if_pos c2] at h
   rw [decide_eq_true c2, Eng.cond_true]
   exact h w _ _ (Eng.oc S)
  ·simp only [if_neg c2] at h
   rw [decide_eq_false c2, Eng.cond_false, hlen, ja, fj (by omega) (by omega), ka]
   by_cases c3 : (l.length : Int) - 4 < 4 + (n : Int)
   ·simp only [if_pos c3] at h
    rw [decide_eq_true (by omega), Eng.cond_true]
    exact h w _ _ (Eng.oc S)
   ·simp only [if_neg c3] at h
    rw [decide_eq_false (by omega), Eng.cond_false]
    rw [Int.toNat_natCast] at h
    obtain ⟨va, sa, pa, ra⟩ := s0.sub (P := P) (t := T.d) (lo := none) (hi := some (.int .i64 ((4 + n : Nat) : Int))) (i := 0) (j := 4 + n) (by kernel_rfl) (by kernel_rfl) (.inl ⟨rfl, rfl⟩) (.inr ⟨_, rfl⟩) (Nat.zero_le _) (by omega)
    obtain ⟨vb, sb, pb, rb⟩ := s0.sub (P := P) (t := T.d) (lo := some (.int .i64 ((4 + n : Nat) : Int))) (hi := none) (i := 4 + n) (j := l.length) (by kernel_rfl) (by kernel_rfl) (.inr ⟨_, rfl⟩) (.inl ⟨rfl, rfl⟩) (by omega) (Nat.le_refl _)
    have ea : List.take (4 + n - 0) (List.drop 0 l) = l.take (4 + n) := by simp
    have eb : List.take (l.length - (4 + n)) (List.drop (4 + n) l) = l.drop (4 + n) := List.take_of_length_le (by simp)
    rw [ea] at sa
    rw [eb] at sb
    have fd : Fr (fun _ => False) w (Eng.dr w 1) := (Fr.refl _ w).dr 1
    simp only [ol, me, ra, rb, vx, true_and, and_true]
    have Sd := S.iq fd
    have hlt : (l.take (4 + n)).length = 4 + n := by simp; omega
    have hld : (l.drop (4 + n)).length = l.length - (4 + n) := by simp
    refine awz (sa.fr fd fun _ _ _ h => h) (by omega) ?_
    refine awx (sb.fr fd fun _ _ _ h => h) (by omega) ?_
    rw [aki]
    by_cases c4 : yo (l.take (4 + n)) = vw (l.drop (4 + n))
    ·simp only [if_neg (show ¬ yo (l.take (4 + n)) ≠ vw (l.drop (4 + n)) from fun h => h c4)] at h
     refine ⟨rfl, ?_⟩
     rw [decide_eq_false (fun h => h c4), Eng.cond_false]
     obtain ⟨vc, sc, pc, rc⟩ := Eng.Sl.att (P := P) (t := T.d) (k1 := .i64) (k2 := .i64) (k3 := .i64) (i := 4) (j := 4 + n) s0 (by kernel_rfl) (by kernel_rfl) (by omega) (by omega)
     have rc' : ∀ w1 K, slT P T.d v (some (.int .i64 4)) (some (.int .i64 ((4 + n : Nat) : Int))) (some (.int .i64 ((4 + n : Nat) : Int))) w1 K = K vc w1 := rc
     have ec : List.take (4 + n - 4) (List.drop 4 l) = (l.drop 4).take n := by congr 1; omega
     rw [ec] at sc
     have hw3 : IntKind.i64.wrap (((4 + n : Nat) : Int) + 4) = ((8 + n : Nat) : Int) := by rw [fj (by omega) (by omega)]; omega
     obtain ⟨ve, se, pe, re⟩ := s0.sub (P := P) (t := T.d) (lo := some (.int .i64 ((8 + n : Nat) : Int))) (hi := none) (i := 8 + n) (j := l.length) (by kernel_rfl) (by kernel_rfl) (.inr ⟨_, rfl⟩) (.inl ⟨rfl, rfl⟩) (by omega) (Nat.le_refl _)
     have fd2 : Fr (fun _ => False) w (Eng.dr (Eng.dr w 1) 1) := fd.dr 1
     simp only [rc', iw, hw3, re, vx, true_and, and_true]
     have S2 := Sd.iq ((Fr.refl (fun _ => False) (Eng.dr w 1)).dr 1)
     refine yp S2 (sc.fr fd2 fun _ _ _ h => h) (by simp; omega) fun w2 dv S3 => ?_
     obtain ⟨vf, sf, _, rf⟩ := (hs w2 [_] S3).sub (P := P) (t := T.d) (lo := some (.int .i64 ((8 + n : Nat) : Int))) (hi := none) (i := 8 + n) (j := l.length) (by kernel_rfl) (by kernel_rfl) (.inr ⟨_, rfl⟩) (.inl ⟨rfl, rfl⟩) (by omega) (Nat.le_refl _)
     have hvf : ve = vf := arf re rf w2
     rw [← hvf] at sf
     refine yp S3 sf (by simp; omega) fun w3 rv S4 => ?_
     exact h w3 dv rv S4.drop
    ·simp only [if_pos c4] at h
     refine ⟨rfl, ?_⟩
     rw [decide_eq_true c4, Eng.cond_true]
     exact h _ _ _ (Eng.oc Sd)
end
set_option maxRecDepth 100000
open Go.Eng Go.Proofs.YtfnhoaemapheoaaGreat.Sint
structure SV where
 a : Option Addr
 n : Nat
 c : Nat
def SV.v (s : SV) : Value := .slice s.a s.n s.c
def lz (s : SV) : List Value := [s.v]
theorem qv (s : SV) : (lz s).length = 1 := rfl
theorem avk (s : SV) : ∀ u ∈ lz s, jf u = true := fun u hu => by simp [lz] at hu; subst hu; rfl
def lw (vs : List SV) (ls : List (List Int)) : List Asn := List.zipWith (fun s l => jd s.v l) vs ls
def asy (v : Value) (vs : List SV) (ls : List (List Int)) : List Asn := [Eng.je T.d 1 lz v vs, nv (lw vs ls)]
def jk (v : Value) (ls : List (List Int)) : Asn where
 ok w B := ∃ vs, vs.length = ls.length ∧ Rs (asy v vs ls) w B
 ip := by
  rintro w w' B S ⟨vs, h1, h2⟩ hf hn
  exact ⟨vs, h1, h2.ip hf hn⟩
section
variable {w0 w : World} {R : List Asn} {v : Value} {ls : List (List Int)} {vs : List SV}
theorem acn (S : St w0 w (jk v ls :: R)) : ∃ vs, vs.length = ls.length ∧ St w0 w (Eng.je T.d 1 lz v vs :: nv (lw vs ls) :: R) := by
 obtain ⟨B, ⟨vs, h1, h2⟩, _, cl⟩ := S.open
 exact ⟨vs, h1, cl w (asy v vs ls) (Fr.refl _ _) (h2.mono fun b hb => .inl hb)⟩
theorem aje (h : vs.length = ls.length) (S : St w0 w (Eng.je T.d 1 lz v vs :: nv (lw vs ls) :: R)) : St w0 w (jk v ls :: R) := by
 obtain ⟨U, h1, _, g⟩ := St.zj (L := asy v vs ls) (R := R) S
 exact g w [jk v ls] (Fr.refl _ _) ⟨U, ⟨vs, h, h1⟩, fun b hb => .inl hb, trivial⟩
theorem arn (S : St w0 w R) : St w0 w (jk (.slice none 0 0) [] :: R) := aje (vs := []) rfl (ary (St.all.2 S))
theorem aai (S : St w0 w (jk v ls :: R)) (w' : World) (K : KV) : biT P .len #[T.i] T.b [false] [v] w' K = K (.int .i64 ls.length) w' := by
 obtain ⟨vs, h, S1⟩ := acn S
 rw [(S1.je qv).ii (by kernel_rfl), h]
theorem avr (S : St w0 w (jk v ls :: R)) : ∃ a cap, v = .slice a ls.length cap := by
 obtain ⟨vs, h, S1⟩ := acn S
 obtain ⟨a, cap, hv, _⟩ := S1.je qv
 exact ⟨a, cap, by rw [hv, h]⟩
theorem acz (S : St w0 w (jk v ls :: R)) {i : Nat} (hi : i < ls.length) : ∃ b o s, (∀ w' K, iaT P T.i v (.int .i64 (i : Nat)) w' K = K (.pointer (some ⟨b, o, none⟩)) w') ∧ (∀ {w1 : World} {R1 : List Asn}, St w0 w1 (jk v ls :: R1) → fi w b o = some (SV.v s)) ∧ fi w b o = some (SV.v s) ∧ SlB w (SV.v s) ls[i] := by
 obtain ⟨vs, h, S1⟩ := acn S
 have hi' : i < vs.length := by omega
 obtain ⟨b, o, cap, hv, _, _, hc⟩ := (S1.je qv : Sl w 1 lz v vs).at hi'
 have c0 := hc 0 _ rfl
 simp only [Nat.mul_one, Nat.add_zero] at c0
 have S2 := St.apv (j := i) (L := lw vs ls) (by simp [lw]; omega) S1.swap
 unfold lw at S2
 rw [List.getElem_zipWith] at S2
 exact ⟨b, o + i, vs[i], fun w' K => by rw [hv]; simp [hi'], fun _ => c0, c0, S2.row il⟩
theorem agf {s : SV} {d : List Int} (S : St w0 w (jd s.v d :: jk v ls :: R)) (hl : ls.length ≤ 1000000) {cs : List Bool} {ty : TypeId} {K : KV} (h : ∀ w' v', St w0 w' (jk v' (ls ++ [d]) :: R) → K v' w') :
  bsT P T.i 1 #[(0, s.v)] w fun t w => biT P .append #[T.i, T.i] ty cs [v, t] w K := by
 have hbs : ∀ K', bsT P T.i 1 #[(0, s.v)] w K' = K' (.slice (some ⟨w.heap.size, 0, none⟩) 1 1) (w.alloc (.cells #[s.v] T.d)) := fun K' => by unfold SV.v; simp
 rw [hbs]
 obtain ⟨vs, h1, S1⟩ := acn S.swap
 have S2 : St w0 (w.alloc (.cells #[s.v] T.d)) (pp T.d 1 lz (.slice (some ⟨w.heap.size, 0, none⟩) 1 1) [s] :: Eng.je T.d 1 lz v vs :: nv (lw vs ls) :: jd s.v d :: R) := St.ti (l := [s]) S1 qv rfl (by unfold maxLen; simp)
 refine aou et.i qv avk S2.swap (S2.row qv) (by simp; omega) (by decide) fun w2 v2 S3 => ?_
 have S4 : St w0 w2 (Eng.je T.d 1 lz v2 (vs ++ [s]) :: nv (lw vs ls) :: jd s.v d :: R) := S3.swap.drop
 refine h w2 v2 (aje (vs := vs ++ [s]) (by simp [h1]) ?_)
 have S5 := St.all.1 S4.swap
 have e : lw (vs ++ [s]) (ls ++ [d]) = lw vs ls ++ [jd s.v d] := by unfold lw; rw [List.zipWith_append h1]; rfl
 have S6 : St w0 w2 (nv (lw (vs ++ [s]) (ls ++ [d])) :: Eng.je T.d 1 lz v2 (vs ++ [s]) :: R) := by
  refine St.all.2 ?_
  rw [e, List.append_assoc]
  refine S5.perm (List.Perm.append_left _ ?_)
  exact List.Perm.swap _ _ _
 exact S6.swap
theorem avh {d : List Int} (S : St w0 w (jk v (d :: ls) :: R)) {k : IntKind} : ∃ v', St w0 w (jk v' ls :: R) ∧ ∀ w1 K, slT P T.i v (some (.int k 1)) none none w1 K = K v' w1 := by
 obtain ⟨vs, h1, S1⟩ := acn S
 cases vs with
 | nil => simp at h1
 | cons s vs =>
  obtain ⟨v', S2, hv⟩ := S1.bgh (P := P) (t := T.i) qv (by kernel_rfl) (by kernel_rfl) (i := 1) (by simp) (k := k)
  refine ⟨v', aje (vs := vs) (by simpa using h1) ?_, hv⟩
  have S3 : St w0 w (Eng.je T.d 1 lz v' vs :: nv (lw (s :: vs) (d :: ls)) :: R) := S2
  have S4 := St.all.1 S3.swap
  have S5 : St w0 w (jd s.v d :: (lw vs ls ++ Eng.je T.d 1 lz v' vs :: R)) := S4
  exact (St.all.2 S5.drop).swap
end
def xq (l : List Int) : Nat → Nat → List (List Int) × Nat
 | 0, gk => ([], gk)
 | f + 1, gk => if gk < l.length then match (wg ((l.drop gk).take 8200)).1 with
   | none => ([], gk)
   | some d => (d :: (xq l f (gk + d.length + 8)).1, (xq l f (gk + d.length + 8)).2)
  else ([], gk)
def ru (l : List Int) : List (List Int) × Nat := xq l (l.length + 1) 0
theorem aww (l : List Int) : ((wg l).2 = 0 ∧ ∃ d, (wg l).1 = some d ∧ d.length + 8 ≤ l.length) ∨ ((wg l).2 ≠ 0 ∧ (wg l).1 = none) := by
 unfold wg
 split
 ·exact .inr ⟨by simp, rfl⟩
 ·split
  ·exact .inr ⟨by simp, rfl⟩
  ·split
   ·exact .inr ⟨by simp, rfl⟩
   ·split
    ·exact .inr ⟨by simp, rfl⟩
    ·rename_i h1 h2 h3 h4
     refine .inl ⟨rfl, _, rfl, ?_⟩
     obtain ⟨n, hn, _⟩ := aix l
     rw [hn] at h2 h3 ⊢
     rw [Int.toNat_natCast, List.length_take, List.length_drop]
     omega
section
variable {w0 w : World} {R : List Asn} {v : Value} {l : List Int}
def AlI (w0 : World) (l : List Int) (R : List Asn) : KL := fun x w1 => ∃ (u0 u1 u2 u5 v : Value) (acc : List (List Int)) (gk f : Nat), x = [u0, u1, u2, v, .int .i64 (gk : Nat), u5] ∧ gk ≤ l.length ∧ l.length < f + gk ∧ 8 * acc.length ≤ gk ∧ ru l = (acc ++ (xq l f gk).1, (xq l f gk).2) ∧ St w0 w1 (jk v acc :: R)
theorem bcq (S : St w0 w R) (hs : ∀ w' L, St w0 w' (L ++ R) → SlB w' v l) (hl : l.length ≤ 5000000) {K : KV}
  (h : ∀ w' lv k, St w0 w' (jk lv (ru l).1 :: R) → K (.tuple #[lv, .int .i64 ((ru l).2 : Nat), .int .i64 k]) w') : ey P F.dy [v] w K := by
 rw [M.ck.fcall]
 apply M.ck.calls
 unfold M.ck
 rw [fh]
 have h0 : AlI w0 l R [undef, undef, undef, .slice none 0 0, .int .i64 ((0 : Nat) : Int), .int .i64 0] w := by
  refine ⟨_, _, _, _, _, [], 0, l.length + 1, rfl, Nat.zero_le _, by omega, by simp, ?_, arn S⟩
  rw [List.nil_append]
  exact (Prod.eta _).symm
 refine ⟨AlI w0 l R, fun x _ => l.length - ms x 4, h0, ?_⟩
 rintro x w1 ⟨u0, u1, u2, u5, lv, acc, gk, f, rfl, hu, hf, ha, heq, S1⟩
 have q3 : gv [u0, u1, u2, lv, .int .i64 (gk : Nat), u5] 3 = lv := rfl
 have q4 : gv [u0, u1, u2, lv, .int .i64 (gk : Nat), u5] 4 = .int .i64 (gk : Nat) := rfl
 have q5 : gv [u0, u1, u2, lv, .int .i64 (gk : Nat), u5] 5 = u5 := rfl
 have s1 := hs w1 [_] S1
 have hlen : ∀ w' K', biT P .len #[T.d] T.b [false] [v] w' K' = K' (.int .i64 l.length) w' := fun w' K' => s1.ii (by kernel_rfl) [false]
 unfold M.ck.j1
 simp only [fh, q4, hlen, ka]
 cases f with
 | zero => omega
 | succ f =>
  by_cases hul : gk < l.length
  ·rw [decide_eq_true (show (gk : Int) < l.length by omega), Eng.cond_true]
   unfold M.ck.j2
   have hw1 : IntKind.i64.wrap ((gk : Int) + 8192) = ((gk + 8192 : Nat) : Int) := by rw [fj (by omega) (by omega)]; omega
   have hw2 : IntKind.i64.wrap (((gk + 8192 : Nat) : Int) + 8) = ((gk + 8200 : Nat) : Int) := by rw [fj (by omega) (by omega)]; omega
   simp only [fh, q3, q4, q5, hlen, iw, hw1, hw2, ahg]
   obtain ⟨e, he⟩ : ∃ e : Nat, min (l.length : Int) ((gk + 8200 : Nat) : Int) = (e : Int) ∧ gk ≤ e ∧ e ≤ l.length ∧ (l.drop gk).take (e - gk) = (l.drop gk).take 8200 := by
    by_cases hm : l.length ≤ gk + 8200
    ·refine ⟨l.length, by omega, by omega, Nat.le_refl _, ?_⟩
     rw [List.take_of_length_le (by simp), List.take_of_length_le (by simp; omega)]
    ·exact ⟨gk + 8200, by omega, by omega, by omega, by rw [Nat.add_sub_cancel_left]⟩
   obtain ⟨he1, he2, he3, he4⟩ := he
   rw [he1]
   obtain ⟨va, sa, pa, ra⟩ := s1.sub (P := P) (t := T.d) (lo := some (.int .i64 (gk : Nat))) (hi := some (.int .i64 (e : Nat))) (i := gk) (j := e) (by kernel_rfl) (by kernel_rfl) (.inr ⟨_, rfl⟩) (.inr ⟨_, rfl⟩) he2 he3
   rw [ra]
   have hrd : ∀ w' L, St w0 w' (L ++ (jk lv acc :: R)) → SlB w' va ((l.drop gk).take 8200) := fun w' L S' => by
    obtain ⟨vb, sb, _, rb⟩ := (hs w' (L ++ [jk lv acc]) (by simpa using S')).sub (P := P) (t := T.d) (lo := some (.int .i64 (gk : Nat))) (hi := some (.int .i64 (e : Nat))) (i := gk) (j := e) (by kernel_rfl) (by kernel_rfl) (.inr ⟨_, rfl⟩) (.inr ⟨_, rfl⟩) he2 he3
    rw [arf ra rb w', ← he4]; exact sb
   refine bbw S1 hrd (by simp; omega) fun w2 dv rv S2 => ?_
   simp only [avi, auy, ava, aki]
   have hG : xq l (f + 1) gk = match (wg ((l.drop gk).take 8200)).1 with
    | none => ([], gk)
    | some d => (d :: (xq l f (gk + d.length + 8)).1, (xq l f (gk + d.length + 8)).2) := by rw [xq, if_pos hul]
   have hck := aww ((l.drop gk).take 8200)
   generalize wg ((l.drop gk).take 8200) = c at *
   obtain ⟨co, ck⟩ := c
   rcases hck with ⟨k0, d, hd, hdl⟩ | ⟨k0, hd⟩
   ·simp only at k0 hd hG S2
    subst k0 hd
    simp only [Option.getD_some] at S2 hG
    have hdl' : d.length + 8 ≤ l.length - gk := by simp at hdl; omega
    obtain ⟨da, dc, hdv, _⟩ : SlB w2 dv d := S2.row il
    simp
    unfold M.ck.j3
    have hsv : dv = SV.v ⟨da, d.length, dc⟩ := hdv
    have hdlen : ∀ w' K', biT P .len #[T.d] T.b [false] [dv] w' K' = K' (.int .i64 d.length) w' := fun w' K' => (S2.row il : SlB w2 dv d).ii (by kernel_rfl) [false]
    have r3 : gv [lv, .int .i64 (gk : Nat), u5] 0 = lv := rfl
    have r4 : gv [lv, .int .i64 (gk : Nat), u5] 1 = .int .i64 (gk : Nat) := rfl
    have r5 : gv [lv, .int .i64 (gk : Nat), u5] 2 = u5 := rfl
    have hw3 : IntKind.i64.wrap ((d.length : Int) + 8) = ((d.length + 8 : Nat) : Int) := by rw [fj (by omega) (by omega)]; omega
    have hw4 : IntKind.i64.wrap ((gk : Int) + ((d.length + 8 : Nat) : Int)) = ((gk + d.length + 8 : Nat) : Int) := by rw [fj (by omega) (by omega)]; omega
    simp only [r3, r4, r5, hdlen, iw, hw3, hw4]
    rw [hsv] at S2 ⊢
    refine agf S2 (by omega) fun w3 v3 S3 => ?_
    refine ⟨⟨_, _, _, _, v3, acc ++ [d], gk + d.length + 8, f, rfl, by omega, by omega, by simp; omega, ?_, S3⟩, ?_⟩
    ·rw [heq, hG]; simp
    ·simp [ms, gv]; omega
   ·simp only at k0 hd hG S2
    subst hd
    rw [heq, hG, List.append_nil] at h
    rw [decide_eq_true k0, Eng.cond_true]
    exact h w2 lv ck S2.drop
  ·rw [decide_eq_false (show ¬ (gk : Int) < l.length by omega), Eng.cond_false]
   have hG : xq l (f + 1) gk = ([], gk) := by rw [xq, if_neg hul]
   rw [heq, hG, List.append_nil] at h
   exact h w1 lv 0 S1
end
def cat (ds : List (List Int)) : List Int := ds.flatMap gt
theorem auo {n : Nat} (hn : n < 4294967296) (r : List Int) (k : Nat) (hk : 4 ≤ k) : vw ((sx (n : Int) ++ r).take k) = n := by
 have e : (sx (n : Int) ++ r).take k = sx (n : Int) ++ r.take (k - 4) := by
  rw [List.take_append, List.take_of_length_le (by rw [qf]; omega), qf]
 rw [e, aeu hn]
theorem axa {d : List Int} (hd : d.length ≤ 8192) (r : List Int) : wg (gt d ++ r) = (some d, 0) := by
 have hl := lb d
 have hb : (te d).length = 4 + d.length := by unfold te; simp [qf]
 have hu : vw (gt d ++ r) = (d.length : Int) := by
  unfold gt te
  rw [List.append_assoc, List.append_assoc]
  exact aeu (by omega) _
 unfold wg
 rw [hu, if_neg (by simp; omega), if_neg (by omega), if_neg (by simp; omega), Int.toNat_natCast]
 have e1 : (gt d ++ r).take (4 + d.length) = te d := by
  unfold gt
  rw [List.append_assoc, List.take_left' hb]
 have e2 : vw ((gt d ++ r).drop (4 + d.length)) = yo (te d) := by
  unfold gt
  rw [List.append_assoc, List.drop_left' hb]
  obtain ⟨n, hn, hn2⟩ := aon (te d)
  rw [hn]; exact aeu hn2 r
 have e3 : ((gt d ++ r).drop 4).take d.length = d := by
  unfold gt te
  rw [List.append_assoc, List.append_assoc, List.drop_left' (qf _), List.take_left' rfl]
 rw [e1, e2, if_neg (by simp), e3]
theorem ayk {d : List Int} (hd : d.length ≤ 8192) {k : Nat} (hk : k < (gt d).length) : (wg ((gt d).take k)).1 = none := by
 have hl := lb d
 unfold wg
 by_cases h4 : k < 4
 ·rw [if_pos (by simp; omega)]
 ·have hu : vw ((gt d).take k) = (d.length : Int) := by
   unfold gt te
   rw [List.append_assoc]
   exact auo (by omega) _ k (by omega)
  rw [if_neg (by simp; omega), hu, if_neg (by omega), if_pos (by simp; omega)]
def afi (p : List Int) : Prop := ∃ (d : List Int) (k : Nat), d.length ≤ 8192 ∧ k < (gt d).length ∧ p = (gt d).take k
theorem anx : afi [] := ⟨[], 0, by simp, by rw [lb]; simp, by simp⟩
theorem azd {ds : List (List Int)} (hd : ∀ d ∈ ds, d.length ≤ 8192) {p : List Int} (hp : afi p) : ∀ (a : List Int) (f : Nat), (a ++ cat ds ++ p).length < f + a.length → xq (a ++ cat ds ++ p) f a.length = (ds, (a ++ cat ds).length) := by
 induction ds with
 | nil =>
  intro a f hf
  simp only [cat, List.flatMap_nil, List.append_nil]
  cases f with
  | zero => simp [cat] at hf; omega
  | succ f =>
   rw [xq]
   by_cases hlt : a.length < (a ++ p).length
   ·rw [if_pos hlt, List.drop_left' rfl]
    obtain ⟨d, k, h1, h2, rfl⟩ := hp
    have hl := lb d
    rw [List.take_take, ayk h1 (by omega)]
   ·rw [if_neg hlt]
 | cons d ds ih =>
  intro a f hf
  have hdd := hd d (by simp)
  have hl := lb d
  have e0 : cat (d :: ds) = gt d ++ cat ds := by simp [cat]
  rw [e0] at hf ⊢
  cases f with
  | zero => simp at hf; omega
  | succ f =>
   rw [xq, if_pos (by simp; omega)]
   have e1 : ((a ++ (gt d ++ cat ds) ++ p).drop a.length).take 8200 = gt d ++ (cat ds ++ p).take (8200 - (gt d).length) := by
    rw [List.append_assoc, List.drop_left' rfl, List.append_assoc, List.take_append, List.take_of_length_le (by omega)]
   rw [e1, axa hdd]
   have e2 : a ++ (gt d ++ cat ds) ++ p = (a ++ gt d) ++ cat ds ++ p := by simp
   have e3 : a.length + d.length + 8 = (a ++ gt d).length := by simp; omega
   have := ih (fun x hx => hd x (by simp [hx])) (a ++ gt d) f (by rw [e2] at hf; simp at hf ⊢; omega)
   simp only
   rw [e2, e3, this]
   simp [cat]
theorem apj {ds : List (List Int)} (hd : ∀ d ∈ ds, d.length ≤ 8192) {p : List Int} (hp : afi p) : ru (cat ds ++ p) = (ds, (cat ds).length) := by
 have := azd hd hp [] ((cat ds ++ p).length + 1) (by simp)
 simpa [ru] using this
set_option maxRecDepth 100000
open Go.Eng
def nc (p : Nat) : List Value := [.pointer (some ⟨p, 0, none⟩)]
theorem vv (p : Nat) : (nc p).length = 1 := rfl
theorem azz (p : Nat) : ∀ u ∈ nc p, jf u = true := fun u hu => by simp [nc] at hu; subst hu; rfl
open Go.Eng Go.Proofs.YtfnhoaemapheoaaGreat.Sint
structure Prt where
 no : Int
 first : Int
 ft : List (List Int)
 size : Int
structure Lg where
 gg : Int
 fl : List Prt
def qu (q : Prt) (v : Value) : Array Value := #[.int .i64 q.no, .int .i64 q.first, v, .int .i64 q.size]
def azi (p : Nat) (v : Value) (q : Prt) : List Asn := [fq p (qu q v) T.af, jk v q.ft]
def ln (p : Nat) (q : Prt) : Asn where
 ok w B := ∃ v, Rs (azi p v q) w B
 ip := by
  rintro w w' B S ⟨v, h⟩ hf hn
  exact ⟨v, h.ip hf hn⟩
def iz (p : Nat) : Value := .pointer (some ⟨p, 0, none⟩)
def mi (hb : Nat) (gg : Int) (v : Value) : Array Value := #[.pointer (some ⟨hb, 0, none⟩), .int .i64 gg, v]
def axp (p hb : Nat) (v : Value) (ps : List Nat) (L : Lg) : List Asn := [fq p (mi hb L.gg v) T.ac, Eng.je T.ab 1 nc v ps, rg ln ps L.fl]
def kr (p hb : Nat) (L : Lg) : Asn where
 ok w B := ∃ v ps, ps.length = L.fl.length ∧ Rs (axp p hb v ps L) w B
 ip := by
  rintro w w' B S ⟨v, ps, h1, h2⟩ hf hn
  exact ⟨v, ps, h1, h2.ip hf hn⟩
def Lg.next (L : Lg) : Int := match L.fl.getLast? with
 | none => 0
 | some q => IntKind.i64.wrap (q.first + q.ft.length)
section
variable {w0 w : World} {R : List Asn} {p hb : Nat} {v : Value} {ps : List Nat} {L : Lg} {q : Prt}
theorem xo (S : St w0 w (ln p q :: R)) : ∃ v, St w0 w (fq p (qu q v) T.af :: jk v q.ft :: R) := by
 obtain ⟨B, ⟨v, h⟩, _, cl⟩ := S.open
 exact ⟨v, cl w (azi p v q) (Fr.refl _ _) (h.mono fun b hb => .inl hb)⟩
theorem ail (S : St w0 w (fq p (qu q v) T.af :: jk v q.ft :: R)) : St w0 w (ln p q :: R) := by
 obtain ⟨U, h1, _, g⟩ := St.zj (L := azi p v q) (R := R) S
 exact g w [ln p q] (Fr.refl _ _) ⟨U, ⟨v, h1⟩, fun b hb => .inl hb, trivial⟩
theorem amp (S : St w0 w (kr p hb L :: R)) : ∃ v ps, ps.length = L.fl.length ∧ St w0 w (fq p (mi hb L.gg v) T.ac :: Eng.je T.ab 1 nc v ps :: rg ln ps L.fl :: R) := by
 obtain ⟨B, ⟨v, ps, h1, h2⟩, _, cl⟩ := S.open
 exact ⟨v, ps, h1, cl w (axp p hb v ps L) (Fr.refl _ _) (h2.mono fun b hb => .inl hb)⟩
theorem ye (h : ps.length = L.fl.length) (S : St w0 w (fq p (mi hb L.gg v) T.ac :: Eng.je T.ab 1 nc v ps :: rg ln ps L.fl :: R)) : St w0 w (kr p hb L :: R) := by
 obtain ⟨U, h1, _, g⟩ := St.zj (L := axp p hb v ps L) (R := R) S
 exact g w [kr p hb L] (Fr.refl _ _) ⟨U, ⟨v, ps, h, h1⟩, fun b hb => .inl hb, trivial⟩
theorem nh {gg : Int} (h : w.heap[p]? = some (.cells (mi hb gg v) T.ac (0, 0))) : fi w p 0 = some (.pointer (some ⟨hb, 0, none⟩)) ∧ fi w p 1 = some (.int .i64 gg) ∧ fi w p 2 = some v ∧ ∀ i, mq w p i = false :=
 ⟨by rw [fm h]; rfl, by rw [fm h]; rfl, by rw [fm h]; rfl, kj h⟩
theorem jw (h : w.heap[p]? = some (.cells (qu q v) T.af (0, 0))) : fi w p 0 = some (.int .i64 q.no) ∧ fi w p 1 = some (.int .i64 q.first) ∧ fi w p 2 = some v ∧ fi w p 3 = some (.int .i64 q.size) ∧ ∀ i, mq w p i = false :=
 ⟨by rw [fm h]; rfl, by rw [fm h]; rfl, by rw [fm h]; rfl, by rw [fm h]; rfl, kj h⟩
theorem anv (S : St w0 w (Eng.je T.ab 1 nc v ps :: R)) {j : Nat} (hj : j < ps.length) : ∃ b o, (∀ w' K, iaT P T.u v (.int .i64 (j : Nat)) w' K = K (.pointer (some ⟨b, o, none⟩)) w') ∧ ∀ {w1 : World} {R1 : List Asn}, St w0 w1 (Eng.je T.ab 1 nc v ps :: R1) → fi w1 b o = some (iz ps[j]) := by
 obtain ⟨b, o, cap, hv, _, _, hc⟩ := (S.je vv : Sl w 1 nc v ps).at hj
 refine ⟨b, o + j, fun w' K => by rw [hv]; simp [hj], fun {w1 R1} S1 => ?_⟩
 obtain ⟨b', o', cap', hv', _, _, hc'⟩ := (S1.je vv : Sl w1 1 nc v ps).at hj
 have hx := hv.symm.trans hv'
 cases hx
 have c0 := hc' 0 _ rfl
 simp only [Nat.mul_one, Nat.add_zero] at c0
 exact c0
theorem abe (S : St w0 w (Eng.je T.ab 1 nc v ps :: R)) (w' : World) (K : KV) : biT P .len #[T.u] T.b [false] [v] w' K = K (.int .i64 ps.length) w' := by rw [(S.je vv : Sl w 1 nc v ps).ii (by kernel_rfl)]
theorem aar (hl : ps.length = L.fl.length) (S : St w0 w (fq p (mi hb L.gg v) T.ac :: Eng.je T.ab 1 nc v ps :: R)) (hfew : ps.length ≤ 1000000) {K : KV} (h0 : ps = [] → K (.pointer none) w) (h1 : ∀ (hp : 0 < ps.length) w', Fr (fun _ => False) w w' → K (iz (ps[ps.length - 1]'(by omega))) w') : ey P F.bl [iz p] w K := by
 rw [M.cr.fcall]
 apply M.cr.calls
 unfold M.cr iz
 obtain ⟨c0, c1, c2, _⟩ := nh S.blk
 have hlen := fun w' K => abe S.swap w' K
 by_cases hz : ps.length = 0
 ·simp [c2, hlen, hz]
  exact h0 (List.length_eq_zero_iff.1 hz)
 ·have hp : 0 < ps.length := by omega
  have hz' : ¬ ps = [] := fun h => hz (by rw [h]; rfl)
  obtain ⟨b, o, hia, hc⟩ := anv S.swap (j := ps.length - 1) (by omega)
  have cc : fi w b o = some (iz (ps[ps.length - 1]'(by omega))) := hc S.swap
  have hw : IntKind.i64.wrap ((ps.length : Int) - 1) = ((ps.length - 1 : Nat) : Int) := by rw [fj (by omega) (by omega)]; omega
  simp [c2, hlen, hz']
  unfold M.cr.j0
  simp [c2, hlen, hw, hia, cc]
  exact h1 hp _ ((Fr.refl _ w).dr 1)
theorem abx {qs : List Prt} (h : 0 < qs.length) : qs.getLast? = some (qs[qs.length - 1]'(by omega)) := by
 rw [List.getLast?_eq_getElem?, List.getElem?_eq_getElem (by omega)]
theorem anz (hl : ps.length = L.fl.length) (S : St w0 w (fq p (mi hb L.gg v) T.ac :: Eng.je T.ab 1 nc v ps :: rg ln ps L.fl :: R)) (hfew : ps.length ≤ 1000000) {K : KV} (h : ∀ w', Fr (fun _ => False) w w' → K (.int .i64 L.next) w') : ey P F.cv [iz p] w K := by
 rw [M.cq.fcall]
 apply M.cq.calls
 unfold M.cq
 refine aar hl S hfew (fun hz => ?_) fun hp w1 f1 => ?_
 ·have : L.fl = [] := List.length_eq_zero_iff.1 (by rw [← hl, hz]; rfl)
  have hn : L.next = 0 := by unfold Lg.next; rw [this]; rfl
  rw [hn] at h
  simp
  exact h w (Fr.refl _ _)
 ·have hj : ps.length - 1 < L.fl.length := by omega
  have S1 := S.iq f1
  obtain ⟨v', S2⟩ := xo (aat hl hj S1.up2)
  obtain ⟨_, d1, d2, _, _⟩ := jw S2.blk
  have hn : L.next = IntKind.i64.wrap ((L.fl[ps.length - 1]).first + (L.fl[ps.length - 1]).ft.length) := by
   unfold Lg.next
   rw [abx (by omega)]
   simp only [hl]
  rw [hn] at h
  generalize L.fl[ps.length - 1] = q at *
  have hlen := fun w' K => aai S2.swap w' K
  simp only [iz]
  simp
  unfold M.cq.j0
  simp [d1, d2, hlen]
  exact h _ (f1.dr 1)
def Lg.lf (L : Lg) (D : Dk) : Dk × Int := if D.gh then (D, 10) else match L.fl.getLast? with
 | none => (D, 0)
 | some q => D.lf q.no
theorem aot {D : Dk} (S : St w0 w (kr p hb L :: fy hb D :: R)) (hfew : L.fl.length ≤ 1000000) {K : KV} (h : ∀ w', St w0 w' (kr p hb L :: fy hb (L.lf D).1 :: R) → K (.int .i64 (L.lf D).2) w') : ey P F.cu [iz p] w K := by
 obtain ⟨v, ps, hl, S1⟩ := amp S
 rw [M.cp.fcall]
 apply M.cp.calls
 unfold M.cp
 obtain ⟨c0, c1, c2, _⟩ := nh S1.blk
 simp only [iz]
 simp [c0]
 refine ako S1.up3 ?_
 unfold Lg.lf at h
 cases hd : D.gh with
 | true =>
  rw [hd] at h
  simp
  exact h w S
 | false =>
  rw [hd] at h
  simp only [Bool.false_eq_true, if_false] at h
  simp
  refine aar hl S1 (by omega) (fun hz => ?_) fun hp w1 f1 => ?_
  ·have : L.fl = [] := List.length_eq_zero_iff.1 (by rw [← hl, hz]; rfl)
   rw [this] at h
   simp
   exact h w S
  ·simp only [iz]
   simp
   unfold M.cp.j0
   have S2 := S1.iq f1
   obtain ⟨e0, _, _, _⟩ := nh S2.blk
   have S3 := S2.iq ((Fr.refl _ w1).dr 1)
   simp [e0]
   refine aar hl S3 (by omega) (fun hz => by rw [hz] at hp; simp at hp) fun hp w2 f2 => ?_
   have S4 := S3.iq f2
   obtain ⟨g0, _, _, _⟩ := nh S4.blk
   have hj : ps.length - 1 < L.fl.length := by omega
   obtain ⟨v', S5⟩ := xo (aat hl hj S4.up2)
   obtain ⟨d0, _, _, _, _⟩ := jw S5.blk
   have hgl : L.fl.getLast? = some (L.fl[ps.length - 1]) := by rw [abx (by omega)]; simp only [hl]
   rw [hgl] at h
   simp only at h
   simp [iz, g0, d0]
   refine asa S4.up3 _ fun w3 S6 => ?_
   exact h w3 (ye hl S6.dn3)
end
set_option maxRecDepth 100000
open Go.Eng Go.Proofs.YtfnhoaemapheoaaGreat.Sint
def Lg.all (L : Lg) : List (List Int) := L.fl.flatMap Prt.ft
section
variable {w0 w : World} {R : List Asn} {p hb : Nat} {v : Value} {ps : List Nat} {L : Lg} {q : Prt}
theorem aiu {l : List Int} (S : St w0 w (jd v l :: R)) : ∃ s : SV, v = s.v := by
 obtain ⟨a, c, hv, _⟩ : SlB w v l := S.row il
 exact ⟨⟨a, l.length, c⟩, hv⟩
def RiI (w0 : World) (rv : Value) (acc ls : List (List Int)) (R : List Asn) : KL := fun x w1 => ∃ (u0 av : Value) (j : Nat), x = [u0, av, .int .i64 (j : Nat)] ∧ j ≤ ls.length ∧ St w0 w1 (jk av (acc ++ ls.take j) :: jk rv ls :: R)
def RoI (w0 : World) (p hb : Nat) (L : Lg) (v : Value) (ps : List Nat) (R : List Asn) : KL := fun x w1 => ∃ (u0 u1 u2 u3 u4 av : Value) (i : Nat), x = [u0, u1, u2, u3, u4, av, .int .i64 (i : Nat)] ∧ i ≤ L.fl.length ∧
 St w0 w1 (jk av ((L.fl.take i).flatMap Prt.ft) :: fq p (mi hb L.gg v) T.ac :: Eng.je T.ab 1 nc v ps :: rg ln ps L.fl :: R)
theorem bcr {qs : List Prt} {i : Nat} (hi : i < qs.length) (j : Nat) : ((qs.take i).flatMap Prt.ft ++ (qs[i].ft).take j).length ≤ (qs.flatMap Prt.ft).length := by
 have e : qs.flatMap Prt.ft = (qs.take i).flatMap Prt.ft ++ (qs[i].ft ++ (qs.drop (i + 1)).flatMap Prt.ft) := by
  conv => lhs; rw [← List.take_append_drop i qs, List.drop_eq_getElem_cons hi]
  rw [List.flatMap_append, List.flatMap_cons]
 rw [e]
 simp only [List.length_append, List.length_take]
 omega
theorem bbu (S : St w0 w (kr p hb L :: R)) (hfew : L.fl.length ≤ 1000000) (hall : L.all.length ≤ 1000000) (hrec : ∀ q ∈ L.fl, ∀ d ∈ q.ft, d.length ≤ 100000000) {K : KV} (h : ∀ w' v', St w0 w' (jk v' L.all :: kr p hb L :: R) → K v' w') : ey P F.cc [iz p] w K := by
 obtain ⟨v, ps, hl, S1⟩ := amp S
 rw [M.ar.fcall]
 apply M.ar.calls
 unfold M.ar iz
 obtain ⟨c0, c1, c2, _⟩ := nh S1.blk
 have hlen := fun w' K => abe S1.swap w' K
 simp
 unfold M.ar.j0
 simp [c2, hlen]
 have S2 := arn S1
 refine ⟨RoI w0 p hb L v ps R, fun x _ => L.fl.length - ms x 6, ⟨_, _, _, _, _, _, 0, rfl, Nat.zero_le _, S2⟩, ?_⟩
 rintro x w1 ⟨u0, u1, u2, u3, u4, av, i, rfl, hi, S3⟩
 by_cases hlt : i < L.fl.length
 ·have hltp : i < ps.length := by omega
  have hlti : (i : Int) < (ps.length : Int) := by omega
  obtain ⟨b, o, hia, hc⟩ := anv S3.up2 (j := i) hltp
  have cc : fi w1 b o = some (iz ps[i]) := hc S3.up2
  simp [hlti]
  unfold M.ar.j3
  obtain ⟨rv, S4⟩ := xo (aat hl hlt S3.up3)
  obtain ⟨_, _, d2, _, _⟩ := jw S4.blk
  have hq2 := hrec _ (List.getElem_mem hlt : L.fl[i] ∈ L.fl)
  have hrl : ∀ j, ((L.fl.take i).flatMap Prt.ft ++ (L.fl[i].ft).take j).length ≤ 1000000 := fun j => Nat.le_trans (bcr hlt j) hall
  have hnext : (L.fl.take i).flatMap Prt.ft ++ L.fl[i].ft = (L.fl.take (i + 1)).flatMap Prt.ft := by rw [List.take_succ_eq_append_getElem hlt, List.flatMap_append]; simp
  have S5 : St w0 w1 (jk av ((L.fl.take i).flatMap Prt.ft) :: jk rv L.fl[i].ft :: fq ps[i] (qu L.fl[i] rv) T.af :: ahy ln ps L.fl i :: fq p (mi hb L.gg v) T.ac :: Eng.je T.ab 1 nc v ps :: R) := S4.up3.perm (.cons _ (.swap _ _ _))
  have hback : ∀ {w2 : World} {av' : Value} {A : List (List Int)}, St w0 w2 (jk av' A :: jk rv L.fl[i].ft :: fq ps[i] (qu L.fl[i] rv) T.af :: ahy ln ps L.fl i :: fq p (mi hb L.gg v) T.ac :: Eng.je T.ab 1 nc v ps :: R) → St w0 w2 (jk av' A :: fq p (mi hb L.gg v) T.ac :: Eng.je T.ab 1 nc v ps :: rg ln ps L.fl :: R) := fun T => (azp hl hlt (ail (St.dn3 (T.perm (.cons _ (.swap _ _ _)))))).dn3
  generalize (L.fl.take i).flatMap Prt.ft = A at *
  generalize hrs : L.fl[i].ft = rs at *
  generalize fq ps[i] (qu L.fl[i] rv) T.af :: ahy ln ps L.fl i :: fq p (mi hb L.gg v) T.ac :: Eng.je T.ab 1 nc v ps :: R = R' at S5 hback
  have hlen2 := fun w' K => aai S5.swap w' K
  simp only [iz] at cc d2
  simp [iz, hia, cc, d2, hlen2]
  have h0 : RiI w0 rv A rs R' [gv [u0, u1, u2, u3, u4, av, .int .i64 (i : Nat)] 4, gv [u0, u1, u2, u3, u4, av, .int .i64 (i : Nat)] 5, .int .i64 ((0 : Nat) : Int)] w1 := ⟨_, _, 0, rfl, Nat.zero_le _, by rw [List.take_zero, List.append_nil]; exact S5⟩
  refine ⟨RiI w0 rv A rs R', fun x _ => rs.length - ms x 2, h0, ?_⟩
  rintro x w2 ⟨t0, bv, j, rfl, hj, S6⟩
  by_cases hltj : j < rs.length
  ·have hltji : (j : Int) < (rs.length : Int) := by omega
   obtain ⟨b2, o2, s, hia2, _, hc2, hs2⟩ := acz S6.swap hltj
   simp [hltji]
   unfold M.ar.j6
   simp only [SV.v] at hc2
   simp [hia2, hc2]
   refine yp S6 hs2 (hq2 _ (List.getElem_mem hltj)) fun w3 v3 S7 => ?_
   obtain ⟨s3, rfl⟩ := aiu S7
   refine agf S7 (Nat.le_trans (by simp) (hrl j)) fun w4 v4 S8 => ?_
   rw [List.append_assoc, ← List.take_succ_eq_append_getElem hltj] at S8
   have hw : IntKind.i64.wrap ((j : Int) + 1) = ((j + 1 : Nat) : Int) := by have := hrl rs.length; simp at this; rw [fj (by omega) (by omega)]; omega
   try simp
   rw [hw]
   refine ⟨⟨_, _, j + 1, rfl, hltj, S8⟩, ?_⟩
   simp [ms, gv]; omega
  ·have hge : ¬ (j : Int) < (rs.length : Int) := by omega
   simp [hge]
   have hw : IntKind.i64.wrap ((i : Int) + 1) = ((i + 1 : Nat) : Int) := by rw [fj (by omega) (by omega)]; omega
   rw [hw]
   rw [List.take_of_length_le (by omega), hnext] at S6
   refine ⟨⟨_, _, _, _, _, _, i + 1, rfl, hlt, hback S6⟩, ?_⟩
   simp [ms, gv]; omega
 ·have hge : ¬ (i : Int) < (ps.length : Int) := by omega
  simp [hge]
  have he : (L.fl.take i).flatMap Prt.ft = L.all := by rw [List.take_of_length_le (by omega)]; rfl
  rw [he] at S3
  exact h w1 av (ye hl S3.dn3).swap
end
set_option maxRecDepth 100000
open Go.Eng Go.Proofs.YtfnhoaemapheoaaGreat.Sint
section
variable {w0 w : World} {R : List Asn} {p hb : Nat} {v : Value} {ps : List Nat} {L : Lg} {q : Prt} {D : Dk}
theorem ada {cs cs' : Array Value} {e : TypeId} {b i : Nat} {u : Value} (S : St w0 w (fq b cs e :: R)) (hc : cs.setIfInBounds i u = cs') : St w0 (w.setCell ⟨b, i, none⟩ u) (fq b cs' e :: R) :=
 S.kh ((Fr.refl (fun x => x = b) w).setCell (.inl rfl) _ _) ((jv S.blk).trans (by rw [hc]))
end
set_option maxRecDepth 100000
open Go.Eng Go.Proofs.YtfnhoaemapheoaaGreat.Sint
def kw (n : Int) : List Int := gt (kb (IntKind.u64.wrap n))
theorem afp (n : Int) : (kw n).length = 16 := by unfold kw; rw [lb, ph]
def Lg.yk (L : Lg) (D : Dk) (rec : List Int) (no : Int) : (Lg × Dk) × Int :=
 if (D.append no (kw L.next ++ gt rec)).2 = 0 then (({ L with fl := L.fl ++ [⟨no, L.next, [rec], (kw L.next ++ gt rec).length⟩] }, (D.append no (kw L.next ++ gt rec)).1), 0)
 else ((L, (D.append no (kw L.next ++ gt rec)).1), (D.append no (kw L.next ++ gt rec)).2)
def Lg.yc (L : Lg) (D : Dk) (rec : List Int) : (Lg × Dk) × Int := match L.fl.getLast? with
 | none => L.yk D rec 0
 | some q => if 63 ≤ L.fl.length then ((L, D), 9) else if (D.lf q.no).2 = 0 then L.yk (D.lf q.no).1 rec ((q.no + 1) % 64) else ((L, (D.lf q.no).1), (D.lf q.no).2)
def Prt.qh (q : Prt) (rec : List Int) : Prt := { q with ft := q.ft ++ [rec], size := q.size + (gt rec).length }
def Lg.append (L : Lg) (D : Dk) (rec : List Int) : (Lg × Dk) × Int :=
 if 8192 < rec.length then ((L, D), 4) else match L.fl.getLast? with
 | none => L.yc D rec
 | some q => if L.gg ≤ q.size then L.yc D rec else if (D.append q.no (gt rec)).2 = 0 then (({ L with fl := L.fl.set (L.fl.length - 1) (q.qh rec) }, (D.append q.no (gt rec)).1), 0)
  else ((L, (D.append q.no (gt rec)).1), (D.append q.no (gt rec)).2)
structure LgB (L : Lg) : Prop where
 few : L.fl.length ≤ 64
 rng : ∀ q ∈ L.fl, 0 ≤ q.no ∧ q.no < 64
 ft : ∀ q ∈ L.fl, q.ft.length ≤ 1000000
 size : ∀ q ∈ L.fl, 0 ≤ q.size ∧ q.size ≤ 10000000
section
variable {w0 w : World} {R : List Asn} {p hb np : Nat} {v lv fv : Value} {ps : List Nat} {L : Lg} {q : Prt} {D : Dk} {rec : List Int} {no : Int}
theorem up5 {a b c d e f : Asn} (h : St w0 w (a :: b :: c :: d :: e :: f :: R)) : St w0 w (f :: a :: b :: c :: d :: e :: R) := h.perm (List.perm_middle (l₁ := [a, b, c, d, e]))
theorem dn5 {a b c d e f : Asn} (h : St w0 w (f :: a :: b :: c :: d :: e :: R)) : St w0 w (a :: b :: c :: d :: e :: f :: R) := h.perm (List.perm_middle (l₁ := [a, b, c, d, e])).symm
theorem up6 {a b c d e f g : Asn} (h : St w0 w (a :: b :: c :: d :: e :: f :: g :: R)) : St w0 w (g :: a :: b :: c :: d :: e :: f :: R) := h.perm (List.perm_middle (l₁ := [a, b, c, d, e, f]))
theorem dn6 {a b c d e f g : Asn} (h : St w0 w (g :: a :: b :: c :: d :: e :: f :: R)) : St w0 w (a :: b :: c :: d :: e :: f :: g :: R) := h.perm (List.perm_middle (l₁ := [a, b, c, d, e, f])).symm
theorem acr (S : St w0 w R) (cs : Array Value) (e : TypeId) : St w0 (w.alloc (.cells cs e)) (fq w.heap.size cs e :: R) := S.add ((Fr.refl _ w).alloc _) (B := fun x => x = w.heap.size) ⟨by rw [fx, if_pos rfl], rfl⟩ fun x hx => by subst hx; rw [ig]; omega
theorem aoi {s : SV} {d : List Int} (S : St w0 w (jd s.v d :: R)) {K : KV} (h : ∀ w' s', St w0 w' (jk (SV.v s') [d] :: R) → K s'.v w') : bsT P T.i 1 #[(0, s.v)] w K := by
 have hbs : ∀ K', bsT P T.i 1 #[(0, s.v)] w K' = K' (.slice (some ⟨w.heap.size, 0, none⟩) 1 1) (w.alloc (.cells #[s.v] T.d)) := fun K' => by unfold SV.v; simp
 rw [hbs]
 have S2 : St w0 (w.alloc (.cells #[s.v] T.d)) (pp T.d 1 lz (.slice (some ⟨w.heap.size, 0, none⟩) 1 1) [s] :: jd s.v d :: R) := St.ti (l := [s]) S qv rfl (by unfold maxLen; simp)
 have T1 : St w0 (w.alloc (.cells #[s.v] T.d)) (nv (lw [s] [d]) :: Eng.je T.d 1 lz (.slice (some ⟨w.heap.size, 0, none⟩) 1 1) [s] :: R) := St.all.2 S2.off.swap
 exact h _ ⟨some ⟨w.heap.size, 0, none⟩, 1, 1⟩ (aje (vs := [s]) rfl T1.swap)
theorem arz {ls : List (List Int)} (S : St w0 w (jk lv ls :: R)) : ∃ s : SV, lv = s.v := by
 obtain ⟨a, c, hv⟩ := avr S
 exact ⟨⟨a, _, c⟩, hv⟩
theorem xr {l : List Int} (S : St w0 w (jd v l :: R)) (w' : World) (K : KV) : biT P .len #[T.d] T.b [false] [v] w' K = K (.int .i64 l.length) w' := (S.row il : SlB w v l).ii (by kernel_rfl) [false]
def bgL (np p hb : Nat) (lv : Value) (no : Int) (rec : List Int) (v : Value) (ps : List Nat) (L : Lg) (D : Dk) (R : List Asn) : List Asn :=
 fq np (qu ⟨no, L.next, [rec], 0⟩ lv) T.af :: jk lv [rec] :: fq p (mi hb L.gg v) T.ac :: Eng.je T.ab 1 nc v ps :: rg ln ps L.fl :: fy hb D :: R
theorem alo (hl : ps.length = L.fl.length) (hb64 : L.fl.length ≤ 1000000) (S : St w0 w (ln np q :: fq p (mi hb L.gg v) T.ac :: Eng.je T.ab 1 nc v ps :: rg ln ps L.fl :: R)) {Q : World → Prop} (h : ∀ w', St w0 w' (kr p hb { L with fl := L.fl ++ [q] } :: R) → Q w') :
  ld1 P p 2 w fun t87 w => biT P .append #[T.u, T.u] T.u [false, false] [t87, .slice (some ⟨w.heap.size, 0, none⟩) 1 1] (w.alloc (.cells #[.pointer (some ⟨np, 0, none⟩)] T.ab)) fun t90 w => stT P T.u (.pointer (some ⟨p, 2, none⟩)) t90 w fun _ w => Q w := by
 obtain ⟨_, _, c2, _⟩ := nh S.swap.blk
 have S1 := (ayd hl S.up3.swap).up2
 simp [c2]
 have S2 : St w0 (w.alloc (.cells #[.pointer (some ⟨np, 0, none⟩)] T.ab)) (pp T.ab 1 nc (.slice (some ⟨w.heap.size, 0, none⟩) 1 1) [np] :: _) := St.ti (l := [np]) S1 vv rfl (by unfold maxLen; simp)
 refine aou et.u vv azz S2.swap (S2.row vv) (by simp; omega) (by decide) fun w2 v2 S3 => ?_
 have S4 := S3.swap.drop
 obtain ⟨a', cap', hv', _⟩ := (S4.je vv : Sl w2 1 nc v2 (ps ++ [np]))
 generalize hln : (ps ++ [np]).length = n1 at hv'
 subst hv'
 obtain ⟨_, _, g2, gz⟩ := nh S4.up2.blk
 simp [gz, g2]
 have S5 := ada (cs' := mi hb L.gg (.slice a' n1 cap')) (i := 2) (u := .slice a' n1 cap') S4.up2 rfl
 exact h _ (ye (L := { L with fl := L.fl ++ [q] }) (by simp [hl]) S5)
theorem alw (S : St w0 w (bgL np p hb lv no rec v ps L D R)) (hl : ps.length = L.fl.length) (hb64 : L.fl.length ≤ 1000000) (hrec : rec.length ≤ 8192) (hfs : ∀ w' L', St w0 w' (L' ++ R) → SlB w' fv (gt rec)) {x0 : List Value} {K : KV}
  (h : ∀ w', St w0 w' (kr p hb (L.yk D rec no).1.1 :: fy hb (L.yk D rec no).1.2 :: R) → K (.int .i64 (L.yk D rec no).2) w') : M.ap.j0 (iz np) fv (iz p) x0 w K := by
 unfold bgL at S
 unfold M.ap.j0
 obtain ⟨d0, d1, d2, d3, dz⟩ := jw S.blk
 simp only [iz]
 simp [d1]
 refine anw (oc S) (by simp) _ fun w1 v1 S1 => ?_
 refine asi S1 (v0 := .slice none 0 0) (l0 := []) (fun _ _ _ => Sl.nil) (fun w' L' S' => (S'.perm List.perm_middle).row il) (by simp) (by simp [ph]) fun w2 v2 S2 => ?_
 have e : (if 8192 < ([] ++ kb (IntKind.u64.wrap L.next)).length then [] else [] ++ gt ([] ++ kb (IntKind.u64.wrap L.next))) = kw L.next := by
  rw [List.nil_append, List.nil_append, ph, if_neg (by decide)]; rfl
 rw [e] at S2
 simp
 have hF : SlB w2 fv (gt rec) := hfs w2 (jd v2 (kw L.next) :: jd v1 ([] ++ kb (IntKind.u64.wrap L.next)) :: [_, _, _, _, _, _]) S2
 refine apw S2 (S2.row il) hF (by rw [afp, lb]; omega) fun w3 v3 S3 => ?_
 have S4 := S3.swap.drop.swap.drop
 unfold Lg.yk at h
 have hcl : (kw L.next ++ gt rec).length ≤ 1000000 := by rw [List.length_append, afp, lb]; omega
 generalize kw L.next ++ gt rec = ct at *
 obtain ⟨c0, c1, c2, cz⟩ := nh S4.up3.blk
 obtain ⟨d0, d1, d2, d3, dz⟩ := jw S4.swap.blk
 simp [c0, d0]
 refine alt (up6 (S4.iq ((Fr.refl _ w3).dr 1))) no (l := ct) (fun w' L' S' => (S'.perm List.perm_middle).row il) (by omega) fun w4 S5 => ?_
 have S6 := dn6 S5
 by_cases hk : (D.append no ct).2 = 0
 ·rw [if_pos hk] at h
  rw [hk]
  simp
  unfold M.ap.j3
  have hlen := fun w' K => xr S6 w' K
  obtain ⟨e0, e1, e2, e3, ez⟩ := jw S6.swap.blk
  simp [hlen, ez, e3]
  have S7 := (ada (cs' := qu ⟨no, L.next, [rec], ct.length⟩ lv) (i := 3) (u := .int .i64 ct.length) S6.swap rfl).swap.drop
  exact alo hl hb64 (ail S7) h
 ·rw [if_neg hk] at h
  simp [hk]
  exact h w4 (ye hl S6.drop.drop.drop)
end
set_option maxRecDepth 100000
open Go.Eng Go.Proofs.YtfnhoaemapheoaaGreat.Sint
section
variable {w0 w : World} {R : List Asn} {p hb np : Nat} {v lv fv av : Value} {ps : List Nat} {L : Lg} {q : Prt} {D : Dk} {rec : List Int} {no : Int}
theorem avn (hl : ps.length = L.fl.length) (hp : 0 < ps.length) : L.fl.getLast? = some (L.fl[ps.length - 1]'(by omega)) := by rw [abx (by omega)]; simp only [hl]
theorem aph (S : St w0 w (fq p (mi hb L.gg v) T.ac :: Eng.je T.ab 1 nc v ps :: rg ln ps L.fl :: fy hb D :: R)) (hl : ps.length = L.fl.length) (hB : LgB L) (hrec : rec.length ≤ 8192) (hbs : ∀ w' L', St w0 w' (L' ++ R) → SlB w' av rec) (hfs : ∀ w' L', St w0 w' (L' ++ R) → SlB w' fv (gt rec)) {K : KV}
  (h : ∀ w', St w0 w' (kr p hb (L.yc D rec).1.1 :: fy hb (L.yc D rec).1.2 :: R) → K (.int .i64 (L.yc D rec).2) w') : ey P F.dh [iz p, av, fv] w K := by
 rw [M.ap.fcall]
 apply M.ap.calls
 unfold M.ap
 have hfew := hB.few
 refine anz hl S (by omega) fun w1 f1 => ?_
 have S1 := S.iq f1
 refine yp S1 (hbs w1 [_, _, _, _] S1) (by omega) fun w2 v2 S2 => ?_
 obtain ⟨s, rfl⟩ := aiu S2
 refine aoi S2 fun w3 s3 S3 => ?_
 simp only [SV.v]
 simp
 have S4 : St w0 _ (bgL w3.heap.size p hb s3.v 0 rec v ps L D R) := acr S3 (qu ⟨0, L.next, [rec], 0⟩ s3.v) T.af
 generalize hnp : w3.heap.size = np at *
 simp only [qu, SV.v] at S4
 generalize w3.alloc (.cells #[.int .i64 0, .int .i64 L.next, .slice s3.a s3.n s3.c, .int .i64 0] T.af) = w4 at *
 have S5 : St w0 w4 (fq p (mi hb L.gg v) T.ac :: Eng.je T.ab 1 nc v ps :: fq np (qu ⟨0, L.next, [rec], 0⟩ s3.v) T.af :: jk s3.v [rec] :: rg ln ps L.fl :: fy hb D :: R) := St.up3 (St.up3 S4)
 refine aar hl S5 (by omega) (fun hz => ?_) fun hp w5 f5 => ?_
 ·simp
  have : L.fl = [] := List.length_eq_zero_iff.1 (by rw [← hl, hz]; rfl)
  unfold Lg.yc at h
  rw [this] at h
  exact alw S4 hl (by omega) hrec hfs h
 ·simp only [iz]
  simp
  have S6 := S5.iq f5
  obtain ⟨c0, c1, c2, cz⟩ := nh S6.blk
  have hlen := fun w' K => abe S6.swap w' K
  have hgl := avn hl hp
  have hj : ps.length - 1 < L.fl.length := by omega
  have hqr := hB.rng _ (List.getElem_mem hj)
  unfold Lg.yc at h
  rw [hgl] at h
  simp only at h
  simp [c2, hlen]
  by_cases h63 : 63 ≤ L.fl.length
  ·have h63i : (63 : Int) ≤ (ps.length : Int) := by omega
   rw [if_pos h63] at h
   simp [h63i]
   exact h w5 (ye hl S6.up2.drop.up2.drop)
  ·have h63i : ¬ (63 : Int) ≤ (ps.length : Int) := by omega
   rw [if_neg h63] at h
   simp [h63i]
   unfold M.ap.j1
   obtain ⟨rv, T1⟩ := xo (aat hl hj S6.up4)
   obtain ⟨d0, _⟩ := jw T1.blk
   simp [c0, d0]
   refine asa (up5 (S6.iq ((Fr.refl _ w5).dr 1))) _ fun w6 S7 => ?_
   have S8 := dn5 S7
   generalize hqq : L.fl[ps.length - 1] = q at *
   by_cases hk : (D.lf q.no).2 = 0
   ·rw [if_pos hk] at h
    rw [hk]
    simp
    unfold M.ap.j2
    obtain ⟨rv2, T2⟩ := xo (aat hl hj S8.up4)
    rw [hqq] at T2
    obtain ⟨e0, _⟩ := jw T2.blk
    obtain ⟨_, _, _, _, nz⟩ := jw S8.up2.blk
    obtain ⟨n0, _⟩ := jw S8.up2.blk
    have hw : IntKind.i64.wrap (q.no + 1) = q.no + 1 := fj (by omega) (by omega)
    simp [e0, hw, aru, nz, n0]
    have S9 := ada (cs' := qu ⟨(q.no + 1) % 64, L.next, [rec], 0⟩ s3.v) (i := 0) (u := .int .i64 ((q.no + 1) % 64)) S8.up2 rfl
    have et : (q.no + 1).tmod 64 = (q.no + 1) % 64 := by rw [Int.tmod_eq_emod_of_nonneg (by omega)]
    rw [et]
    exact alw (St.swap S9.up3) hl (by omega) hrec hfs h
   ·rw [if_neg hk] at h
    simp [hk]
    exact h w6 (ye hl S8.up2.drop.up2.drop)
theorem ass {s : SV} {d : List Int} {ls : List (List Int)} (S : St w0 w (jd s.v d :: jk v ls :: R)) (hl : ls.length ≤ 1000000) {cs : List Bool} {ty : TypeId} {K : KV} (h : ∀ w' v', St w0 w' (jk v' (ls ++ [d]) :: R) → K v' w') :
  biT P .append #[T.i, T.i] ty cs [v, .slice (some ⟨w.heap.size, 0, none⟩) 1 1] (w.alloc (.cells #[s.v] T.d)) K := by
 have hbs : ∀ K', bsT P T.i 1 #[(0, s.v)] w K' = K' (.slice (some ⟨w.heap.size, 0, none⟩) 1 1) (w.alloc (.cells #[s.v] T.d)) := fun K' => by unfold SV.v; simp
 have := agf S hl (cs := cs) (ty := ty) h
 rwa [hbs] at this
theorem auf (S : St w0 w (kr p hb L :: fy hb D :: R)) (hB : LgB L) (hrl : rec.length ≤ 1000000) (hbs : ∀ w' L', St w0 w' (L' ++ R) → SlB w' av rec) {K : KV}
  (h : ∀ w', St w0 w' (kr p hb (L.append D rec).1.1 :: fy hb (L.append D rec).1.2 :: R) → K (.int .i64 (L.append D rec).2) w') : ey P F.db [iz p, av] w K := by
 obtain ⟨v, ps, hl, S1⟩ := amp S
 rw [M.ao.fcall]
 apply M.ao.calls
 unfold M.ao
 have hfew := hB.few
 simp only [iz]
 simp
 unfold M.ao.j0
 refine asi S1 (v0 := .slice none 0 0) (l0 := []) (fun _ _ _ => Sl.nil) (fun w' L' S' => hbs w' (L' ++ [_, _, _, _]) (by simpa using S')) (by simp) (by omega) fun w2 v2 S2 => ?_
 unfold Lg.append at h
 by_cases hbig : 8192 < rec.length
 ·rw [if_pos hbig] at h
  simp [hbig]
  exact h w2 (ye hl S2.drop)
 ·rw [if_neg hbig, List.nil_append] at S2
  rw [if_neg hbig] at h
  simp [hbig]
  unfold M.ao.j1
  have S3 : St w0 w2 (fq p (mi hb L.gg v) T.ac :: Eng.je T.ab 1 nc v ps :: rg ln ps L.fl :: fy hb D :: jd v2 (gt rec) :: R) := S2.dn4
  have hbs3 : ∀ w' L', St w0 w' (L' ++ jd v2 (gt rec) :: R) → SlB w' av rec := fun w' L' S' => hbs w' (L' ++ [jd v2 (gt rec)]) (by simpa using S')
  have hfs3 : ∀ w' L', St w0 w' (L' ++ jd v2 (gt rec) :: R) → SlB w' v2 (gt rec) := fun w' L' S' => (S'.perm List.perm_middle).row il
  refine aar hl S3 (by omega) (fun hz => ?_) fun hp w3 f3 => ?_
  ·have : L.fl = [] := List.length_eq_zero_iff.1 (by rw [← hl, hz]; rfl)
   rw [this] at h
   simp
   exact aph (S3.iq ((Fr.refl _ w2).dr 1)) hl hB (by omega) hbs3 hfs3 fun w4 S4 => h w4 S4.up2.drop
  ·simp only [iz]
   have S4 := S3.iq f3
   have hgl := avn hl hp
   have hj : ps.length - 1 < L.fl.length := by omega
   have hqs := hB.size _ (List.getElem_mem hj)
   have hqr := hB.ft _ (List.getElem_mem hj)
   rw [hgl] at h
   simp only at h
   obtain ⟨c0, c1, c2, cz⟩ := nh S4.blk
   obtain ⟨rv, T1⟩ := xo (aat hl hj S4.up2)
   obtain ⟨d0, d1, d2, d3, dz⟩ := jw T1.blk
   simp [c1, d3]
   by_cases hm : L.gg ≤ L.fl[ps.length - 1].size
   ·rw [if_pos hm] at h
    simp [hm]
    exact aph (S4.iq ((Fr.refl _ w3).dr 1)) hl hB (by omega) hbs3 hfs3 fun w4 S5 => h w4 S5.up2.drop
   ·rw [if_neg hm] at h
    simp [hm]
    unfold M.ao.j2
    simp [c0, d0]
    refine alt (S4.iq (((Fr.refl _ w3).dr 1).dr 1)).up3 _ (fun w' L' S' => hfs3 w' (L' ++ [_, _, _]) (by simpa using S')) (by rw [lb]; omega) fun w4 S5 => ?_
    have S6 := S5.dn3
    generalize hqq : L.fl[ps.length - 1] = q at *
    by_cases hk : (D.append q.no (gt rec)).2 = 0
    ·rw [if_pos hk] at h
     rw [hk]
     simp
     unfold M.ao.j3
     obtain ⟨rv2, T2⟩ := xo (aat hl hj S6.up2)
     rw [hqq] at T2
     obtain ⟨e0, e1, e2, e3, ez⟩ := jw T2.blk
     have hlen := fun w' K => xr (v := v2) (l := gt rec) (T2.perm (List.perm_middle (l₁ := [_, _, _, _, _, _]))) w' K
     simp [e2, e3, hlen]
     have hbs4 : SlB (dr w4 1) av rec := hbs3 _ (fq ps[ps.length - 1] (qu q rv2) T.af :: jk rv2 q.ft :: ahy ln ps L.fl (ps.length - 1) :: fq p (mi hb L.gg v) T.ac :: Eng.je T.ab 1 nc v ps :: [fy hb (D.append q.no (gt rec)).1]) (T2.iq ((Fr.refl _ w4).dr 1))
     refine yp (T2.iq ((Fr.refl _ w4).dr 1)) hbs4 (by omega) fun w5 v5 T3 => ?_
     obtain ⟨s, rfl⟩ := aiu T3
     obtain ⟨_, _, e2, e3, _⟩ := jw T3.swap.blk
     have T4 := T3.iq ((Fr.refl _ w5).alloc (.cells #[s.v] T.d))
     obtain ⟨_, _, g2, g3, _⟩ := jw T4.swap.blk
     refine ⟨by simp [e3], by simp [e2], ?_⟩
     have hbs5 : ∀ K', bsT P T.i 1 #[(0, s.v)] w5 K' = K' (.slice (some ⟨w5.heap.size, 0, none⟩) 1 1) (w5.alloc (.cells #[s.v] T.d)) := fun K' => by unfold SV.v; simp
     rw [hbs5]
     refine ⟨by simp [g3], by simp [g2], ?_⟩
     refine ass (T3.perm (.cons _ (.swap _ _ _))) (by omega) fun w6 v6 T5 => ?_
     obtain ⟨s6, rfl⟩ := arz T5
     obtain ⟨_, _, m2, m3, mz⟩ := jw T5.swap.blk
     refine ⟨by simp [m3], ?_⟩
     have T6 := ada (cs' := qu { q with ft := q.ft ++ [rec] } s6.v) (i := 2) (u := s6.v) T5.swap rfl
     obtain ⟨_, _, n2, n3, nz⟩ := jw T6.blk
     have T7 := ada (cs' := qu (q.qh rec) s6.v) (i := 3) (u := .int .i64 (q.size + (gt rec).length)) T6 rfl
     have hw : IntKind.i64.wrap (q.size + ((gt rec).length : Int)) = q.size + (gt rec).length := fj (by omega) (by rw [lb]; omega)
     simp only [SV.v] at *
     simp [hw, m2, mz, n3, nz]
     have T8 := ard hl hj (ail (q := q.qh rec) T7)
     have hl' : ps.length = (L.fl.set (ps.length - 1) (q.qh rec)).length := by simpa using hl
     have T9 := ye (L := { L with fl := L.fl.set (ps.length - 1) (q.qh rec) }) hl' T8.dn2
     have hl3 : L.fl.length - 1 = ps.length - 1 := by omega
     rw [hl3] at h
     exact h _ T9.up2.drop
    ·rw [if_neg hk] at h
     simp [hk]
     exact h w4 (ye hl S6).up2.drop
end
end Go.Proofs.YtfnhoaemapheoaaGreat
set_option maxRecDepth 100000
namespace Go.Proofs.YtfnhoaemapheoaaGreat.CI
open Go.Eng Go.Proofs.YtfnhoaemapheoaaGreat.Sint
theorem azl (x : Int) : ∀ u ∈ mj x, jf u = true := fun u hu => by simp at hu; subst hu; rfl
theorem akn {w : World} {n : Nat} (hn : n ≤ 1000000000) {K : KV} (h : ∀ w' v, Ow w' w.heap.size T.b 1 mj v [] → Fr (fun _ => False) w w' → K v w') :
  ij P F.cd [.slice none 0 0, .int .i64 n] w K := by
 apply M.bj.calls
 unfold M.bj
 have hneg : ¬ (n : Int) < 0 := by omega
 simp [hneg]
 unfold M.bj.j0
 have hsl : ki P T.g = true := by kernel_rfl
 have w0 : IntKind.i64.wrap 0 = 0 := by decide
 have wn : IntKind.i64.wrap (n : Int) = n := fj (by omega) (by omega)
 rw [fh, aju hsl, vj hsl]
 simp only [ja, nt]
 have e1 : IntKind.i64.wrap ((n : Int) - IntKind.i64.wrap (((0 : Nat) : Int) - ((0 : Nat) : Int))) = n := by
  rw [show ((0 : Nat) : Int) - ((0 : Nat) : Int) = 0 from by omega, w0, Int.sub_zero, wn]
 rw [e1]
 by_cases h0 : 0 < n
 ·have h0' : (0 : Int) < n := by omega
  simp only [h0', decide_true, Eng.cond_true]
  rw [aju hsl, xb (i := 0) (j := 0) hsl (.inl ⟨rfl, rfl⟩) (.inr ⟨.i64, rfl⟩) (Nat.le_refl _) (Nat.le_refl _)]
  refine axb (enc := mj) et.g (kn := .i64) (by kernel_rfl) h0 hn (by decide) _ fun w' cap hc o f => ?_
  rw [vj hsl, xb (i := 0) (j := 0) hsl (.inl ⟨rfl, rfl⟩) (.inr ⟨.i64, rfl⟩) (Nat.le_refl _) (Nat.zero_le _)]
  rw [if_neg (by omega)]
  have := h w' _ o f
  simpa [Addr.add, gv] using this
 ·have h0' : ¬ (0 : Int) < n := by omega
  simp only [h0', decide_false, Eng.cond_false]
  exact h w _ Ow.none (Fr.refl _ _)
abbrev Sls (w : World) (v : Value) (l : List Int) : Prop := Sl w 1 mj v l
abbrev Ows (w : World) (base : Nat) (v : Value) (l : List Int) : Prop := Ow w base T.b 1 mj v l
def tot (L : List (Value × List Int)) : Nat := (L.map fun p => p.2.length).sum
theorem aal {L : List (Value × List Int)} {i : Nat} (hi : i < L.length) : tot (L.take (i + 1)) = tot (L.take i) + L[i].2.length := by
 unfold tot
 rw [List.take_succ_eq_append_getElem hi, List.map_append, List.sum_append]; simp
theorem afx {L : List (Value × List Int)} (i : Nat) : tot (L.take i) ≤ tot L := by
 unfold tot
 conv => rhs; rw [← List.take_append_drop i L, List.map_append, List.sum_append]
 omega
theorem ahi (L : List (Value × List Int)) : (L.flatMap (·.2)).length = tot L := by
 unfold tot
 induction L with
 | nil => rfl
 | cons p L ih => simp [ih]
def CaI (w : World) (L : List (Value × List Int)) : KL := fun x w1 => ∃ (u : Value) (i : Nat), x = [u, .int .i64 (tot (L.take i) : Nat), .int .i64 (i : Nat)] ∧ w1 = w ∧ i ≤ L.length
def CbI (w : World) (L : List (Value × List Int)) : KL := fun x w1 => ∃ (u v : Value) (i : Nat), x = [u, v, .int .i64 (i : Nat)] ∧ i ≤ L.length ∧ Fr (fun _ => False) w w1 ∧ Ows w1 w.heap.size v ((L.take i).flatMap (·.2))
theorem yq {w : World} {b cap : Nat} {L : List (Value × List Int)} {e : TypeId} (hb : w.heap[b]? = some (.cells (L.map (·.1)).toArray e (0, 0))) (hs : ∀ p ∈ L, Sls w p.1 p.2) (ht : tot L ≤ 100000000) (hL : L.length ≤ 1000) {K : KV}
  (h : ∀ w' v, Ows w' w.heap.size v (L.flatMap (·.2)) → Fr (fun _ => False) w w' → K v w') : ij P F.bc [.slice (some ⟨b, 0, none⟩) L.length cap] w K := by
 apply M.ag.calls
 unfold M.ag
 have hss : ki P T.av = true := by kernel_rfl
 have hsl : ki P T.g = true := by kernel_rfl
 have q0 : ∀ a b c : Value, gv [a, b, c] 0 = a := fun _ _ _ => rfl
 have q1 : ∀ a b c : Value, gv [a, b, c] 1 = b := fun _ _ _ => rfl
 have q2 : ∀ a b c : Value, gv [a, b, c] 2 = c := fun _ _ _ => rfl
 have q4 : ∀ a b c d e : Value, gv [a, b, c, d, e] 4 = e := fun _ _ _ _ _ => rfl
 have cell : ∀ (w' : World), Fr (fun _ => False) w w' → ∀ (i : Nat) (hi : i < L.length), fi w' b i = some L[i].1 := fun w' f i hi => by
  rw [fm (f.heap hb fun h => h)]
  simp [hi]
 rw [fh, vj hss]
 refine ⟨CaI w L, fun x _ => L.length - ms x 2, ⟨_, 0, rfl, rfl, Nat.zero_le _⟩, ?_⟩
 rintro x w1 ⟨u, i, rfl, rfl, hi⟩
 simp only [q0, q1, q2, ka, fh]
 by_cases hil : i < L.length
 ·have hil' : (i : Int) < L.length := by omega
  simp only [hil', decide_true, Eng.cond_true]
  unfold M.ag.j2
  have hwi : IntKind.i64.wrap ((i : Int) + 1) = ((i + 1 : Nat) : Int) := by rw [fj (by omega) (by omega)]; rfl
  have c0 := cell w1 (Fr.refl _ _) i hil
  have hsi := hs L[i] (List.getElem_mem hil)
  obtain ⟨a', cap', hv', _⟩ := hsi
  have htt := aal hil
  have hle := afx (L := L) (i + 1)
  have hwt : IntKind.i64.wrap ((tot (L.take i) : Int) + (L[i].2.length : Int)) = ((tot (L.take (i + 1)) : Nat) : Int) := by rw [fj (by omega) (by omega)]; omega
  have hng : ¬ ((tot (L.take (i + 1)) : Nat) : Int) < 0 := by omega
  simp only [q0, q1, q2, fh]
  simp [hil, c0, hv', hwt, hwi, -Int.natCast_add]
  refine ⟨⟨_, i + 1, rfl, rfl, by omega⟩, ?_⟩
  simp [ms, gv]; omega
 ·have hie : i = L.length := by omega
  have hil' : ¬ (i : Int) < L.length := by omega
  simp only [hil', decide_false, Eng.cond_false]
  have htk : L.take i = L := List.take_of_length_le (by omega)
  rw [htk]
  unfold M.ag.j0
  simp only [q4]
  rw [M.bj.fcall]
  refine akn (by omega) fun w2 v2 o2 f2 => ?_
  rw [fh, vj hss]
  refine ⟨CbI w1 L, fun x _ => L.length - ms x 2, ⟨_, v2, 0, rfl, Nat.zero_le _, f2, o2⟩, ?_⟩
  rintro x w3 ⟨u', v, j, rfl, hj, f3, o3⟩
  simp only [q0, q1, q2, ka, fh]
  by_cases hjl : j < L.length
  ·have hjl' : (j : Int) < L.length := by omega
   simp only [hjl', decide_true, Eng.cond_true]
   unfold M.ag.j6
   have hwj : IntKind.i64.wrap ((j : Int) + 1) = ((j + 1 : Nat) : Int) := by rw [fj (by omega) (by omega)]; rfl
   have c0 := cell w3 f3 j hjl
   have hsj := (hs L[j] (List.getElem_mem hjl)).fr f3 fun _ _ _ h => h
   have hl1 : ((L.take j).flatMap (·.2)).length = tot (L.take j) := ahi _
   have htt := aal hjl
   have hle := afx (L := L) (j + 1)
   simp only [q0, q1, q2, fh]
   simp [hjl, c0, -List.length_flatMap]
   have hge := f3.size
   refine xi et.g lq azl o3 hsj (by rw [hl1]; omega) (by decide) hge _ fun v' w4 o4 f4 g4 => ?_
   simp only [hwj]
   refine ⟨⟨_, v', j + 1, rfl, by omega, f3.kg f4 fun x hx he => by have := (o3.lt he).1; omega, ?_⟩, ?_⟩
   ·rw [List.take_succ_eq_append_getElem hjl, List.flatMap_append]
    simpa using o4
   ·simp [ms, gv]; omega
  ·have hjl' : ¬ (j : Int) < L.length := by omega
   simp only [hjl', decide_false, Eng.cond_false, q4]
   have htj : L.take j = L := List.take_of_length_le (by omega)
   rw [htj] at o3
   exact h w3 v o3 f3
end Go.Proofs.YtfnhoaemapheoaaGreat.CI
