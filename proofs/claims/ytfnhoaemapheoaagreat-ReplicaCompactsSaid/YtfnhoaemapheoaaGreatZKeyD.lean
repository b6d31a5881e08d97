/-
  slices.Sorted(maps.Keys(m)) at the map type map_int_p_disk_file. No condition.
-/
import Derived.Test.YtfnhoaemapheoaaGreatZSpn0
import Derived.Test.YtfnhoaemapheoaaGreatZEngSl
set_option maxRecDepth 100000
namespace Go.Proofs.YtfnhoaemapheoaaGreat.KeyD
open Go.Eng Go.Sort Go.Proofs.YtfnhoaemapheoaaGreat.Sint
def KI (w W : World) (U : Nat → Prop) (r : Nat) (m : MP) (J : List Int → Asn) : KL := fun x w1 => ∃ (done : List Int) (U1 : Nat → Prop), x.length = 1 ∧ wh w1 W.heap.size r .i64 m done ∧ (J done.reverse).ok w1 U1 ∧ (∀ b, U1 b → w.heap.size ≤ b ∧ b < w1.heap.size ∧ b ≠ W.heap.size) ∧ Fr (fun b => w.heap.size ≤ b) W w1
theorem aar {w : World} {it r : Nat} {k : IntKind} {m : MP} {done : List Int} (h : wh w it r k m done) : done.Nodup ∧ ∀ x ∈ done, x ∈ im m := by
 obtain ⟨es, clk, since, c0, ie, _, _, _, _, _, _, _, _, _, h1, h2⟩ := h
 exact ⟨h1, h2⟩
theorem ahd {w : World} {r Bm : Nat} {m : MP} {e : TypeId} (hm : nk w r .i64 m) (hn : (im m).Nodup) (hB : w.heap[Bm]? = some (.cells #[.map (some r)] e (0, 0))) (hl : m.length < 60000) :
  agy P F.b [.pointer (some ⟨Bm, 0, none⟩)] zw (fun xs => xs.Perm (im m)) 60000 w := by
 intro l J W U K hf hJ hU hround hend
 apply M.ae.calls
 unfold M.ae
 have hBm : W.heap[Bm]? = some (.cells #[.map (some r)] e (0, 0)) := hf.heap hB fun h => h
 have c0 := fo hBm 0
 simp only [List.size_toArray, List.getElem?_toArray, List.getElem?_cons_zero] at c0
 have hm' : nk W r .i64 m := hm.xe (hf.jc r hm.lt fun h => h)
 have hrw := hm.lt
 simp [c0]
 refine avi mt.o hm' fun w1 hi f1 => ?_
 have hWs := hf.size
 have hWlt := (hi.lt).1
 refine ⟨KI w W U r m J, fun _ w1 => td w1 W.heap.size m.length, ⟨[], U, rfl, hi, (J []).jc hJ f1 fun _ _ h => h, fun b hb => ?_, f1.mono fun _ _ h => h.elim⟩, ?_⟩
 ·have := hU b hb
  have := f1.size
  exact ⟨by omega, by omega, by omega⟩
 rintro x w2 ⟨done, U1, hx1, hi2, hJ2, hU2, f2⟩
 unfold M.ae.j0
 refine atx hi2 hn T.be (fun hall => ?_) fun y v w3 hy hyd hc3 f3 hlt => ?_
 ·have e0 : ∀ w K, exT P (.tuple #[.bool false]) 0 w K = K (.bool false) w := fun _ _ => rfl
  simp [e0]
  obtain ⟨h1, h2⟩ := aar hi2
  refine hend _ w2 done.reverse U1 ?_ hJ2 f2
  refine (List.reverse_perm done).trans ?_
  refine (List.perm_ext_iff_of_nodup h1 hn).2 fun z => ⟨h2 z, fun hz => ?_⟩
  obtain ⟨p, hp, rfl⟩ := List.mem_map.1 hz
  exact hall p hp
 ·simp
  rw [aum hc3]
  simp
  have hnit : ∀ b, U1 b → ¬ b = W.heap.size := fun b hb => (hU2 b hb).2.2
  have hJ3 := (J done.reverse).jc hJ2 f3 hnit
  have hlen : done.length < m.length := by
   obtain ⟨h1, h2⟩ := aar hi2
   have := sk (l := y :: done) (l' := im m) (List.nodup_cons.2 ⟨hyd, h1⟩) fun z hz => by
    rcases List.mem_cons.1 hz with rfl | hz
    ·exact List.mem_map_of_mem hy
    ·exact h2 z hz
   simp only [im, List.length_map, List.length_cons] at this
   omega
  have hs3 := f3.size
  refine hround done.reverse y w3 U1 _ hJ3 (fun b hb => ⟨(hU2 b hb).1, by have := (hU2 b hb).2.1; omega⟩) (by simp; omega) fun w4 U4 hJ4 hU4 f4 => ?_
  simp
  have hit : ¬ U1 W.heap.size := fun h => hnit _ h rfl
  have hr1 : ¬ U1 r := fun h => by have := (hU2 r h).1; omega
  have hi3 : wh w3 W.heap.size r .i64 m (y :: done) := hc3.1
  have hi4 := hi3.jc (f4.jc _ hi3.lt.1 hit) (f4.jc _ hi3.lt.2 hr1)
  refine ⟨⟨y :: done, U4, rfl, hi4, by simpa using hJ4, fun b hb => ?_, ?_⟩, ?_⟩
  ·rcases hU4 b hb with h | h
   ·have := hU2 b h
    have := f4.size
    exact ⟨by omega, by omega, by omega⟩
   ·have := hi3.lt.1
    have := f2.size
    exact ⟨by omega, by omega, by omega⟩
  ·refine (f2.kg f3 fun b hb he => by omega).kg f4 fun b hb he => (hU2 b he).1
  ·have : td w4 W.heap.size m.length = td w3 W.heap.size m.length := by
    unfold td
    rw [f4.jc _ hi3.lt.1 hit]
   rw [this]; exact hlt
theorem ajq {w : World} {r : Nat} {m : MP} (hm : nk w r .i64 m) (hn : (im m).Nodup) (hl : m.length < 60000) {K : KV}
  (h : ∀ w' v, OwN w' w.heap.size v (mw (im m)) → Fr (fun _ => False) w w' → K v w') :
  fe P F.n [.map (some r)] w fun t w => fe P F.bq [t] w K := by
 rw [M.an.fcall]
 apply M.an.calls
 unfold M.an
 rw [wi, apa]
 show fe P F.bq _ _ K
 rw [M.cz.fcall]
 have f1 : Fr (fun _ => False) w (w.alloc (.cells #[.map (some r)] T.o)) := (Fr.refl _ w).alloc _
 have hB : (w.alloc (.cells #[.map (some r)] T.o)).heap[w.heap.size]? = some (.cells #[.map (some r)] T.o (0, 0)) := by rw [ga, if_pos rfl]
 have hsz : w.heap.size ≤ (w.alloc (.cells #[.map (some r)] T.o)).heap.size := by simp
 refine afc (ks := im m) FN.b.at (by kernel_rfl) (by kernel_rfl) (by simpa [im] using hl) (ahd (hm.xe (f1.jc r hm.lt fun h => h)) hn hB hl) fun w2 v o2 f2 => ?_
 exact h w2 v (o2.mono hsz) (f1.trans f2)
end Go.Proofs.YtfnhoaemapheoaaGreat.KeyD
set_option maxRecDepth 100000
namespace Go.Proofs.YtfnhoaemapheoaaGreat
open Go.Eng Go.Proofs.YtfnhoaemapheoaaGreat.Sint
structure Fil where
 n : Int
 iz : List Int
 gx : List Int
structure Dk where
 gp : Int
 left : Int
 ic : Bool
 gc : Bool
 fs : List Fil
structure FE where
 n : Int
 p : Nat
 fv : Value
 lv : Value
 iz : List Int
 gx : List Int
def FE.abs (e : FE) : Fil := ⟨e.n, e.iz, e.gx⟩
def FE.ptr (e : FE) : Value := .pointer (some ⟨e.p, 0, none⟩)
def Fil.len (f : Fil) : Nat := f.iz.length + f.gx.length
def Dk.gm (D : Dk) : Nat := (D.fs.map Fil.len).sum
abbrev je (v : Value) (l : List Int) : Asn := sp T.ap 1 acz v l
abbrev SlB (w : World) (v : Value) (l : List Int) : Prop := Sl w 1 acz v l
def bdd (e : FE) : List Asn := [fu e.p #[e.fv, e.lv] T.ag, je e.fv e.iz, je e.lv e.gx]
def uv (e : FE) : Asn := ny (bdd e)
def ase (hb r : Nat) (D : Dk) : Asn := fu hb #[.int .i64 D.gp, .map (some r), .int .i64 D.left, .bool D.ic, .bool D.gc] T.af
structure lj (m : MP) (es : List FE) (D : Dk) : Prop where
 fs : D.fs = es.map FE.abs
 ml : m.length = es.length
 mg : ∀ e ∈ es, kq m e.n = some e.ptr
 mz : ∀ k, (∀ e ∈ es, e.n ≠ k) → kq m k = none
 tn : (es.map FE.n).Nodup
 kp : (im m).Perm (es.map FE.n)
 gp : D.gp ≤ 1048576
 gm : (D.gm : Int) ≤ D.gp
 rng : ∀ e ∈ es, 0 ≤ e.n ∧ e.n < 64
 arm : D.ic = true → 0 ≤ D.left ∧ D.left < 9223372036854775808
def la (hb r : Nat) (m : MP) (es : List FE) (D : Dk) : List Asn := ase hb r D :: jv r .i64 m :: es.map uv
def fx (hb : Nat) (D : Dk) : Asn where
 ok w B := ∃ r m es, lj m es D ∧ Rs (la hb r m es D) w B
 jc := by
  rintro w w' B S ⟨r, m, es, h1, h2⟩ hf hn
  exact ⟨r, m, es, h1, h2.jc hf hn⟩
section
variable {w0 w : World} {hb r : Nat} {m : MP} {es : List FE} {D : Dk} {R : List Asn} {e : FE}
theorem wj (S : St w0 w (fx hb D :: R)) : ∃ r m es, lj m es D ∧ St w0 w (la hb r m es D ++ R) := by
 obtain ⟨B, ⟨r, m, es, h1, h2⟩, _, cl⟩ := S.open
 exact ⟨r, m, es, h1, cl w _ (Fr.refl _ _) (h2.mono fun b hb => .inl hb)⟩
theorem ym (h : lj m es D) (S : St w0 w (la hb r m es D ++ R)) : St w0 w (fx hb D :: R) := by
 obtain ⟨U, h1, _, g⟩ := S.yr
 exact g w [fx hb D] (Fr.refl _ _) ⟨U, ⟨r, m, es, h, h1⟩, fun b hb => .inl hb, trivial⟩
theorem mo (hb r : Nat) (m : MP) (a b : List FE) (e : FE) (D : Dk) (R : List Asn) : (la hb r m (a ++ e :: b) D ++ R).Perm (uv e :: (la hb r m (a ++ b) D ++ R)) := by
 unfold la
 simp only [List.map_append, List.map_cons, List.cons_append, List.append_assoc]
 refine (List.Perm.cons _ (List.Perm.cons _ ?_)).trans ((List.Perm.cons _ (.swap _ _ _)).trans (.swap _ _ _))
 exact List.perm_middle
theorem uq (S : St w0 w (uv e :: R)) : St w0 w (fu e.p #[e.fv, e.lv] T.ag :: je e.fv e.iz :: je e.lv e.gx :: R) := St.all.1 S
theorem anm (S : St w0 w (fu e.p #[e.fv, e.lv] T.ag :: je e.fv e.iz :: je e.lv e.gx :: R)) : St w0 w (uv e :: R) := St.all.2 S
theorem qp (S : St w0 w (la hb r m es D ++ R)) : w.heap[hb]? = some (.cells #[.int .i64 D.gp, .map (some r), .int .i64 D.left, .bool D.ic, .bool D.gc] T.af (0, 0)) := St.blk S
theorem adk (S : St w0 w (la hb r m es D ++ R)) : nk w r .i64 m ∧ (im m).Nodup := by
 obtain ⟨B, h1, _⟩ := (St.swap S).open
 exact h1.1
theorem nr (h : w.heap[hb]? = some (.cells #[.int .i64 D.gp, .map (some r), .int .i64 D.left, .bool D.ic, .bool D.gc] T.af (0, 0))) :
  fm w hb 0 = some (.int .i64 D.gp) ∧ fm w hb 1 = some (.map (some r)) ∧ fm w hb 2 = some (.int .i64 D.left) ∧ fm w hb 3 = some (.bool D.ic) ∧ fm w hb 4 = some (.bool D.gc) ∧ ∀ i, nt w hb i = false :=
 ⟨by rw [fo h]; rfl, by rw [fo h]; rfl, by rw [fo h]; rfl, by rw [fo h]; rfl, by rw [fo h]; rfl, lb h⟩
theorem lj.bcr (h : lj m es D) (k : Int) : (kq m k = none ∧ ∀ e ∈ es, e.n ≠ k) ∨ ∃ a e b, es = a ++ e :: b ∧ e.n = k ∧ kq m k = some e.ptr := by
 by_cases hx : ∃ e ∈ es, e.n = k
 ·obtain ⟨e, he, rfl⟩ := hx
  obtain ⟨a, b, hab⟩ := List.append_of_mem he
  exact .inr ⟨a, e, b, hab, rfl, h.mg e he⟩
 ·exact .inl ⟨h.mz k fun e he hk => hx ⟨e, he, hk⟩, fun e he hk => hx ⟨e, he, hk⟩⟩
theorem amm (hh : w.heap[hb]? = some (.cells #[.int .i64 D.gp, .map (some r), .int .i64 D.left, .bool D.ic, .bool D.gc] T.af (0, 0))) {K : KV} (h : K (.int .i64 (if D.gc then 10 else 0)) w) : fe P F.bi [.pointer (some ⟨hb, 0, none⟩)] w K := by
 rw [M.de.fcall]
 apply M.de.calls
 unfold M.de
 obtain ⟨_, _, _, _, c4, _⟩ := nr hh
 cases hd : D.gc with
 | true => rw [hd] at h c4; simp [c4]; simpa using h
 | false => rw [hd] at h c4; simp [c4]; simpa using h
theorem afq (hk : lj m es D) (S : St w0 w (la hb r m es D ++ R)) (k : Int) {K : KV} (h0 : D.gc = true → K (.tuple #[.pointer none, .int .i64 10]) w) (h1 : D.gc = false → (∀ e ∈ es, e.n ≠ k) → K (.tuple #[.pointer none, .int .i64 11]) w)
  (h2 : D.gc = false → ∀ a e b, es = a ++ e :: b → e.n = k → K (.tuple #[e.ptr, .int .i64 0]) w) : fe P F.bo [.pointer (some ⟨hb, 0, none⟩), .int .i64 k] w K := by
 rw [M.cl.fcall]
 apply M.cl.calls
 unfold M.cl
 rw [fi]
 refine amm (qp S) ?_
 obtain ⟨_, c1, _, _, c4, _⟩ := nr (qp S)
 cases hd : D.gc with
 | true => simp; exact h0 hd
 | false =>
  simp
  unfold M.cl.j0
  simp [c1]
  rw [zc mt.o (adk S).1]
  rcases hk.bcr k with ⟨hn, hall⟩ | ⟨a, e, b, he, hek, hg⟩
  ·rw [hn]
   simp
   exact h1 hd hall
  ·rw [hg]
   simp [FE.ptr]
   exact h2 hd a e b he hek
theorem aoq (S : St w0 w (uv e :: R)) (hl : e.iz.length + e.gx.length ≤ 10000000) {K : KV} (h : ∀ w' v, St w0 w' (je v (e.iz ++ e.gx) :: uv e :: R) → K v w') : fe P F.cg [e.ptr] w K := by
 rw [M.dp.fcall]
 apply M.dp.calls
 unfold M.dp
 have hb := (uq S).blk
 have c0 : fm w e.p 0 = some e.fv := by rw [fo hb]; rfl
 have c1 : fm w e.p 1 = some e.lv := by rw [fo hb]; rfl
 have s1 : SlB w e.fv e.iz := (uq S).swap.row ij
 have s2 : SlB w e.lv e.gx := (uq S).zj.row ij
 obtain ⟨a1, k1, hv1, _⟩ := id s1
 obtain ⟨a2, k2, hv2, _⟩ := id s2
 rw [hv1] at c0
 rw [hv2] at c1
 simp [FE.ptr, c0, c1]
 rw [← hv1, ← hv2]
 have hcell : w.heap.size < (Eng.dr w 1).heap.size + 1 := by simp
 have hn : ((Eng.dr w 1).alloc (.cells #[e.fv, e.lv] T.c)).heap[w.heap.size]? = some (.cells (([(e.fv, e.iz), (e.lv, e.gx)] : List (Value × List Int)).map (·.1)).toArray T.c (0, 0)) := by
  rw [ga, if_pos (by simp)]; rfl
 have f1 : Fr (fun _ => False) w ((Eng.dr w 1).alloc (.cells #[e.fv, e.lv] T.c)) := ((Fr.refl _ w).dr 1).alloc _
 rw [M.u.fcall]
 refine CB.xz (L := [(e.fv, e.iz), (e.lv, e.gx)]) hn (fun p hp => ?_) (by simp [CB.tot]; omega) (by simp) fun w' v o f2 => ?_
 ·simp at hp
  rcases hp with rfl | rfl
  ·exact s1.fr f1 fun _ _ _ h => h
  ·exact s2.fr f1 fun _ _ _ h => h
 ·have hs : w.heap.size ≤ ((Eng.dr w 1).alloc (.cells #[e.fv, e.lv] T.c)).heap.size := f1.size
  refine h w' v (S.add (a := je v (e.iz ++ e.gx)) (f1.trans f2) (B := fun b => v.ownBlock = some b) ⟨?_, fun b hb => hb⟩ fun b hb => ?_)
  ·simpa using o.mono (Nat.zero_le _)
  ·have := o.lt hb
   exact ⟨by omega, this.2⟩
end
set_option maxRecDepth 100000
open Go.Eng Go.Proofs.YtfnhoaemapheoaaGreat.Sint
def Dk.get (D : Dk) (k : Int) : Option Fil := D.fs.find? fun f => decide (f.n = k)
def Dk.nn (D : Dk) : List Int := D.fs.map Fil.n
def Dk.gr (D : Dk) : List Int := mw D.nn
abbrev pd (v : Value) (l : List Int) : Asn := sp T.a 1 qk v l
theorem te (x : Int) : (qk x).length = 1 := rfl
section
variable {w0 w : World} {hb r : Nat} {m : MP} {es a b : List FE} {D : Dk} {R : List Asn} {e e' : FE}
theorem lj.nn (h : lj m es D) : D.nn = es.map FE.n := by
 unfold Dk.nn
 rw [h.fs, List.map_map]; rfl
theorem lj.nd (h : lj m es D) : (im m).Nodup := h.kp.nodup_iff.2 h.tn
theorem lj.few (h : lj m es D) : es.length ≤ 64 := by
 have := sk (l := es.map FE.n) (l' := (List.range 64).map Int.ofNat) h.tn fun x hx => by
  obtain ⟨e, he, rfl⟩ := List.mem_map.1 hx
  have := h.rng e he
  exact List.mem_map.2 ⟨e.n.toNat, List.mem_range.2 (by omega), by simp; omega⟩
 simpa using this
theorem lj.tm (h : lj m (a ++ e :: b) D) : D.get e.n = some e.abs := by
 unfold Dk.get
 rw [h.fs]
 have hn := h.tn
 rw [List.map_append, List.map_cons, List.nodup_append] at hn
 rw [List.map_append, List.find?_append]
 have : (a.map FE.abs).find? (fun f => decide (f.n = e.n)) = none := by
  rw [List.find?_eq_none]
  intro f hf
  obtain ⟨x, hx, rfl⟩ := List.mem_map.1 hf
  have := hn.2.2 x.n (List.mem_map_of_mem hx) e.n (List.mem_cons_self ..)
  simp [FE.abs]
  exact decide_eq_false this
 rw [this]
 simp [FE.abs]
theorem lj.aam (h : lj m es D) {k : Int} (hk : ∀ e ∈ es, e.n ≠ k) : D.get k = none := by
 unfold Dk.get
 rw [h.fs, List.find?_eq_none]
 intro f hf
 obtain ⟨x, hx, rfl⟩ := List.mem_map.1 hf
 simp [FE.abs]
 exact decide_eq_false (hk x hx)
theorem aua (S : St w0 w (la hb r m (a ++ e :: b) D ++ R)) : w.heap[e.p]? = some (.cells #[e.fv, e.lv] T.ag (0, 0)) ∧ SlB w e.fv e.iz ∧ SlB w e.lv e.gx := by
 have S' := uq (S.perm (mo hb r m a b e D R))
 exact ⟨S'.blk, S'.swap.row ij, S'.zj.row ij⟩
theorem aqp (S : St w0 w R) (gp : Int) {K : KV} (h0 : (gp < 1 ∨ 1048576 < gp) → K (.tuple #[.pointer none, .int .i64 1]) w)
  (h1 : 1 ≤ gp → gp ≤ 1048576 → ∀ w' hb, St w0 w' (fx hb ⟨gp, 0, false, false, []⟩ :: R) → K (.tuple #[.pointer (some ⟨hb, 0, none⟩), .int .i64 0]) w') : fe P F.ec [.int .i64 gp] w K := by
 rw [M.ei.fcall]
 apply M.ei.calls
 unfold M.ei
 by_cases hx : gp < 1
 ·simp [hx]; exact h0 (.inl hx)
 by_cases hy : 1048576 < gp
 ·simp [hx, hy]; exact h0 (.inr hy)
 simp [hx, hy]
 rw [anj]
 simp
 have hm := aet w .i64
 refine h1 (by omega) (by omega) _ (w.heap.size + 1) (ym (m := []) (es := []) (r := w.heap.size) ⟨rfl, rfl, fun e he => by (cases he), fun _ _ => rfl, by simp, by simp [im], by (show gp ≤ 1048576; omega), by (show ((0 : Nat) : Int) ≤ gp; omega), fun e he => by (cases he), fun h => by (cases h)⟩ ?_)
 have f : Fr (fun _ => False) w ((w.alloc (.map #[] 0)).alloc (.cells #[.int .i64 gp, .map (some w.heap.size), .int .i64 0, .bool false, .bool false] T.af)) := ((Fr.refl _ w).alloc _).alloc _
 obtain ⟨U, _, _, g⟩ := S.yr (L := [])
 refine g _ (la (w.heap.size + 1) w.heap.size [] [] ⟨gp, 0, false, false, []⟩) (f.mono fun _ _ h => h.elim) ⟨fun b => b = w.heap.size + 1, ⟨?_, rfl⟩, fun b hb => .inr (by simp at hb ⊢; omega), fun b => b = w.heap.size, ⟨⟨hm.xe (by rw [ga, if_neg (by simp)]), by simp [im]⟩, rfl⟩, fun b hb => ⟨.inr (by simp at hb ⊢; omega), by simp at hb ⊢; omega⟩, trivial⟩
 rw [ga, if_pos (by simp)]
theorem ahn (hk : lj m es D) (S : St w0 w (la hb r m es D ++ R)) {K : KV} (h : ∀ w' v, St w0 w' (pd v D.gr :: (la hb r m es D ++ R)) → K v w') : fe P F.bh [.pointer (some ⟨hb, 0, none⟩)] w K := by
 rw [M.dd.fcall]
 apply M.dd.calls
 unfold M.dd
 obtain ⟨_, c1, _⟩ := nr (qp S)
 simp [c1]
 have hf := hk.few
 refine KeyD.ajq (adk S).1 hk.nd (by rw [hk.ml]; omega) fun w' v o f => ?_
 have hd : mw (im m) = D.gr := by
  unfold Dk.gr
  rw [hk.nn]
  exact th hk.kp
 rw [hd] at o
 refine h w' v (S.add (a := pd v D.gr) f (B := fun b => v.ownBlock = some b) ⟨o.mono (Nat.zero_le _), fun b hb => hb⟩ fun b hb => ⟨(o.lt hb).1, (o.lt hb).2⟩)
def lenOf (D : Dk) (k : Int) : Nat := ((D.get k).map Fil.len).getD 0
theorem awm {l l' : List Nat} (h : l.Perm l') : l.sum = l'.sum := by
 induction h with
 | nil => rfl
 | cons x _ ih => simp [ih]
 | swap x y l => simp; omega
 | trans _ _ h1 h2 => exact h1.trans h2
theorem ayy (hk : lj m es D) : (D.gr.map (lenOf D)).sum = D.gm := by
 have h1 : (D.gr.map (lenOf D)).Perm (D.nn.map (lenOf D)) := (mq _).map _
 rw [awm h1]
 unfold Dk.gm Dk.nn
 rw [List.map_map]
 congr 1
 apply List.map_congr_left
 intro f hf
 rw [hk.fs] at hf
 obtain ⟨x, hx, rfl⟩ := List.mem_map.1 hf
 obtain ⟨a, b, hab⟩ := List.append_of_mem hx
 subst hab
 show lenOf D x.n = x.abs.len
 unfold lenOf
 rw [hk.tm]; rfl
theorem acw {l : List Nat} {x : Nat} (h : x ∈ l) : x ≤ l.sum := by
 induction l with
 | nil => cases h
 | cons y l ih =>
  rcases List.mem_cons.1 h with rfl | h
  ·simp
  ·have := ih h; simp; omega
def abt (D : Dk) (i : Nat) : Nat := ((D.gr.take i).map (lenOf D)).sum
def UsI (w0 : World) (hb r : Nat) (m : MP) (es : List FE) (D : Dk) (R : List Asn) (v : Value) : KL := fun x w1 => ∃ (u : Value) (i : Nat), x = [u, .int .i64 (abt D i : Nat), .int .i64 (i : Nat)] ∧ i ≤ D.gr.length ∧ St w0 w1 (pd v D.gr :: (la hb r m es D ++ R))
theorem azy (hk : lj m es D) (S : St w0 w (la hb r m es D ++ R)) {K : KV} (h : ∀ w', St w0 w' (la hb r m es D ++ R) → K (.int .i64 (D.gm : Nat)) w') : fe P F.di [.pointer (some ⟨hb, 0, none⟩)] w K := by
 rw [M.cm.fcall]
 apply M.cm.calls
 unfold M.cm
 rw [fi]
 refine ahn hk S fun w1 v S1 => ?_
 have hsl : ∀ {w}, St w0 w (pd v D.gr :: (la hb r m es D ++ R)) → Sl w 1 qk v D.gr := fun S => S.row te
 rw [(hsl S1).ig (by simp)]
 refine ⟨UsI w0 hb r m es D R v, fun x _ => D.gr.length - ms x 2, ⟨_, 0, rfl, Nat.zero_le _, S1⟩, ?_⟩
 rintro x w2 ⟨u, i, rfl, hi, S2⟩
 have q0 : ∀ a b c : Value, gv [a, b, c] 0 = a := fun _ _ _ => rfl
 have q1 : ∀ a b c : Value, gv [a, b, c] 1 = b := fun _ _ _ => rfl
 have q2 : ∀ a b c : Value, gv [a, b, c] 2 = c := fun _ _ _ => rfl
 have q4 : ∀ a b c d e : Value, gv [a, b, c, d, e] 4 = e := fun _ _ _ _ _ => rfl
 have hus := ayy hk
 have hu := hk.gm
 have hr := hk.gp
 have hfl : D.gr.length = es.length := by unfold Dk.gr; rw [(mq _).length_eq, hk.nn, List.length_map]
 have hfew := hk.few
 simp only [q0, q1, q2, jy, fi]
 by_cases hil : i < D.gr.length
 ·have hil' : (i : Int) < D.gr.length := by omega
  simp only [hil', decide_true, Eng.cond_true]
  unfold M.cm.j2
  obtain ⟨bb, o, cap, hv, hbb, _, hc⟩ := (hsl S2).at hil
  have c0 := hc 0 _ rfl
  simp only [Nat.mul_one, Nat.add_zero] at c0
  have hmem : D.gr[i] ∈ D.gr := List.getElem_mem hil
  have htk : abt D (i + 1) = abt D i + lenOf D D.gr[i] := by
   unfold abt
   rw [List.take_succ_eq_append_getElem hil, List.map_append, List.sum_append]; simp
  have htot : abt D (i + 1) ≤ D.gm := by
   rw [← hus]
   unfold abt
   conv => rhs; rw [← List.take_append_drop (i + 1) D.gr, List.map_append, List.sum_append]
   omega
  generalize hki : D.gr[i] = k at *
  have hmem' : k ∈ es.map FE.n := by
   rw [← hk.nn]; exact (mq _).mem_iff.1 hmem
  obtain ⟨e, he, hek⟩ := List.mem_map.1 hmem'
  obtain ⟨a, b, hab⟩ := List.append_of_mem he
  subst hab
  obtain ⟨hbk, s1, s2⟩ := aua (a := a) (e := e) (b := b) S2.drop
  obtain ⟨_, c1, _⟩ := nr (qp S2.drop)
  have hg := hk.mg e (by simp)
  have d0 : fm w2 e.p 0 = some e.fv := by rw [fo hbk]; rfl
  have d1 : fm w2 e.p 1 = some e.lv := by rw [fo hbk]; rfl
  obtain ⟨a1, k1, hv1, _⟩ := s1
  obtain ⟨a2, k2, hv2, _⟩ := s2
  rw [hv1] at d0
  rw [hv2] at d1
  have hlu : ∀ K, luT P T.o (.map (some r)) (.int .i64 k) false (Eng.dr w2 1) K = K (.pointer (some ⟨e.p, 0, none⟩)) (Eng.dr w2 1) := fun K => by
   rw [zc mt.o (nk.xe (w' := Eng.dr w2 1) (adk S2.drop).1 rfl), ← hek, hg]; rfl
  have hlen : lenOf D k = e.iz.length + e.gx.length := by
   unfold lenOf
   rw [← hek, hk.tm]; rfl
  have hw1 : IntKind.i64.wrap ((e.iz.length : Int) + (e.gx.length : Int)) = ((e.iz.length + e.gx.length : Nat) : Int) := by rw [fl (by omega) (by omega)]; omega
  have hw2 : IntKind.i64.wrap ((abt D i : Int) + ((e.iz.length + e.gx.length : Nat) : Int)) = ((abt D (i + 1) : Nat) : Int) := by
   rw [fl (by omega) (by omega)]; omega
  have hwi : IntKind.i64.wrap ((i : Int) + 1) = ((i + 1 : Nat) : Int) := by rw [fl (by omega) (by omega)]; rfl
  rw [hv]
  simp [q0, q1, q2, hil, c0, c1, hlu, d0, d1, hw1, hw2, hwi, -Int.natCast_add]
  rw [← hv]
  refine ⟨⟨_, i + 1, rfl, by omega, S2.iq ((Fr.refl _ w2).dr 1)⟩, ?_⟩
  simp only [ms, q2]
  simp; omega
 ·have hil' : ¬ (i : Int) < D.gr.length := by omega
  simp only [hil', decide_false, Eng.cond_false, q4]
  have : abt D i = D.gm := by
   unfold abt
   rw [List.take_of_length_le (by omega), hus]
  rw [this]
  exact h w2 S2.drop
theorem aya (S : St w0 w (la hb r m es D ++ R)) {K : KV} (h : K (.bool D.gc) w) : fe P F.aq [.pointer (some ⟨hb, 0, none⟩)] w K := by
 rw [M.df.fcall]
 apply M.df.calls
 unfold M.df
 obtain ⟨_, _, _, _, c4, _⟩ := nr (qp S)
 simp [c4]
 exact h
def Dk.jp (D : Dk) (k : Int) : List Int × Int := if D.gc then ([], 10) else match D.get k with
 | none => ([], 11)
 | some f => (f.iz ++ f.gx, 0)
theorem ur (hk : lj m (a ++ e :: b) D) : e.iz.length + e.gx.length ≤ D.gm := by
 have : e.abs.len ∈ D.fs.map Fil.len := by
  rw [hk.fs]
  exact List.mem_map_of_mem (List.mem_map_of_mem (by simp))
 exact acw this
theorem baa (hk : lj m es D) (S : St w0 w (la hb r m es D ++ R)) (k : Int) {K : KV} (h : ∀ w' v, St w0 w' (je v (D.jp k).1 :: (la hb r m es D ++ R)) → K (.tuple #[v, .int .i64 (D.jp k).2]) w') : fe P F.cn [.pointer (some ⟨hb, 0, none⟩), .int .i64 k] w K := by
 rw [M.dh.fcall]
 apply M.dh.calls
 unfold M.dh
 unfold Dk.jp at h
 have Snil : St w0 w (je (.slice none 0 0) [] :: (la hb r m es D ++ R)) := S.add (a := je (.slice none 0 0) []) (Fr.refl _ w) (B := fun _ => False) ⟨Ow.none, fun b hb => by simp [Value.ownBlock] at hb⟩ fun b hb => hb.elim
 refine afq hk S k (fun hd => ?_) (fun hd hn => ?_) fun hd a e b he hek => ?_
 ·simp [hd] at h ⊢
  exact h w _ Snil
 ·rw [hk.aam hn] at h
  simp [hd] at h ⊢
  exact h w _ Snil
 ·subst he
  have hl := ur hk
  have hu := hk.gm
  have hr := hk.gp
  rw [← hek, hk.tm] at h
  simp [hd] at h ⊢
  refine aoq (S.perm (mo hb r m a b e D R)) (by omega) fun w' v S' => ?_
  exact h w' v (S'.tail (mo hb r m a b e D R).symm)
end
set_option maxRecDepth 100000
open Go.Eng Go.Proofs.YtfnhoaemapheoaaGreat.Sint
def Dk.li (D : Dk) (k : Int) (fa lo : List Int) : Dk := { D with fs := D.fs.map fun f => if f.n = k then ⟨k, fa, lo⟩ else f }
def Dk.rem (D : Dk) (k : Int) : Dk := { D with fs := D.fs.filter fun f => decide (f.n ≠ k) }
section
variable {w0 w : World} {hb r : Nat} {m : MP} {es a b : List FE} {D : Dk} {R : List Asn} {e e' : FE}
theorem lj.alx (h : lj m (a ++ e :: b) D) : ∀ x, x ∈ a ∨ x ∈ b → x.n ≠ e.n := by
 have hn := h.tn
 rw [List.map_append, List.map_cons, List.nodup_append, List.nodup_cons] at hn
 rintro x (hx | hx) he
 ·exact hn.2.2 x.n (List.mem_map_of_mem hx) e.n (List.mem_cons_self ..) he
 ·exact hn.2.1.1 (he ▸ List.mem_map_of_mem hx)
theorem aqr (h : lj m (a ++ e :: b) D) (fa lo : List Int) : (D.li e.n fa lo).fs = a.map FE.abs ++ ⟨e.n, fa, lo⟩ :: b.map FE.abs := by
 unfold Dk.li
 simp only [h.fs, List.map_append, List.map_cons, List.map_map]
 have hx : ∀ x : FE, x ∈ a ∨ x ∈ b → ((fun f : Fil => if f.n = e.n then (⟨e.n, fa, lo⟩ : Fil) else f) ∘ FE.abs) x = x.abs := fun x hx => by
  show (if x.n = e.n then _ else x.abs) = _
  rw [if_neg (h.alx x hx)]
 rw [List.map_congr_left fun x hxa => hx x (.inl hxa), List.map_congr_left (l := b) fun x hxb => hx x (.inr hxb)]
 simp [FE.abs]
theorem abf (h : lj m (a ++ e :: b) D) (fa lo : List Int) : (D.li e.n fa lo).gm + (e.iz.length + e.gx.length) = D.gm + (fa.length + lo.length) := by
 unfold Dk.gm
 rw [aqr h, h.fs]
 simp [FE.abs, Fil.len]
 omega
theorem lj.li (h : lj m (a ++ e :: b) D) (hn : e'.n = e.n) (hp : e'.p = e.p) (hu : ((D.li e.n e'.iz e'.gx).gm : Int) ≤ D.gp) : lj m (a ++ e' :: b) (D.li e.n e'.iz e'.gx) where
 fs := by rw [aqr h, ← hn]; simp [FE.abs]
 ml := by rw [h.ml]; simp
 mg x hx := by
  rcases List.mem_append.1 hx with hx | hx
  ·exact h.mg x (by simp [hx])
  ·rcases List.mem_cons.1 hx with rfl | hx
   ·rw [hn, h.mg e (by simp)]; simp [FE.ptr, hp]
   ·exact h.mg x (by simp [hx])
 mz k hk := h.mz k fun x hx => by
  rcases List.mem_append.1 hx with hx | hx
  ·exact hk x (by simp [hx])
  ·rcases List.mem_cons.1 hx with rfl | hx
   ·rw [← hn]; exact hk e' (by simp)
   ·exact hk x (by simp [hx])
 tn := by have := h.tn; simp only [List.map_append, List.map_cons] at *; rw [hn]; exact this
 kp := by have := h.kp; simp only [List.map_append, List.map_cons] at *; rw [hn]; exact this
 gp := h.gp
 gm := hu
 rng x hx := by
  rcases List.mem_append.1 hx with hx | hx
  ·exact h.rng x (by simp [hx])
  ·rcases List.mem_cons.1 hx with rfl | hx
   ·rw [hn]; exact h.rng e (by simp)
   ·exact h.rng x (by simp [hx])
 arm := h.arm
theorem lj.rem (h : lj m (a ++ e :: b) D) : lj (vk m e.n) (a ++ b) (D.rem e.n) where
 fs := by
  unfold Dk.rem
  simp only [h.fs, List.map_append, List.map_cons, List.filter_append]
  have hx : ∀ l : List FE, (∀ x ∈ l, x.n ≠ e.n) → (l.map FE.abs).filter (fun f => decide (f.n ≠ e.n)) = l.map FE.abs := fun l hl => List.filter_eq_self.2 fun f hf => by
   obtain ⟨x, hx, rfl⟩ := List.mem_map.1 hf
   exact decide_eq_true (hl x hx)
  rw [List.filter_cons, hx a fun x h' => h.alx x (.inl h'), hx b fun x h' => h.alx x (.inr h')]
  simp [FE.abs]
 ml := by
  have h1 := yu m e.n
  have h2 : (im (vk m e.n)).length = (im m).length - 1 := by
   rw [h1, List.length_erase_of_mem]
   exact h.kp.mem_iff.2 (List.mem_map_of_mem (by simp))
  simp only [im, List.length_map] at h2
  rw [h2, h.ml]
  simp
 mg x hx := by
  rw [aex _ _ _ fun he => h.alx x (List.mem_append.1 hx) he.symm]
  exact h.mg x (by rcases List.mem_append.1 hx with h | h <;> simp [h])
 mz k hk := by
  by_cases hek : e.n = k
  ·subst hek; exact akf _ _ h.nd
  ·rw [aex _ _ _ hek]
   refine h.mz k fun x hx => ?_
   rcases List.mem_append.1 hx with hx | hx
   ·exact hk x (by simp [hx])
   ·rcases List.mem_cons.1 hx with rfl | hx
    ·exact hek
    ·exact hk x (by simp [hx])
 tn := by
  have := h.tn
  rw [(List.Perm.map FE.n (List.perm_middle (l₁ := a) (a := e) (l₂ := b))).nodup_iff] at this
  exact (List.nodup_cons.1 this).2
 kp := by
  rw [yu]
  have h1 := (h.kp.trans (List.Perm.map FE.n (List.perm_middle (l₁ := a) (a := e) (l₂ := b)))).erase e.n
  rw [List.map_cons, List.erase_cons_head] at h1
  exact h1
 gp := h.gp
 gm := by
  have h1 := h.gm
  have h2 : (D.rem e.n).gm ≤ D.gm := by
   unfold Dk.rem Dk.gm
   have : ∀ l : List Fil, ((l.filter fun f => decide (f.n ≠ e.n)).map Fil.len).sum ≤ (l.map Fil.len).sum := fun l => by
    induction l with
    | nil => simp
    | cons f l ih =>
     rw [List.filter_cons]
     split
     ·rw [List.map_cons, List.map_cons, List.sum_cons, List.sum_cons]; omega
     ·rw [List.map_cons, List.sum_cons]; omega
   exact this D.fs
  show ((D.rem e.n).gm : Int) ≤ D.gp
  omega
 rng x hx := h.rng x (by rcases List.mem_append.1 hx with h | h <;> simp [h])
 arm := h.arm
theorem pq (S : St w0 w R) : St w0 w (je (.slice none 0 0) [] :: R) := S.add (a := je (.slice none 0 0) []) (Fr.refl _ w) (B := fun _ => False) ⟨Ow.none, fun b hb => by simp [Value.ownBlock] at hb⟩ fun b hb => hb.elim
theorem aki {v : Value} {l : List Int} (S : St w0 w (je v l :: uv e :: R)) : St w0 ((w.setCell ⟨e.p, 0, none⟩ v).setCell ⟨e.p, 1, none⟩ (.slice none 0 0)) (uv { e with fv := v, lv := .slice none 0 0, iz := l, gx := [] } :: R) := by
 have S1 := uq S.swap
 have S2 : St w0 w (fu e.p #[e.fv, e.lv] T.ag :: je v l :: R) := (S1.swap.drop.swap.drop : St w0 w _)
 have hh := S2.blk
 have S3 := S2.kh (cs' := #[v, .slice none 0 0]) (e' := T.ag) (w' := (w.setCell ⟨e.p, 0, none⟩ v).setCell ⟨e.p, 1, none⟩ (.slice none 0 0)) (((Fr.refl (fun x => x = e.p) w).setCell (.inl rfl) _ _).setCell (.inl rfl) _ _) (by rw [jz (jz hh)]; rfl)
 exact anm (e := { e with fv := v, lv := .slice none 0 0, iz := l, gx := [] }) ((pq S3).perm ((List.Perm.swap _ _ _).trans (List.Perm.cons _ (List.Perm.swap _ _ _))))
theorem Ow.take {α : Type} {enc : α → List Value} {base : Nat} {et : TypeId} {v : Value} {l : List α} {t : TypeId} (he : ∀ x, (enc x).length = 1) (h : Ow w base et 1 enc v l) (ht : lf P t = true) (hz : szE P t = 1) {n : Nat} (hn : n ≤ l.length) {k : IntKind} :
  ∃ v', Ow w base et 1 enc v' (l.take n) ∧ (∀ g, v'.ownBlock = some g → v.ownBlock = some g) ∧ ∀ w1 K, slT P t v none (some (.int k (n : Int))) none w1 K = K v' w1 := by
 have h' := h
 obtain ⟨h1, h2⟩ := h
 have hlen : (l.take n).length = n := by rw [List.length_take]; omega
 have hfl : (l.take n).flatMap enc = (l.flatMap enc).take (n * 1) := by
  clear h' h1 h2 hlen
  induction l generalizing n with
  | nil => simp
  | cons x l ih =>
   cases n with
   | zero => simp
   | succ n =>
    have := ih (n := n) (by simpa using hn)
    rw [List.take_succ_cons, List.flatMap_cons, this, List.flatMap_cons, List.take_append, he]
    have hx := he x
    have e : (n + 1) * 1 - 1 = n * 1 := by omega
    rw [e, List.take_of_length_le (l := enc x) (by rw [hx]; omega)]
 rcases h2 with ⟨rfl, h0⟩ | ⟨g, cap, cur, rfl, hb0, hb, hc, hr⟩
 ·have : n = 0 := by omega
  subst this
  refine ⟨.slice none 0 0, ?_, fun g hg => hg, fun w1 K => by rw [ws ht (.inl ⟨rfl, rfl⟩) (.inr ⟨k, rfl⟩) (Nat.le_refl _) (Nat.le_refl _)]; simp⟩
  rw [List.take_zero]; exact Ow.none
 ·refine ⟨.slice (some ⟨g, 0, none⟩) n cap, ?_, fun g hg => hg, fun w1 K => ?_⟩
  ·unfold Ow
   rw [hlen, hfl]
   exact awt h' hn
  ·rw [ws ht (.inl ⟨rfl, rfl⟩) (.inr ⟨k, rfl⟩) (Nat.zero_le _) (by omega)]
   simp [Addr.add]
theorem bcg {v : Value} {l : List Int} (S : St w0 w (je v l :: R)) {n : Nat} (hn : n ≤ l.length) : ∃ v', (∀ w1 K, slT P T.c v none (some (.int .i64 (n : Int))) none w1 K = K v' w1) ∧ St w0 w (je v' (l.take n) :: R) := by
 obtain ⟨B, ⟨h1, h2⟩, hB, cl⟩ := S.open
 obtain ⟨v', o, g, f⟩ := Ow.take ij h1 (t := T.c) (by kernel_rfl) (by kernel_rfl) hn (k := .i64)
 exact ⟨v', f, cl w [je v' (l.take n)] (Fr.refl _ _) (Rs.one (B := B) ⟨o, fun b hb => h2 b (g b hb)⟩ fun b hb => .inl hb)⟩
def Dk.lc (D : Dk) (k : Int) : Dk × Int := if D.gc then (D, 10) else match D.get k with
 | none => (D, 11)
 | some f => (D.li k (f.iz ++ f.gx) [], 0)
def Dk.cut (D : Dk) (k n : Int) : Dk × Int := if D.gc then (D, 10) else match D.get k with
 | none => (D, 11)
 | some f => if n < 0 ∨ (f.iz.length + f.gx.length : Nat) < n then (D, 1) else (D.li k ((f.iz ++ f.gx).take n.toNat) [], 0)
def Dk.mu (D : Dk) (k : Int) : Dk × Int := if D.gc then (D, 10) else match D.get k with
 | none => (D, 11)
 | some _ => (D.rem k, 0)
theorem abz (S : St w0 w (fu e.p #[e.fv, e.lv] T.ag :: R)) : fm w e.p 0 = some e.fv ∧ fm w e.p 1 = some e.lv ∧ ∀ i, nt w e.p i = false := by
 have hh := S.blk
 exact ⟨by rw [fo hh]; rfl, by rw [fo hh]; rfl, lb hh⟩
theorem aqn (S : St w0 w (fx hb D :: R)) (k : Int) {K : KV} (h : ∀ w', St w0 w' (fx hb (D.lc k).1 :: R) → K (.int .i64 (D.lc k).2) w') : fe P F.cm [.pointer (some ⟨hb, 0, none⟩), .int .i64 k] w K := by
 obtain ⟨r, m, es, hk, S'⟩ := wj S
 rw [M.dg.fcall]
 apply M.dg.calls
 unfold M.dg
 unfold Dk.lc at h
 refine afq hk S' k (fun hd => ?_) (fun hd hn => ?_) fun hd a e b he hek => ?_
 ·simp [hd] at h ⊢
  exact h w S
 ·rw [hk.aam hn] at h
  simp [hd] at h ⊢
  exact h w S
 ·subst he
  have hl := ur hk
  have hu := hk.gm
  have hr := hk.gp
  rw [← hek, hk.tm] at h
  simp [hd, FE.abs] at h ⊢
  refine aoq (S'.perm (mo hb r m a b e D R)) (by omega) fun w' v S2 => ?_
  have S3 := aki S2
  obtain ⟨x1, x2, hv, _⟩ := S2.row ij
  generalize (e.iz ++ e.gx).length = L at hv
  subst hv
  obtain ⟨c0, c1, fz⟩ := abz (uq S2.swap)
  simp [FE.ptr, c0, c1, fz, gj, gq]
  refine h _ (ym (m := m) (r := r) (es := a ++ { e with fv := .slice x1 L x2, lv := .slice none 0 0, iz := e.iz ++ e.gx, gx := [] } :: b) (hk.li (e' := { e with fv := .slice x1 L x2, lv := .slice none 0 0, iz := e.iz ++ e.gx, gx := [] }) rfl rfl ?_) (S3.perm (mo hb r m a b _ _ R).symm))
  have := abf hk (e.iz ++ e.gx) []
  simp at this ⊢
  omega
theorem bbu (S : St w0 w (fx hb D :: R)) (k n : Int) {K : KV} (h : ∀ w', St w0 w' (fx hb (D.cut k n).1 :: R) → K (.int .i64 (D.cut k n).2) w') : fe P F.dm [.pointer (some ⟨hb, 0, none⟩), .int .i64 k, .int .i64 n] w K := by
 obtain ⟨r, m, es, hk, S'⟩ := wj S
 rw [M.bp.fcall]
 apply M.bp.calls
 unfold M.bp
 unfold Dk.cut at h
 refine afq hk S' k (fun hd => ?_) (fun hd hn => ?_) fun hd a e b he hek => ?_
 ·simp [hd] at h ⊢
  exact h w S
 ·rw [hk.aam hn] at h
  simp [hd] at h ⊢
  exact h w S
 ·subst he
  have hl := ur hk
  have hu := hk.gm
  have hr := hk.gp
  rw [← hek, hk.tm] at h
  simp [hd, FE.abs] at h ⊢
  unfold M.bp.j0
  refine aoq (S'.perm (mo hb r m a b e D R)) (by omega) fun w' v S2 => ?_
  have hlen := fun K => (S2.row ij).ig (P := P) (t := T.c) (ty := T.a) (w := w') (by kernel_rfl) [false] (K := K)
  have hback : St w0 w' (fx hb D :: R) := ym hk (S2.drop.perm (mo hb r m a b e D R).symm)
  by_cases h0 : n < 0
  ·simp [h0] at h ⊢
   exact h w' hback
  ·by_cases h1 : ((e.iz.length : Int) + e.gx.length) < n
   ·simp [h0, h1, hlen] at h ⊢
    exact h w' hback
   ·simp [h0, h1, hlen] at h ⊢
    unfold M.bp.j1
    obtain ⟨v', hs, S3⟩ := bcg (n := n.toNat) S2 (by simp; omega)
    have hn : ((n.toNat : Nat) : Int) = n := by omega
    rw [hn] at hs
    rw [hs]
    have S4 := aki S3
    obtain ⟨x1, x2, hv, _⟩ := S3.row ij
    generalize (List.take n.toNat (e.iz ++ e.gx)).length = L at hv
    subst hv
    obtain ⟨c0, c1, fz⟩ := abz (uq S3.swap)
    simp [FE.ptr, c0, c1, fz, gj, gq]
    refine h _ (ym (m := m) (r := r) (es := a ++ { e with fv := .slice x1 L x2, lv := .slice none 0 0, iz := (e.iz ++ e.gx).take n.toNat, gx := [] } :: b) ?_ (S4.perm (mo hb r m a b _ _ R).symm))
    have := abf hk ((e.iz ++ e.gx).take n.toNat) []
    simp [List.take_append] at this ⊢
    have hh := hk.li (e' := { e with fv := .slice x1 L x2, lv := .slice none 0 0, iz := (e.iz ++ e.gx).take n.toNat, gx := [] }) rfl rfl (by
     simp [List.take_append]
     omega)
    simpa [List.take_append] using hh
theorem akr (S : St w0 w (fx hb D :: R)) (k : Int) {K : KV} (h : ∀ w', St w0 w' (fx hb (D.mu k).1 :: R) → K (.int .i64 (D.mu k).2) w') : fe P F.ce [.pointer (some ⟨hb, 0, none⟩), .int .i64 k] w K := by
 obtain ⟨r, m, es, hk, S'⟩ := wj S
 rw [M.da.fcall]
 apply M.da.calls
 unfold M.da
 unfold Dk.mu at h
 refine afq hk S' k (fun hd => ?_) (fun hd hn => ?_) fun hd a e b he hek => ?_
 ·simp [hd] at h ⊢
  exact h w S
 ·rw [hk.aam hn] at h
  simp [hd] at h ⊢
  exact h w S
 ·subst he
  rw [← hek, hk.tm] at h
  obtain ⟨_, c1, _⟩ := nr (qp S')
  simp [hd, c1] at h ⊢
  refine bcf mt.o (adk S').1 k _ _ _ fun o hm => ?_
  refine h _ (ym (m := vk m e.n) (r := r) (es := a ++ b) hk.rem ?_)
  have S2 : St w0 w (jv r .i64 m :: ase hb r (D.rem e.n) :: ((a ++ b).map uv ++ R)) := ((S'.perm (mo hb r m a b e D R)).drop : St w0 w (ase hb r D :: jv r .i64 m :: ((a ++ b).map uv ++ R))).swap
  obtain ⟨B, ⟨h1, h2⟩, hB, cl⟩ := S2.open
  refine (cl (World.setObj w r o) [jv r .i64 (vk m e.n)] ((Fr.refl B w).setObj (.inl h2) o) (Rs.one (B := B) ⟨⟨?_, ?_⟩, h2⟩ fun b hb => .inl hb)).swap
  ·rw [hek]; exact hm
  ·rw [yu]; exact h1.2.erase _
end
set_option maxRecDepth 100000
open Go.Eng Go.Proofs.YtfnhoaemapheoaaGreat.Sint
def Dk.abj (D : Dk) (k : Int) : Dk := { D with fs := D.fs ++ [⟨k, [], []⟩] }
def Dk.nf (D : Dk) (l : List Int) : List Int := if D.ic then l.take (min (l.length : Int) D.left).toNat else l
def Dk.after (D : Dk) (l : List Int) : Dk := if D.ic then { D with gc := decide (D.left < l.length), left := D.left - (min (l.length : Int) D.left).toNat } else D
def Dk.put (D : Dk) (k : Int) (l : List Int) : Dk := match D.get k with
 | none => ((D.abj k).li k [] (D.nf l)).after l
 | some f => (D.li k f.iz (f.gx ++ D.nf l)).after l
def Dk.append (D : Dk) (k : Int) (l : List Int) : Dk × Int :=
 if D.gc then (D, 10) else if k < 0 ∨ 64 ≤ k then (D, 1) else if D.gp < D.gm + l.length then (D, 9) else (D.put k l, if (D.put k l).gc then 10 else 0)
section
variable {w0 w : World} {hb r : Nat} {m : MP} {es a b : List FE} {D : Dk} {R : List Asn} {e e' : FE}
theorem vq {v v2 : Value} {l l2 : List Int} (S : St w0 w (je v l :: R)) (hs : SlB w v2 l2) (hl : l.length + l2.length ≤ 1000000000) {cs : List Bool} {ty : TypeId} {K : KV} (h : ∀ w' v', St w0 w' (je v' (l ++ l2) :: R) → K v' w') :
  biT P .append #[T.c, T.c] ty cs [v, v2] w K := by
 obtain ⟨B, ⟨h1, h2⟩, hB, cl⟩ := S.open
 refine ww et.c ij vm h1 hs hl (by decide) (Nat.zero_le _) cs fun v' w' o f g => ?_
 refine h w' v' (cl w' [je v' (l ++ l2)] (f.mono fun x _ hx => h2 x hx) (Rs.one (B := fun x => v'.ownBlock = some x) ⟨o, fun b hb => hb⟩ fun x hx => ?_))
 rcases g with g | ⟨y, g1, g2⟩
 ·exact .inl (h2 x (by rw [← g]; exact hx))
 ·rw [hx] at g1; cases g1
  exact .inr ⟨g2, (o.lt hx).2⟩
theorem aot (S : St w0 w (fx hb D :: R)) {K : KV} (h : K (.int .i64 (if D.gc then 10 else 0)) w) : fe P F.bi [.pointer (some ⟨hb, 0, none⟩)] w K := by
 obtain ⟨r, m, es, hk, S'⟩ := wj S
 exact amm (qp S') h
theorem azq (hk : lj m (a ++ e :: b) D) (S : St w0 w (la hb r m (a ++ e :: b) D ++ R)) {v2 : Value} {l2 : List Int} (hs : SlB w v2 l2) (hu : ((D.gm + l2.length : Nat) : Int) ≤ D.gp) {K : KV}
  (h : ∀ w', St w0 w' (fx hb (D.li e.n e.iz (e.gx ++ l2)) :: R) → K (.int .i64 (if D.gc then 10 else 0)) w') : M.ak.j2 [e.ptr] [v2] (.pointer (some ⟨hb, 0, none⟩)) w K := by
 unfold M.ak.j2
 have hl := ur hk
 have hr := hk.gp
 have S1 := uq (S.perm (mo hb r m a b e D R))
 obtain ⟨c0, c1, fz⟩ := abz S1
 obtain ⟨x1, x2, hv, _⟩ := S1.zj.row ij
 have c1' := c1
 rw [hv] at c1'
 simp [FE.ptr, c1']
 rw [← hv]
 refine vq S1.zj hs (by omega) fun w1 v' S2 => ?_
 have S3 := S2.zj.tail (List.Perm.refl _)
 have S4 : St w0 w1 (fu e.p #[e.fv, e.lv] T.ag :: je v' (e.gx ++ l2) :: je e.fv e.iz :: (la hb r m (a ++ b) D ++ R)) := S2.swap
 obtain ⟨d0, d1, fz1⟩ := abz S4
 have hcell : ∃ x y z, v' = .slice x y z := by
  obtain ⟨x, z, hv, _⟩ := S2.row ij
  exact ⟨x, _, z, hv⟩
 obtain ⟨y1, y2, y3, rfl⟩ := hcell
 have hh := S4.blk
 have S5 := S4.kh (cs' := #[e.fv, .slice y1 y2 y3]) (e' := T.ag) (w' := w1.setCell ⟨e.p, 1, none⟩ (.slice y1 y2 y3)) ((Fr.refl (fun x => x = e.p) w1).setCell (.inl rfl) _ _) (by rw [jz hh]; rfl)
 simp [d1, fz1]
 have S6 := anm (e := { e with lv := .slice y1 y2 y3, gx := e.gx ++ l2 }) (S5.tail (.swap _ _ _))
 have hk' := hk.li (e' := { e with lv := .slice y1 y2 y3, gx := e.gx ++ l2 }) rfl rfl (by
  have := abf hk e.iz (e.gx ++ l2)
  simp at this ⊢
  omega)
 have S7 : St w0 (w1.setCell ⟨e.p, 1, none⟩ (.slice y1 y2 y3)) (fx hb (D.li e.n e.iz (e.gx ++ l2)) :: R) := ym (m := m) (r := r) (es := a ++ { e with lv := .slice y1 y2 y3, gx := e.gx ++ l2 } :: b) hk' (S6.perm (mo hb r m a b _ _ R).symm)
 exact aot S7 (h _ S7)
theorem azt (hk : lj m (a ++ e :: b) D) (S : St w0 w (la hb r m (a ++ e :: b) D ++ R)) (hd : D.gc = false) {bv : Value} {l : List Int} (hbs : ∀ w' L, St w0 w' (L ++ R) → SlB w' bv l) (hu : ((D.gm + l.length : Nat) : Int) ≤ D.gp) {K : KV}
  (h : ∀ w', St w0 w' (fx hb ((D.li e.n e.iz (e.gx ++ D.nf l)).after l) :: R) → K (.int .i64 (if ((D.li e.n e.iz (e.gx ++ D.nf l)).after l).gc then 10 else 0)) w') : M.ak.j1 (.pointer (some ⟨hb, 0, none⟩)) bv [e.ptr] w K := by
 unfold M.ak.j1
 have hh := qp S
 have hr := hk.gp
 obtain ⟨_, _, c2, c3, c4, fz⟩ := nr hh
 have hs := hbs w _ S
 have hlen := fun w' K => hs.ig (P := P) (w := w') (t := T.c) (ty := T.a) (by kernel_rfl) [false] (K := K)
 rw [fi]
 cases ha : D.ic with
 | false =>
  rw [ha] at c3
  simp [c3]
  have e1 : D.nf l = l := by unfold Dk.nf; rw [ha]; rfl
  have e2 : (D.li e.n e.iz (e.gx ++ l)).after l = D.li e.n e.iz (e.gx ++ l) := by
   unfold Dk.after
   rw [show (D.li e.n e.iz (e.gx ++ l)).ic = D.ic from rfl, ha]; rfl
  rw [e1, e2] at h
  exact azq hk S hs hu h
 | true =>
  rw [ha] at c3
  obtain ⟨hle, hlt⟩ := hk.arm ha
  have S2 : St w0 ((w.setCell ⟨hb, 4, none⟩ (.bool (decide (D.left < l.length)))).setCell ⟨hb, 2, none⟩ (.int .i64 (D.left - min (l.length : Int) D.left))) (la hb r m (a ++ e :: b) { D with gc := decide (D.left < l.length), left := D.left - min (l.length : Int) D.left } ++ R) :=
   St.kh (cs' := #[.int .i64 D.gp, .map (some r), .int .i64 (D.left - min (l.length : Int) D.left), .bool D.ic, .bool (decide (D.left < l.length))]) (e' := T.af) S (((Fr.refl (fun x => x = hb) w).setCell (.inl rfl) _ _).setCell (.inl rfl) _ _) (by rw [jz (jz hh)]; rfl)
  obtain ⟨v', s', hsub, hsl⟩ := (hbs _ _ S2).sub (P := P) (t := T.c) (lo := none) (hi := some (.int .i64 ((min (l.length : Int) D.left).toNat : Nat))) (i := 0) (j := (min (l.length : Int) D.left).toNat) (by kernel_rfl) (by kernel_rfl) (.inl ⟨rfl, rfl⟩) (.inr ⟨_, rfl⟩) (Nat.zero_le _) (by omega)
  rw [List.drop_zero, Nat.sub_zero] at s'
  have hmin : (((min (l.length : Int) D.left).toNat : Nat) : Int) = min (l.length : Int) D.left := by omega
  have hmlen : (l.take (min (l.length : Int) D.left).toNat).length = (min (l.length : Int) D.left).toNat := by rw [List.length_take]; omega
  rw [hmin] at hsl
  have hlen' := fun w' K => s'.ig (P := P) (w := w') (t := T.c) (ty := T.a) (by kernel_rfl) [false] (K := K)
  rw [hmlen] at hlen'
  have hwr : IntKind.i64.wrap (D.left - min (l.length : Int) D.left) = D.left - min (l.length : Int) D.left := fl (by omega) (by omega)
  simp only [aod]
  simp [c2, c3, c4, fz, hlen, ahg, gj, gq, hsl, hlen', hmin, hwr]
  have e1 : D.nf l = l.take (min (l.length : Int) D.left).toNat := by unfold Dk.nf; rw [ha]; rfl
  have e2 : (D.li e.n e.iz (e.gx ++ D.nf l)).after l = Dk.li { D with gc := decide (D.left < l.length), left := D.left - min (l.length : Int) D.left } e.n e.iz (e.gx ++ l.take (min (l.length : Int) D.left).toNat) := by
   unfold Dk.after
   rw [show (D.li e.n e.iz (e.gx ++ D.nf l)).ic = D.ic from rfl, ha, e1]
   show Dk.mk _ _ _ _ _ = Dk.mk _ _ _ _ _
   congr 1
   show D.left - _ = _
   rw [← hmin]; rfl
  rw [e2] at h
  refine azq (D := { D with gc := decide (D.left < l.length), left := D.left - min (l.length : Int) D.left }) { hk with arm := fun _ => ⟨?_, ?_⟩ } S2 s' ?_ h
  ·show 0 ≤ D.left - min (l.length : Int) D.left; omega
  ·show D.left - min (l.length : Int) D.left < _; omega
  ·show ((D.gm + _ : Nat) : Int) ≤ D.gp
   rw [hmlen]; omega
theorem bac (hk : lj m es D) (S : St w0 w (la hb r m es D ++ R)) {k : Int} (hall : ∀ e ∈ es, e.n ≠ k) (hr : 0 ≤ k ∧ k < 64) :
  lj (pt m k (FE.ptr ⟨k, w.heap.size, .slice none 0 0, .slice none 0 0, [], []⟩)) (es ++ ⟨k, w.heap.size, .slice none 0 0, .slice none 0 0, [], []⟩ :: []) (D.abj k) ∧
  St w0 (w.alloc (.cells #[.slice none 0 0, .slice none 0 0] T.ag)) (uv ⟨k, w.heap.size, .slice none 0 0, .slice none 0 0, [], []⟩ :: (la hb r m es D ++ R)) := by
 have hkn : k ∉ im m := fun h => by
  obtain ⟨e, he, h'⟩ := List.mem_map.1 (hk.kp.mem_iff.1 h)
  exact hall e he h'
 have hmk : im (pt m k (FE.ptr ⟨k, w.heap.size, .slice none 0 0, .slice none 0 0, [], []⟩)) = im m ++ [k] := by rw [aio, if_neg hkn]
 have hml : (pt m k (FE.ptr ⟨k, w.heap.size, .slice none 0 0, .slice none 0 0, [], []⟩)).length = m.length + 1 := by
  have := congrArg List.length hmk
  simpa [im] using this
 refine ⟨⟨?_, ?_, ?_, ?_, ?_, ?_, hk.gp, ?_, ?_, hk.arm⟩, ?_⟩
 ·show D.fs ++ _ = _
  rw [hk.fs]; simp [FE.abs]
 ·rw [hml, hk.ml]; simp
 ·intro x hx
  rw [aax]
  rcases List.mem_append.1 hx with hx | hx
  ·rw [if_neg fun h => hall x hx h.symm]; exact hk.mg x hx
  ·rw [List.mem_singleton] at hx
   subst hx
   rw [if_pos rfl]
 ·intro j hj
  rw [aax, if_neg (c := k = j) fun h => hj ⟨k, w.heap.size, .slice none 0 0, .slice none 0 0, [], []⟩ (by simp) h]
  exact hk.mz j fun e he => hj e (by simp [he])
 ·rw [List.map_append, List.nodup_append]
  refine ⟨hk.tn, by simp, ?_⟩
  rintro x hx y hy rfl
  obtain ⟨e, he, rfl⟩ := List.mem_map.1 hx
  simp at hy
  exact hall e he hy
 ·rw [hmk, List.map_append]
  exact hk.kp.append_right _
 ·have : (D.abj k).gm = D.gm := by unfold Dk.abj Dk.gm; simp [Fil.len]
  rw [this]; exact hk.gm
 ·intro x hx
  rcases List.mem_append.1 hx with hx | hx
  ·exact hk.rng x hx
  ·rw [List.mem_singleton] at hx
   subst hx
   exact hr
 ·have S1 : St w0 (w.alloc (.cells #[.slice none 0 0, .slice none 0 0] T.ag)) (fu w.heap.size #[.slice none 0 0, .slice none 0 0] T.ag :: (la hb r m es D ++ R)) :=
   S.add ((Fr.refl _ w).alloc _) (B := fun x => x = w.heap.size) ⟨by rw [ga, if_pos rfl], rfl⟩ fun x hx => by subst hx; rw [ii]; omega
  exact anm (e := ⟨k, w.heap.size, .slice none 0 0, .slice none 0 0, [], []⟩) ((pq (pq S1)).zj)
theorem aks (S : St w0 w (fx hb D :: R)) (k : Int) {bv : Value} {l : List Int} (hbs : ∀ w' L, St w0 w' (L ++ R) → SlB w' bv l) (hl : l.length ≤ 1000000000) {K : KV}
  (h : ∀ w', St w0 w' (fx hb (D.append k l).1 :: R) → K (.int .i64 (D.append k l).2) w') : fe P F.cf [.pointer (some ⟨hb, 0, none⟩), .int .i64 k, bv] w K := by
 rw [M.ak.fcall]
 apply M.ak.calls
 unfold M.ak
 unfold Dk.append at h
 refine aot S ?_
 cases hd : D.gc with
 | true => simp [hd] at h ⊢; exact h w S
 | false =>
 by_cases h0 : k < 0
 ·simp [hd, h0] at h ⊢; exact h w S
 by_cases h1 : 64 ≤ k
 ·simp [hd, h0, h1] at h ⊢; exact h w S
 have hlen := fun w' K L (S' : St w0 w' (L ++ R)) => (hbs w' L S').ig (P := P) (w := w') (t := T.c) (ty := T.a) (by kernel_rfl) [false] (K := K)
 obtain ⟨r, m, es, hk, S'⟩ := wj S
 obtain ⟨a1, k1, hbv, _⟩ := hbs w _ S'
 have hh := qp S'
 obtain ⟨c0, _⟩ := nr hh
 have hlen1 := fun w' K => (hbs w _ S').ig (P := P) (w := w') (t := T.c) (ty := T.a) (by kernel_rfl) [false] (K := K)
 have hr := hk.gp
 have hu0 := hk.gm
 simp [hd, h0, h1, c0, hlen1]
 refine azy hk (S'.iq ((Fr.refl _ w).dr 1)) fun w1 S1 => ?_
 obtain ⟨c0, c1, _⟩ := nr (qp S1)
 have hw : IntKind.i64.wrap ((D.gm : Int) + l.length) = (D.gm : Int) + l.length := fl (by omega) (by omega)
 simp [c0, hw]
 by_cases h2 : D.gp < D.gm + l.length
 ·simp [h2]
  simp [hd, h0, h1, h2] at h
  exact h w1 (ym hk S1)
 simp [h2]
 simp [hd, h0, h1, h2] at h
 unfold M.ak.j0
 simp [c1]
 rw [zc mt.o (adk S1).1]
 unfold Dk.put at h
 rcases hk.bcr k with ⟨hn, hall⟩ | ⟨a, e, b, he, hek, hg⟩
 ·rw [hk.aam hall] at h
  rw [hn]
  have c1' : ∀ o, fm (w1.alloc o) hb 1 = some (.map (some r)) := fun o => by
   have hlt := (Array.getElem?_eq_some_iff.1 (qp S1)).1; exact (um (w := w1) (w' := w1.alloc o) (b := hb) (by rw [ga, if_neg (by omega)]) 1).trans c1
  simp [c1']
  obtain ⟨hk2, S2⟩ := bac hk S1 hall (by omega)
  have S3 := S2
  refine ama mt.o (w := w1.alloc (.cells #[.slice none 0 0, .slice none 0 0] T.ag)) (r := r) (m := m) ?_ k _ _ fun o hm => ?_
  ·exact (adk S2.drop).1
  obtain ⟨B, ⟨h1, h2⟩, hB, cl⟩ := S2.zj.open
  have S4 := cl (World.setObj (w1.alloc (.cells #[.slice none 0 0, .slice none 0 0] T.ag)) r o) [jv r .i64 (pt m k (FE.ptr ⟨k, w1.heap.size, .slice none 0 0, .slice none 0 0, [], []⟩))] ((Fr.refl B _).setObj (.inl h2) o) (Rs.one (B := B) ⟨⟨hm, hk2.nd⟩, h2⟩ fun b hb => .inl hb)
  have S5 : St w0 (World.setObj (w1.alloc (.cells #[.slice none 0 0, .slice none 0 0] T.ag)) r o) (la hb r (pt m k (FE.ptr ⟨k, w1.heap.size, .slice none 0 0, .slice none 0 0, [], []⟩)) (es ++ ⟨k, w1.heap.size, .slice none 0 0, .slice none 0 0, [], []⟩ :: []) (D.abj k) ++ R) := by
   refine St.perm S4 (List.Perm.trans ?_ (mo hb r _ es [] ⟨k, w1.heap.size, .slice none 0 0, .slice none 0 0, [], []⟩ (D.abj k) R).symm)
   rw [List.append_nil]
   exact (List.Perm.swap _ _ _).trans (List.Perm.cons _ (List.Perm.swap _ _ _))
  exact azt (e := ⟨k, w1.heap.size, .slice none 0 0, .slice none 0 0, [], []⟩) hk2 S5 hd hbs (by
   have : (D.abj k).gm = D.gm := by unfold Dk.abj Dk.gm; simp [Fil.len]
   rw [this]
   show _ ≤ D.gp
   omega) h
 ·subst he
  rw [← hek, hk.tm] at h
  rw [hg]
  simp [FE.ptr]
  exact azt hk S1 hd hbs (by omega) h
end
set_option maxRecDepth 100000
open Go.Eng Go.Proofs.YtfnhoaemapheoaaGreat.Sint
def vx (kl : List Int) (i len : Nat) : Nat := (max 0 (min (kl.getD i 0) (len : Int))).toNat
def aap (kl : List Int) (D : Dk) (k : Int) (i : Nat) : Dk := match D.get k with
 | none => D
 | some f => D.li k (f.iz ++ f.gx.take (vx kl i f.gx.length)) []
def crN (kl : List Int) (D : Dk) (F : List Int) : Nat → Dk
 | 0 => D
 | i + 1 => aap kl (crN kl D F i) (F.getD i 0) i
def Dk.qm (D : Dk) (kl : List Int) : Dk := { crN kl D D.gr D.gr.length with ic := false, gc := false }
section
variable {w0 w : World} {hb r : Nat} {m : MP} {es a b : List FE} {D : Dk} {R : List Asn} {e e' : FE}
theorem avs (D : Dk) (k : Int) (fa lo : List Int) : (D.li k fa lo).nn = D.nn := by
 unfold Dk.nn Dk.li
 rw [List.map_map]
 refine List.map_congr_left fun f hf => ?_
 show (if f.n = k then (⟨k, fa, lo⟩ : Fil) else f).n = f.n
 split
 ·rename_i h; exact h.symm
 ·rfl
theorem apm (kl : List Int) (D : Dk) (k : Int) (i : Nat) : (aap kl D k i).nn = D.nn := by
 unfold aap
 split
 ·rfl
 ·exact avs ..
theorem amf (kl : List Int) (D : Dk) (F : List Int) : ∀ i, (crN kl D F i).nn = D.nn
 | 0 => rfl
 | i + 1 => (apm kl _ _ _).trans (amf kl D F i)
theorem bbx (hk : lj m (a ++ e :: b) D) (S : St w0 w (la hb r m (a ++ e :: b) D ++ R)) {n : Nat} (hn : n ≤ e.gx.length) {x2 : List Value} {t17 : Value} {K4 : KL} {K : KV}
  (h : ∀ w', St w0 w' (fx hb (D.li e.n (e.iz ++ e.gx.take n) []) :: R) → K4 [gv x2 4, t17, e.ptr, .int .i64 (n : Int)] w') : M.ar.j5 e.ptr [.int .i64 (n : Int)] K4 x2 t17 w K := by
 unfold M.ar.j5
 have hl := ur hk
 have hu := hk.gm
 have hr := hk.gp
 have S1 := S.perm (mo hb r m a b e D R)
 have S2 := uq S1
 obtain ⟨c0, c1, fz⟩ := abz S2
 have s1 : SlB w e.fv e.iz := S2.swap.row ij
 have s2 : SlB w e.lv e.gx := S2.zj.row ij
 obtain ⟨v', s', hsub, hsl⟩ := s2.sub (P := P) (t := T.c) (lo := none) (hi := some (.int .i64 (n : Int))) (i := 0) (j := n) (by kernel_rfl) (by kernel_rfl) (.inl ⟨rfl, rfl⟩) (.inr ⟨_, rfl⟩) (Nat.zero_le _) hn
 rw [List.drop_zero, Nat.sub_zero] at s'
 obtain ⟨a1, k1, hv1, _⟩ := id s1
 obtain ⟨a2, k2, hv2, _⟩ := id s2
 obtain ⟨a3, k3, hv3, _⟩ := id s'
 have c0' := c0
 have c1' := c1
 rw [hv1] at c0'
 rw [hv2] at c1' hsl
 rw [hv3] at hsl
 simp [FE.ptr, c0', c1', hsl]
 rw [← hv1]
 have hmin : (List.take n e.gx).length = min n e.gx.length := by simp
 rw [← hmin, ← hv3]
 have hbl : ((Eng.dr w 1).alloc (.cells #[e.fv, v'] T.c)).heap[w.heap.size]? = some (.cells (([(e.fv, e.iz), (v', e.gx.take n)] : List (Value × List Int)).map (·.1)).toArray T.c (0, 0)) := by
  rw [ga, if_pos (by simp)]; rfl
 have f1 : Fr (fun _ => False) w ((Eng.dr w 1).alloc (.cells #[e.fv, v'] T.c)) := ((Fr.refl _ w).dr 1).alloc _
 rw [M.u.fcall]
 refine CB.xz (L := [(e.fv, e.iz), (v', e.gx.take n)]) hbl (fun p hp => ?_) (by simp [CB.tot]; omega) (by simp) fun w' v o f2 => ?_
 ·simp at hp
  rcases hp with rfl | rfl
  ·exact s1.fr f1 fun _ _ _ h => h
  ·exact s'.fr f1 fun _ _ _ h => h
 ·have hs : w.heap.size ≤ ((Eng.dr w 1).alloc (.cells #[e.fv, v'] T.c)).heap.size := f1.size
  have S3 : St w0 w' (je v (e.iz ++ e.gx.take n) :: uv e :: (la hb r m (a ++ b) D ++ R)) := S1.add (a := je v (e.iz ++ e.gx.take n)) (f1.trans f2) (B := fun b => v.ownBlock = some b) ⟨by simpa using o.mono (Nat.zero_le _), fun b hb => hb⟩ fun b hb => by
   have := o.lt hb
   exact ⟨by omega, this.2⟩
  have S4 := aki S3
  obtain ⟨d0, d1, fz1⟩ := abz (uq S3.swap)
  obtain ⟨y1, y2, hv, _⟩ := S3.row ij
  generalize (e.iz ++ e.gx.take n).length = L at hv
  subst hv
  simp [d0, d1, fz1, gj, gq]
  refine h _ (ym (m := m) (r := r) (es := a ++ { e with fv := .slice y1 L y2, lv := .slice none 0 0, iz := e.iz ++ e.gx.take n, gx := [] } :: b) (hk.li (e' := { e with fv := .slice y1 L y2, lv := .slice none 0 0, iz := e.iz ++ e.gx.take n, gx := [] }) rfl rfl ?_) (S4.perm (mo hb r m a b _ _ R).symm))
  have := abf hk (e.iz ++ e.gx.take n) []
  simp at this ⊢
  omega
def CrI (w0 : World) (hb : Nat) (D : Dk) (kl : List Int) (R : List Asn) (v : Value) : KL := fun x w1 => ∃ (u0 u1 u2 u3 : Value) (i : Nat), x = [u0, u1, u2, u3, .int .i64 (i : Nat)] ∧ i ≤ D.gr.length ∧ St w0 w1 (pd v D.gr :: fx hb (crN kl D D.gr i) :: R)
theorem axt (S : St w0 w (fx hb D :: R)) {kv : Value} {kl : List Int} (hks : ∀ w' L, St w0 w' (L ++ R) → Sl w' 1 qk kv kl) {K : KV}
  (h : ∀ w', St w0 w' (fx hb (D.qm kl) :: R) → K (.tuple #[]) w') : fe P F.cw [.pointer (some ⟨hb, 0, none⟩), kv] w K := by
 rw [M.ar.fcall]
 apply M.ar.calls
 unfold M.ar
 simp
 unfold M.ar.j0
 rw [fi]
 obtain ⟨r0, m0, es0, hk0, S0⟩ := wj S
 have hfl : D.gr.length ≤ 64 := by
  have := hk0.few
  unfold Dk.gr
  rw [(mq _).length_eq, hk0.nn, List.length_map]; exact this
 refine ahn hk0 S0 fun w1 v S1 => ?_
 have S1' : St w0 w1 (pd v D.gr :: fx hb D :: R) := ((ym hk0 (S1.perm List.perm_middle.symm)) : St w0 w1 (fx hb D :: (pd v D.gr :: R))).swap
 have hsl : ∀ {w i}, St w0 w (pd v D.gr :: fx hb (crN kl D D.gr i) :: R) → Sl w 1 qk v D.gr := fun S => S.row te
 rw [(hsl (i := 0) S1').ig (by simp)]
 refine ⟨CrI w0 hb D kl R v, fun x _ => D.gr.length - ms x 4, ⟨_, _, _, _, 0, rfl, Nat.zero_le _, S1'⟩, ?_⟩
 rintro x w2 ⟨u0, u1, u2, u3, i, rfl, hi, S2⟩
 have q : ∀ a b c d e : Value, gv [a, b, c, d, e] 4 = e := fun _ _ _ _ _ => rfl
 simp only [q, jy, fi]
 by_cases hil : i < D.gr.length
 ·have hil' : (i : Int) < D.gr.length := by omega
  simp only [hil', decide_true, Eng.cond_true]
  unfold M.ar.j3
  obtain ⟨bb, o, cap, hv, hbb, _, hc⟩ := (hsl S2).at hil
  have c0 := hc 0 _ rfl
  simp only [Nat.mul_one, Nat.add_zero] at c0
  have hmem : D.gr[i] ∈ D.gr := List.getElem_mem hil
  have hnext : crN kl D D.gr (i + 1) = aap kl (crN kl D D.gr i) D.gr[i] i := by
   show aap kl _ (D.gr.getD i 0) i = _
   rw [List.getD_eq_getElem?_getD, List.getElem?_eq_getElem hil]; rfl
  have hmem' : D.gr[i] ∈ (crN kl D D.gr i).nn := by
   rw [amf]; exact (mq _).mem_iff.1 hmem
  obtain ⟨r, m, es, hk, S3⟩ := wj S2.swap
  generalize hD : crN kl D D.gr i = D1 at *
  generalize hki : D.gr[i] = k at *
  rw [hk.nn] at hmem'
  obtain ⟨e, he, hek⟩ := List.mem_map.1 hmem'
  obtain ⟨a, b, hab⟩ := List.append_of_mem he
  subst hab
  obtain ⟨_, c1, _⟩ := nr (qp S3)
  have hg := hk.mg e (by simp)
  have hlu : ∀ K, luT P T.o (.map (some r)) (.int .i64 k) false w2 K = K e.ptr w2 := fun K => by
   rw [zc mt.o (adk S3).1, ← hek, hg]; rfl
  obtain ⟨hbk, s1, s2⟩ := aua (a := a) (e := e) (b := b) S3
  have d1 : fm w2 e.p 1 = some e.lv := by rw [fo hbk]; rfl
  have hlenl := fun w' K => s2.ig (P := P) (w := w') (t := T.c) (ty := T.a) (by kernel_rfl) [false] (K := K)
  have hks2 := hks w2 (pd v D.gr :: [fx hb D1]) S2
  have hlenk := fun w' K => hks2.ig (P := P) (w := w') (t := T.h) (ty := T.a) (by kernel_rfl) [false] (K := K)
  obtain ⟨a2, k2, hv2, _⟩ := id s2
  have d1' := d1
  rw [hv2] at d1' hlenl
  have hwi : IntKind.i64.wrap ((i : Int) + 1) = ((i + 1 : Nat) : Int) := by rw [fl (by omega) (by omega)]; rfl
  have hst : crN kl D D.gr (i + 1) = D1.li e.n (e.iz ++ e.gx.take (vx kl i e.gx.length)) [] := by
   rw [hnext]
   unfold aap
   rw [← hek, hk.tm]; rfl
  have fin : ∀ w' y0 y1 y2 y3, St w0 w' (fx hb (D1.li e.n (e.iz ++ e.gx.take (vx kl i e.gx.length)) []) :: pd v D.gr :: R) → CrI w0 hb D kl R v [y0, y1, y2, y3, .int .i64 ((i + 1 : Nat) : Int)] w' ∧ D.gr.length - ms [y0, y1, y2, y3, .int .i64 ((i + 1 : Nat) : Int)] 4 < D.gr.length - ms [u0, u1, u2, u3, .int .i64 (i : Nat)] 4 := fun w' y0 y1 y2 y3 S' => ⟨⟨_, _, _, _, i + 1, rfl, by omega, by rw [hst]; exact S'.swap⟩, by simp only [ms, q]; simp; omega⟩
  rw [hv]
  by_cases hik : i < kl.length
  ·have hik' : (i : Int) < kl.length := by omega
   obtain ⟨bk, ok, capk, hkv, hbk2, _, hck⟩ := hks2.at hik
   have ck := hck 0 _ rfl
   simp only [Nat.mul_one, Nat.add_zero] at ck
   have hsty : ((vx kl i e.gx.length : Nat) : Int) = max 0 (min kl[i] (e.gx.length : Int)) := by
    unfold vx
    rw [List.getD_eq_getElem?_getD, List.getElem?_eq_getElem hik]
    simp only [Option.getD_some]
    omega
   simp [q, hil, c0, c1, hlu, hlenk, hik]
   rw [hkv]
   simp [hik, ck, FE.ptr, d1', hlenl, ahg, ayn, ← hsty]
   have S4 := S3.iq ((Fr.refl _ w2).dr 1)
   refine bbx (n := vx kl i e.gx.length) (R := pd v D.gr :: R) hk S4 (by omega) fun w' S' => ?_
   rw [← hv]
   have := fin w' (gv [u0, u1, u2, u3, .int .i64 (i : Nat)] 4) (.int .i64 k) e.ptr (.int .i64 (vx kl i e.gx.length : Nat)) S'
   rw [hwi]
   exact this
  ·have hik' : ¬ (i : Int) < kl.length := by omega
   have hst0 : vx kl i e.gx.length = 0 := by
    unfold vx
    rw [List.getD_eq_getElem?_getD, List.getElem?_eq_none (by omega)]
    simp only [Option.getD_none]
    omega
   rw [hst0] at fin
   simp [q, hil, c0, c1, hlu, hlenk, hik]
   refine bbx (n := 0) (R := pd v D.gr :: R) hk S3 (by omega) fun w' S' => ?_
   rw [← hv]
   have := fin w' (gv [u0, u1, u2, u3, .int .i64 (i : Nat)] 4) (.int .i64 k) e.ptr (.int .i64 (0 : Nat)) S'
   rw [hwi]
   exact this
 ·have hil' : ¬ (i : Int) < D.gr.length := by omega
  simp only [hil', decide_false, Eng.cond_false]
  have hii : i = D.gr.length := by omega
  subst hii
  obtain ⟨r, m, es, hk, S3⟩ := wj S2.drop
  obtain ⟨_, _, _, c3, c4, fz⟩ := nr (qp S3)
  have hh := qp S3
  simp [c3, c4, fz, gj, gq]
  refine h _ (ym (r := r) (m := m) (es := es) (D := D.qm kl) { hk with arm := fun h => by cases h } (St.kh (cs' := #[.int .i64 (crN kl D D.gr D.gr.length).gp, .map (some r), .int .i64 (crN kl D D.gr D.gr.length).left, .bool false, .bool false]) (e' := T.af) S3 (((Fr.refl (fun x => x = hb) w2).setCell (.inl rfl) _ _).setCell (.inl rfl) _ _) ?_))
  rw [jz (jz hh)]; rfl
end
set_option maxRecDepth 100000
open Go.Eng Go.Proofs.YtfnhoaemapheoaaGreat.Sint
section
variable {w0 w : World} {hb : Nat} {D : Dk} {R : List Asn}
theorem bai (S : St w0 w (fx hb D :: R)) (k : Int) {K : KV} (h : ∀ w' v, St w0 w' (je v (D.jp k).1 :: fx hb D :: R) → K (.tuple #[v, .int .i64 (D.jp k).2]) w') : fe P F.cn [.pointer (some ⟨hb, 0, none⟩), .int .i64 k] w K := by
 obtain ⟨r, m, es, hk, S'⟩ := wj S
 exact baa hk S' k fun w' v S2 => h w' v (ym hk (S2.perm List.perm_middle.symm) : St w0 w' (fx hb D :: (je v (D.jp k).1 :: R))).swap
theorem ayl (S : St w0 w (fx hb D :: R)) {K : KV} (h : ∀ w' v, St w0 w' (pd v D.gr :: fx hb D :: R) → K v w') : fe P F.bh [.pointer (some ⟨hb, 0, none⟩)] w K := by
 obtain ⟨r, m, es, hk, S'⟩ := wj S
 exact ahn hk S' fun w' v S2 => h w' v (ym hk (S2.perm List.perm_middle.symm) : St w0 w' (fx hb D :: (pd v D.gr :: R))).swap
theorem ach (S : St w0 w (fx hb D :: R)) {K : KV} (h : K (.bool D.gc) w) : fe P F.aq [.pointer (some ⟨hb, 0, none⟩)] w K := by
 obtain ⟨r, m, es, hk, S'⟩ := wj S
 exact aya S' h
end
end Go.Proofs.YtfnhoaemapheoaaGreat
set_option maxRecDepth 100000
namespace Go.Eng
section
variable {P : Program} {x : Int} {w : World} {K : KV}
theorem axh : unT P .neg (.int .u32 x) w K = K (.int .u32 (IntKind.u32.wrap (0 - x))) w := by
 simp [unT, gy, Op.unary, Op.intArith, Sem.run_pure]
theorem ayq : unT P .xor (.int .u32 x) w K = K (.int .u32 (IntKind.u32.wrap (BitVec.ofInt IntKind.u32.bits IntKind.u32.max ^^^ BitVec.ofInt IntKind.u32.bits x).toNat)) w := by
 have e : (if IntKind.u32.signed = true then (-1 : Int) else IntKind.u32.max) = IntKind.u32.max := if_neg (by decide)
 unfold unT gy
 simp only [Op.unary, e, Op.intBits, Sem.run_pure]
end
end Go.Eng
namespace Go.Proofs.YtfnhoaemapheoaaGreat
open Go.Eng Go.Proofs.YtfnhoaemapheoaaGreat.Sint
def amy (a b : Int) : Int := IntKind.u32.wrap (BitVec.ofInt IntKind.u32.bits a ^^^ BitVec.ofInt IntKind.u32.bits b).toNat
def axf (a b : Int) : Int := IntKind.u32.wrap (BitVec.ofInt IntKind.u32.bits a &&& BitVec.ofInt IntKind.u32.bits b).toNat
def orE (a b : Int) : Int := IntKind.u32.wrap (BitVec.ofInt IntKind.u32.bits a ||| BitVec.ofInt IntKind.u32.bits b).toNat
def orL (a b : Int) : Int := IntKind.u64.wrap (BitVec.ofInt IntKind.u64.bits a ||| BitVec.ofInt IntKind.u64.bits b).toNat
def ahr (a : Int) : Int := amy IntKind.u32.max a
def zm (r : Int) : Int := amy (r.fdiv (2 ^ min (1 : Int).toNat IntKind.u32.bits)) (axf 3988292384 (IntKind.u32.wrap (0 - axf r 1)))
def qw (f : Int → Int) : Nat → Int → Int
 | 0, r => r
 | n + 1, r => f (qw f n r)
def aci (r : Int) (c : Int) : Int := qw zm 8 (amy r (IntKind.u32.wrap c))
def xy (l : List Int) : Int := ahr (l.foldl aci (ahr 0))
theorem ala {t : TypeId} {rx ry : Operand} {x y : Int} {w : World} {K : KV} : fc P .xor t rx ry (.int .u32 x) (.int .u32 y) w K = K (.int .u32 (amy x y)) w := aqf
theorem alh {t : TypeId} {rx ry : Operand} {x y : Int} {w : World} {K : KV} : fc P .and t rx ry (.int .u32 x) (.int .u32 y) w K = K (.int .u32 (axf x y)) w := ajg
theorem ayt {t : TypeId} {rx ry : Operand} {x y : Int} {w : World} {K : KV} : fc P .or t rx ry (.int .u32 x) (.int .u32 y) w K = K (.int .u32 (orE x y)) w := awb
theorem ayr {t : TypeId} {rx ry : Operand} {x y : Int} {w : World} {K : KV} : fc P .or t rx ry (.int .u64 x) (.int .u64 y) w K = K (.int .u64 (orL x y)) w := awb
theorem anc {x : Int} {w : World} {K : KV} : unT P .xor (.int .u32 x) w K = K (.int .u32 (ahr x)) w := ayq
def StI (w : World) (r : Int) (n : Nat) : KL := fun x w1 => ∃ (i : Nat), x = [.int .u32 (qw zm i r), .int .i64 (i : Nat)] ∧ w1 = w ∧ i ≤ n
theorem axi {w : World} {r : Int} {n : Nat} (hn : n ≤ 1000000) {K : KV} (h : K (.int .u32 (qw zm n r)) w) : fe P F.eg [.int .u32 r, .int .i64 (n : Nat)] w K := by
 rw [M.dz.fcall]
 apply M.dz.calls
 unfold M.dz
 rw [fi]
 refine ⟨StI w r n, fun x _ => n - ms x 1, ⟨0, rfl, rfl, Nat.zero_le _⟩, ?_⟩
 rintro x w1 ⟨i, rfl, rfl, hi⟩
 have q0 : gv [.int .u32 (qw zm i r), .int .i64 (i : Nat)] 0 = .int .u32 (qw zm i r) := rfl
 have q1 : gv [.int .u32 (qw zm i r), .int .i64 (i : Nat)] 1 = .int .i64 (i : Nat) := rfl
 simp only [q0, q1, fi]
 by_cases hil : i < n
 ·have hil' : (i : Int) < n := by omega
  have hwi : IntKind.i64.wrap ((i : Int) + 1) = ((i + 1 : Nat) : Int) := by rw [fl (by omega) (by omega)]; rfl
  simp [hil']
  unfold M.dz.j2
  simp only [q0, q1, fi]
  rw [acg (by omega), alh, axh, alh, ala, iw, hwi]
  exact ⟨⟨i + 1, rfl, rfl, by omega⟩, by simp [ms, gv]; omega⟩
 ·have hil' : ¬ (i : Int) < n := by omega
  have he : i = n := by omega
  subst he
  simp
  exact h
def MoI (w : World) (l : List Int) (s : Int) : KL := fun x w1 => ∃ (u : Value) (i : Nat), x = [u, .int .u32 ((l.take i).foldl aci (ahr s)), .int .i64 (i : Nat)] ∧ w1 = w ∧ i ≤ l.length
theorem avk {w : World} {v : Value} {l : List Int} (hs : SlB w v l) (hl : l.length ≤ 1000000000) {K : KV} (h : K (.int .u32 (xy l)) w) : fe P F.ei [v] w K := by
 rw [M.ej.fcall]
 apply M.ej.calls
 unfold M.ej
 rw [M.ed.fcall]
 apply M.ed.calls
 unfold M.ed
 rw [anc, fi, hs.ig (by kernel_rfl)]
 refine ⟨MoI w l 0, fun x _ => l.length - ms x 2, ⟨_, 0, rfl, rfl, Nat.zero_le _⟩, ?_⟩
 rintro x w1 ⟨u, i, rfl, rfl, hi⟩
 generalize hf : (l.take i).foldl aci (ahr 0) = f
 have q0 : gv [u, .int .u32 f, .int .i64 (i : Nat)] 0 = u := rfl
 have q1 : gv [u, .int .u32 f, .int .i64 (i : Nat)] 1 = .int .u32 f := rfl
 have q2 : gv [u, .int .u32 f, .int .i64 (i : Nat)] 2 = .int .i64 (i : Nat) := rfl
 simp only [q2, fi]
 by_cases hil : i < l.length
 ·have hil' : (i : Int) < l.length := by omega
  have hwi : IntKind.i64.wrap ((i : Int) + 1) = ((i + 1 : Nat) : Int) := by rw [fl (by omega) (by omega)]; rfl
  obtain ⟨b, o, cap, hv, _, _, hc⟩ := hs.at hil
  have c0 := hc 0 _ rfl
  simp only [Nat.mul_one, Nat.add_zero] at c0
  have htk : (l.take (i + 1)).foldl aci (ahr 0) = aci f l[i] := by
   rw [List.take_succ_eq_append_getElem hil, List.foldl_append, hf]; rfl
  generalize l[i] = c at *
  simp [hil']
  unfold M.ed.j2
  simp only [q1, q2, fi]
  rw [hv]
  simp [hil, c0]
  rw [km (ks := .u8) (kd := .u32) (by kernel_rfl) (by kernel_rfl), ala]
  refine axi (n := 8) (by omega) ?_
  rw [hwi]
  exact ⟨⟨.int .u8 c, i + 1, by rw [htk]; rfl, rfl, by omega⟩, by simp [ms, gv]; omega⟩
 ·have hil' : ¬ (i : Int) < l.length := by omega
  simp [hil']
  rw [List.take_of_length_le (by omega)] at hf
  have q4 : gv [v, .int .i64 (l.length : Nat), .int .i64 (i : Nat), u, .int .u32 f] 4 = .int .u32 f := rfl
  try simp only [q0, q1, q4]
  rw [anc, ← hf]
  exact h
def b8 (x : Int) : Int := IntKind.u8.wrap x
def s8 (x : Int) : Int := x.fdiv (2 ^ min (8 : Int).toNat IntKind.u32.bits)
def sw (n : Int) : List Int := (List.range 4).map fun i => b8 (qw s8 i n)
section
variable {w0 w : World} {R : List Asn} {v : Value} {l : List Int}
theorem ayx (S : St w0 w R) (x : Int) : St w0 (w.alloc (.cells #[.int .u8 x] T.ap)) (je (.slice (some ⟨w.heap.size, 0, none⟩) 1 1) [x] :: R) := St.acs (l := [x]) S ij rfl (by unfold maxLen; simp)
def P3I (w0 : World) (l : List Int) (n : Int) (R : List Asn) : KL := fun x w1 => ∃ (v : Value) (i : Nat), x = [v, .int .u32 (qw s8 i n), .int .i64 (i : Nat)] ∧ i ≤ 4 ∧ St w0 w1 (je v (l ++ (sw n).take i) :: R)
theorem pm (n : Int) : (sw n).length = 4 := by simp [sw]
theorem asr (n : Int) {i : Nat} (hi : i < 4) : (sw n).take (i + 1) = (sw n).take i ++ [b8 (qw s8 i n)] := by
 rw [List.take_succ_eq_append_getElem (by rw [pm]; exact hi)]
 simp [sw]
theorem anf (S : St w0 w (je v l :: R)) (hl : l.length ≤ 100000000) (n : Int) {K : KV} (h : ∀ w' v', St w0 w' (je v' (l ++ sw n) :: R) → K v' w') : fe P F.dx [v, .int .u32 n] w K := by
 rw [M.dy.fcall]
 apply M.dy.calls
 unfold M.dy
 rw [fi]
 refine ⟨P3I w0 l n R, fun x _ => 4 - ms x 2, ⟨v, 0, rfl, by omega, by simpa using S⟩, ?_⟩
 rintro x w1 ⟨v, i, rfl, hi, S⟩
 have q0 : gv [v, .int .u32 (qw s8 i n), .int .i64 (i : Nat)] 0 = v := rfl
 have q1 : gv [v, .int .u32 (qw s8 i n), .int .i64 (i : Nat)] 1 = .int .u32 (qw s8 i n) := rfl
 have q2 : gv [v, .int .u32 (qw s8 i n), .int .i64 (i : Nat)] 2 = .int .i64 (i : Nat) := rfl
 simp only [q2, fi]
 by_cases hil : i < 4
 ·have hil' : (i : Int) < 4 := by omega
  have hwi : IntKind.i64.wrap ((i : Int) + 1) = ((i + 1 : Nat) : Int) := by rw [fl (by omega) (by omega)]; rfl
  simp [hil']
  unfold M.dy.j2
  simp only [q0, q1, q2, fi]
  rw [km (ks := .u32) (kd := .u8) (by kernel_rfl) (by kernel_rfl)]
  simp
  have S1 := ayx S (b8 (qw s8 i n))
  refine Go.Eng.vq et.c ij vm S1.swap (l2 := [b8 (qw s8 i n)]) (S1.row ij) (by simp [pm]; omega) (by decide) fun w2 v2 S2 => ?_
  rw [acg (by omega), hwi]
  refine ⟨⟨v2, i + 1, rfl, by omega, ?_⟩, by simp [ms, gv]; omega⟩
  rw [asr n hil, ← List.append_assoc]
  exact S2.swap.drop
 ·have hil' : ¬ (i : Int) < 4 := by omega
  have he : i = 4 := by omega
  subst he
  simp
  rw [List.take_of_length_le (by rw [pm]; omega)] at S
  exact h w1 v S
def shE (c : Int) (i : Nat) : Int := IntKind.u32.wrap (IntKind.u32.wrap c * 2 ^ min (8 * i) IntKind.u32.bits)
def yo (l : List Int) : Nat → Int
 | 0 => 0
 | i + 1 => orE (yo l i) (shE (l.getD i 0) i)
def uw (l : List Int) : Int := yo l 4
def U3I (w : World) (l : List Int) : KL := fun x w1 => ∃ (u0 u1 : Value) (i : Nat), x = [u0, u1, .int .u32 (yo l i), .int .i64 (i : Nat)] ∧ w1 = w ∧ i ≤ 4
theorem ava (hs : SlB w v l) (hl : 4 ≤ l.length) {K : KV} (h : K (.int .u32 (uw l)) w) : fe P F.ej [v] w K := by
 rw [M.eh.fcall]
 apply M.eh.calls
 unfold M.eh
 obtain ⟨v', s', _, hsub⟩ := hs.sub (P := P) (t := T.c) (lo := none) (hi := some (.int .i64 (4 : Nat))) (i := 0) (j := 4) (by kernel_rfl) (by kernel_rfl) (.inl ⟨rfl, rfl⟩) (.inr ⟨_, rfl⟩) (Nat.zero_le _) hl
 have e4 : (List.take (4 - 0) (List.drop 0 l)) = l.take 4 := by simp
 rw [e4] at s'
 have hsub' : ∀ w1 K, slT P T.c v none (some (.int .i64 4)) none w1 K = K v' w1 := hsub
 have hl4 : (l.take 4).length = 4 := by simp; omega
 rw [fi, hsub', s'.ig (by kernel_rfl), hl4]
 refine ⟨U3I w l, fun x _ => 4 - ms x 3, ⟨_, _, 0, rfl, rfl, by omega⟩, ?_⟩
 rintro x w1 ⟨u0, u1, i, rfl, rfl, hi⟩
 have q2 : gv [u0, u1, .int .u32 (yo l i), .int .i64 (i : Nat)] 2 = .int .u32 (yo l i) := rfl
 have q3 : gv [u0, u1, .int .u32 (yo l i), .int .i64 (i : Nat)] 3 = .int .i64 (i : Nat) := rfl
 have q0 : gv [u0, u1, .int .u32 (yo l i), .int .i64 (i : Nat)] 0 = u0 := rfl
 have q1 : gv [u0, u1, .int .u32 (yo l i), .int .i64 (i : Nat)] 1 = u1 := rfl
 simp only [q3, fi]
 by_cases hil : i < 4
 ·have hil' : (i : Int) < ((4 : Nat) : Int) := by omega
  have hwi : IntKind.i64.wrap ((i : Int) + 1) = ((i + 1 : Nat) : Int) := by rw [fl (by omega) (by omega)]; rfl
  have hw8 : IntKind.i64.wrap (8 * (i : Int)) = ((8 * i : Nat) : Int) := by rw [fl (by omega) (by omega)]; omega
  have hwu : IntKind.u64.wrap (8 * (i : Int)) = 8 * (i : Int) := xm (by omega) (by omega)
  have ht8 : (8 * (i : Int)).toNat = 8 * i := by omega
  obtain ⟨b, o, cap, hv, _, _, hc⟩ := s'.at (i := i) (by omega)
  have c0 := hc 0 _ rfl
  simp only [Nat.mul_one, Nat.add_zero] at c0
  have hgd : l.getD i 0 = (l.take 4)[i]'(by omega) := by
   rw [List.getD_eq_getElem?_getD, List.getElem?_eq_getElem (by omega), List.getElem_take]; rfl
  rw [← hgd] at c0
  rw [hl4] at hv
  have e : yo l (i + 1) = orE (yo l i) (shE (l.getD i 0) i) := rfl
  generalize l.getD i 0 = c at *
  rw [jy, decide_eq_true hil', Eng.cond_true]
  unfold M.eh.j2
  simp only [q0, q1, q2, q3, fi, sn, hw8]
  rw [hv]
  rw [ark (by kernel_rfl) (by omega) (by omega)]
  have hz : szE P T.c = 1 := by kernel_rfl
  rw [hz]
  simp [c0]
  rw [km (ks := .u8) (kd := .u32) (by kernel_rfl) (by kernel_rfl), km (ks := .i64) (kd := .u64) (by kernel_rfl) (by kernel_rfl), hwu, ace (by omega), ht8, ayt, hwi]
  exact ⟨⟨_, _, i + 1, by rw [e]; rfl, rfl, by omega⟩, by simp [ms, gv]; omega⟩
 ·have hil' : ¬ (i : Int) < 4 := by omega
  have he : i = 4 := by omega
  subst he
  simp
  exact h
def ka (n : Int) : List Int := (List.range 8).map fun k => b8 (n.fdiv (2 ^ min (56 - 8 * k) IntKind.u64.bits))
theorem oy (n : Int) : (ka n).length = 8 := by simp [ka]
theorem arp (n : Int) {k : Nat} (hk : k < 8) : (ka n).take (k + 1) = (ka n).take k ++ [b8 (n.fdiv (2 ^ min (56 - 8 * k) IntKind.u64.bits))] := by
 rw [List.take_succ_eq_append_getElem (by rw [oy]; exact hk)]
 simp [ka]
def P6I (w0 : World) (l : List Int) (n : Int) (R : List Asn) : KL := fun x w1 => ∃ (v : Value) (k : Nat), x = [v, .int .i64 (56 - 8 * (k : Int))] ∧ k ≤ 8 ∧ St w0 w1 (je v (l ++ (ka n).take k) :: R)
def bcv (x : List Value) : Nat := match gv x 1 with
 | .int _ k => (k + 8).toNat
 | _ => 0
theorem aoz (S : St w0 w (je v l :: R)) (hl : l.length ≤ 100000000) (n : Int) {K : KV} (h : ∀ w' v', St w0 w' (je v' (l ++ ka n) :: R) → K v' w') : fe P F.dv [v, .int .u64 n] w K := by
 rw [M.dv.fcall]
 apply M.dv.calls
 unfold M.dv
 rw [fi]
 refine ⟨P6I w0 l n R, fun x _ => bcv x, ⟨v, 0, rfl, by omega, by simpa using S⟩, ?_⟩
 rintro x w1 ⟨v, k, rfl, hk, S⟩
 have q0 : gv [v, .int .i64 (56 - 8 * (k : Int))] 0 = v := rfl
 have q1 : gv [v, .int .i64 (56 - 8 * (k : Int))] 1 = .int .i64 (56 - 8 * (k : Int)) := rfl
 simp only [q1, fi]
 by_cases hil : k < 8
 ·have hil' : (0 : Int) ≤ 56 - 8 * (k : Int) := by omega
  have hwu : IntKind.u64.wrap (56 - 8 * (k : Int)) = 56 - 8 * (k : Int) := xm (by omega) (by omega)
  have hwi : IntKind.i64.wrap (56 - 8 * (k : Int) - 8) = 56 - 8 * ((k + 1 : Nat) : Int) := by rw [fl (by omega) (by omega)]; omega
  have htn : (56 - 8 * (k : Int)).toNat = 56 - 8 * k := by omega
  rw [kf, decide_eq_true hil']
  simp only [fh]
  unfold M.dv.j2
  simp only [q0, q1, fi]
  rw [km (ks := .i64) (kd := .u64) (by kernel_rfl) (by kernel_rfl), hwu, acg hil', htn, km (ks := .u64) (kd := .u8) (by kernel_rfl) (by kernel_rfl)]
  simp
  have S1 := ayx S (b8 (n.fdiv (2 ^ min (56 - 8 * k) IntKind.u64.bits)))
  refine Go.Eng.vq et.c ij vm S1.swap (l2 := [b8 (n.fdiv (2 ^ min (56 - 8 * k) IntKind.u64.bits))]) (S1.row ij) (by simp [oy]; omega) (by decide) fun w2 v2 S2 => ?_
  rw [hwi]
  refine ⟨⟨v2, k + 1, rfl, by omega, ?_⟩, by simp [bcv, gv]; omega⟩
  rw [arp n hil, ← List.append_assoc]
  exact S2.swap.drop
 ·have hil' : ¬ (0 : Int) ≤ 56 - 8 * (k : Int) := by omega
  rw [kf, decide_eq_false hil']
  simp only [fh]
  rw [List.take_of_length_le (by rw [oy]; omega)] at S
  exact h w1 v S
def yi (l : List Int) : Nat → Int
 | 0 => 0
 | i + 1 => orL (IntKind.u64.wrap (yi l i * 2 ^ min (8 : Int).toNat IntKind.u64.bits)) (IntKind.u64.wrap (l.getD i 0))
def lq (l : List Int) : Int := yi l 8
def U6I (w : World) (l : List Int) : KL := fun x w1 => ∃ (u0 : Value) (i : Nat), x = [u0, .int .u64 (yi l i), .int .i64 (i : Nat)] ∧ w1 = w ∧ i ≤ 8
theorem atp (hs : SlB w v l) (hl : 8 ≤ l.length) {K : KV} (h : K (.int .u64 (lq l)) w) : fe P F.eh [v] w K := by
 rw [M.eg.fcall]
 apply M.eg.calls
 unfold M.eg
 obtain ⟨v', s', _, hsub⟩ := hs.sub (P := P) (t := T.c) (lo := none) (hi := some (.int .i64 (8 : Nat))) (i := 0) (j := 8) (by kernel_rfl) (by kernel_rfl) (.inl ⟨rfl, rfl⟩) (.inr ⟨_, rfl⟩) (Nat.zero_le _) hl
 have e4 : (List.take (8 - 0) (List.drop 0 l)) = l.take 8 := by simp
 rw [e4] at s'
 have hsub' : ∀ w1 K, slT P T.c v none (some (.int .i64 8)) none w1 K = K v' w1 := hsub
 have hl4 : (l.take 8).length = 8 := by simp; omega
 rw [fi, hsub', s'.ig (by kernel_rfl), hl4]
 refine ⟨U6I w l, fun x _ => 8 - ms x 2, ⟨_, 0, rfl, rfl, by omega⟩, ?_⟩
 rintro x w1 ⟨u0, i, rfl, rfl, hi⟩
 have q1 : gv [u0, .int .u64 (yi l i), .int .i64 (i : Nat)] 1 = .int .u64 (yi l i) := rfl
 have q2 : gv [u0, .int .u64 (yi l i), .int .i64 (i : Nat)] 2 = .int .i64 (i : Nat) := rfl
 have q0 : gv [u0, .int .u64 (yi l i), .int .i64 (i : Nat)] 0 = u0 := rfl
 simp only [q2, fi]
 by_cases hil : i < 8
 ·have hil' : (i : Int) < ((8 : Nat) : Int) := by omega
  have hwi : IntKind.i64.wrap ((i : Int) + 1) = ((i + 1 : Nat) : Int) := by rw [fl (by omega) (by omega)]; rfl
  obtain ⟨b, o, cap, hv, _, _, hc⟩ := s'.at (i := i) (by omega)
  have c0 := hc 0 _ rfl
  simp only [Nat.mul_one, Nat.add_zero] at c0
  have hgd : l.getD i 0 = (l.take 8)[i]'(by omega) := by
   rw [List.getD_eq_getElem?_getD, List.getElem?_eq_getElem (by omega), List.getElem_take]; rfl
  rw [← hgd] at c0
  rw [hl4] at hv
  have e : yi l (i + 1) = orL (IntKind.u64.wrap (yi l i * 2 ^ min (8 : Int).toNat IntKind.u64.bits)) (IntKind.u64.wrap (l.getD i 0)) := rfl
  generalize l.getD i 0 = c at *
  rw [jy, decide_eq_true hil', Eng.cond_true]
  unfold M.eg.j2
  simp only [q0, q1, q2, fi]
  rw [hv]
  rw [ark (by kernel_rfl) (by omega) (by omega)]
  have hz : szE P T.c = 1 := by kernel_rfl
  rw [hz]
  simp [c0]
  rw [ace (by omega), km (ks := .u8) (kd := .u64) (by kernel_rfl) (by kernel_rfl), ayr, hwi]
  exact ⟨⟨_, i + 1, by rw [e], rfl, by omega⟩, by simp [ms, gv]; omega⟩
 ·have hil' : ¬ (i : Int) < 8 := by omega
  have he : i = 8 := by omega
  subst he
  simp
  exact h
theorem alt {n : Nat} (h : n < 4294967296) : IntKind.u32.wrap (n : Int) = n := by
 show (if (false && decide ((n : Int) % 4294967296 ≥ 2147483648)) = true then (n : Int) % 4294967296 - 4294967296 else (n : Int) % 4294967296) = n
 simp; omega
theorem aur {n : Nat} (h : n < 4294967296) : (BitVec.ofInt IntKind.u32.bits (n : Int)).toNat = n := by
 show (BitVec.ofInt 32 (n : Int)).toNat = n
 rw [BitVec.toNat_ofInt]; omega
theorem afu {a c i : Nat} (ha : a < 2 ^ i) (hc : 2 ^ i * c + a < 4294967296) : orE (a : Int) ((2 ^ i * c : Nat) : Int) = ((2 ^ i * c + a : Nat) : Int) := by
 unfold orE
 rw [BitVec.toNat_or, aur (by omega), aur (by omega), Nat.or_comm, ← Nat.two_pow_add_eq_or_of_lt ha, alt hc]
theorem bas {a c : Nat} (ha : a < 256) (hc : 256 * c + a < 18446744073709551616) : orL ((256 * c : Nat) : Int) (a : Int) = ((256 * c + a : Nat) : Int) := by
 have := Nat.two_pow_add_eq_or_of_lt (i := 8) (b := a) ha c
 unfold orL
 rw [BitVec.toNat_or]
 have h1 : (BitVec.ofInt IntKind.u64.bits ((256 * c : Nat) : Int)).toNat = 256 * c := aip (by omega)
 have h2 : (BitVec.ofInt IntKind.u64.bits (a : Int)).toNat = a := aip (by omega)
 rw [h1, h2, ← this, xb hc]
theorem aeu {n : Nat} : b8 (n : Int) = ((n % 256 : Nat) : Int) := by
 unfold b8
 show (if (false && decide ((n : Int) % 256 ≥ 128)) = true then (n : Int) % 256 - 256 else (n : Int) % 256) = _
 simp
theorem ani {n : Nat} : s8 (n : Int) = ((n / 256 : Nat) : Int) := ajh n 8
theorem afe {n : Nat} (hn : n < 4294967296) (r : List Int) : uw (sw (n : Int) ++ r) = n := by
 have e : sw (n : Int) = [((n % 256 : Nat) : Int), ((n / 256 % 256 : Nat) : Int), ((n / 256 / 256 % 256 : Nat) : Int), ((n / 256 / 256 / 256 % 256 : Nat) : Int)] := by
  show [b8 (n : Int), b8 (s8 n), b8 (s8 (s8 n)), b8 (s8 (s8 (s8 n)))] = _
  rw [ani, ani, ani, aeu, aeu, aeu, aeu]
 rw [e]
 generalize h0 : n % 256 = c0
 generalize h1 : n / 256 % 256 = c1
 generalize h2 : n / 256 / 256 % 256 = c2
 generalize h3 : n / 256 / 256 / 256 % 256 = c3
 have sh : ∀ (c i : Nat), c < 256 → i < 4 → 2 ^ (8 * i) * c < 4294967296 → shE (c : Int) i = ((2 ^ (8 * i) * c : Nat) : Int) := fun c i hc hi hb => by
  unfold shE
  rw [alt (by omega)]
  have hm : min (8 * i) IntKind.u32.bits = 8 * i := Nat.min_eq_left (by show 8 * i ≤ 32; omega)
  rw [hm]
  have : (c : Int) * 2 ^ (8 * i) = ((2 ^ (8 * i) * c : Nat) : Int) := by rw [Int.mul_comm]; simp
  rw [this, alt hb]
 show orE (orE (orE (orE 0 (shE (c0 : Int) 0)) (shE (c1 : Int) 1)) (shE (c2 : Int) 2)) (shE (c3 : Int) 3) = n
 rw [sh c0 0 (by omega) (by omega) (by simp; omega), sh c1 1 (by omega) (by omega) (by simp; omega), sh c2 2 (by omega) (by omega) (by simp; omega), sh c3 3 (by omega) (by omega) (by simp; omega)]
 have z0 := afu (a := 0) (c := c0) (i := 0) (by simp) (by simp; omega)
 have z1 := afu (a := c0) (c := c1) (i := 8) (by simp; omega) (by simp; omega)
 have z2 := afu (a := 256 * c1 + c0) (c := c2) (i := 16) (by simp; omega) (by simp; omega)
 have z3 := afu (a := 65536 * c2 + (256 * c1 + c0)) (c := c3) (i := 24) (by simp; omega) (by simp; omega)
 simp only [Nat.mul_zero, Nat.pow_zero, Nat.one_mul, Nat.add_zero, Nat.mul_one] at z0 z1 z2 z3 ⊢
 rw [show ((0 : Int)) = ((0 : Nat) : Int) from rfl, z0, z1]
 rw [show 2 ^ 8 * c1 + c0 = 256 * c1 + c0 from rfl, show 8 * 2 = 16 from rfl, z2, show 2 ^ 16 * c2 + (256 * c1 + c0) = 65536 * c2 + (256 * c1 + c0) from rfl, show 8 * 3 = 24 from rfl, z3]
 congr 1
 show 16777216 * c3 + (65536 * c2 + (256 * c1 + c0)) = n
 omega
theorem aky {n : Nat} (hn : n < 18446744073709551616) (r : List Int) : lq (ka (n : Int) ++ r) = n := by
 have hb : ∀ k, k < 8 → (ka (n : Int) ++ r).getD k 0 = ((n / 2 ^ (56 - 8 * k) % 256 : Nat) : Int) := fun k hk => by
  rw [List.getD_eq_getElem?_getD, List.getElem?_append_left (by rw [oy]; exact hk)]
  unfold ka
  rw [List.getElem?_map, List.getElem?_range hk]
  show b8 ((n : Int).fdiv (2 ^ min (56 - 8 * k) IntKind.u64.bits)) = _
  have hm : min (56 - 8 * k) IntKind.u64.bits = 56 - 8 * k := Nat.min_eq_left (by show 56 - 8 * k ≤ 64; omega)
  rw [hm, ajh, aeu]
 have key : ∀ i, i ≤ 8 → yi (ka (n : Int) ++ r) i = ((n / 2 ^ (64 - 8 * i) : Nat) : Int) := by
  intro i
  induction i with
  | zero => intro _; show (0 : Int) = _; simp; omega
  | succ i ih =>
   intro hi
   show orL (IntKind.u64.wrap (yi (ka (n : Int) ++ r) i * 2 ^ 8)) (IntKind.u64.wrap ((ka (n : Int) ++ r).getD i 0)) = _
   rw [ih (by omega), hb i (by omega)]
   have e1 : n / 2 ^ (64 - 8 * i) = n / 2 ^ (56 - 8 * i) / 256 := by
    rw [Nat.div_div_eq_div_mul]
    congr 1
    rw [show (256 : Nat) = 2 ^ 8 from rfl, ← Nat.pow_add]
    congr 1; omega
   have e2 : 64 - 8 * (i + 1) = 56 - 8 * i := by omega
   rw [e1, e2]
   have hlt : n / 2 ^ (56 - 8 * i) ≤ n := Nat.div_le_self _ _
   generalize n / 2 ^ (56 - 8 * i) = m at *
   have e3 : ((m / 256 : Nat) : Int) * 2 ^ 8 = ((256 * (m / 256) : Nat) : Int) := by rw [Int.mul_comm]; simp
   rw [e3, xb (by omega), xb (by omega), bas (by omega) (by omega)]
   congr 1; omega
 show yi _ 8 = _
 rw [key 8 (by omega)]; simp
theorem agl (z : Int) : ∃ n : Nat, IntKind.u32.wrap z = (n : Int) ∧ n < 4294967296 := by
 have : IntKind.u32.wrap z = z % 4294967296 := by
  show (if (false && decide (z % 4294967296 ≥ 2147483648)) = true then z % 4294967296 - 4294967296 else z % 4294967296) = _
  simp
 exact ⟨(z % 4294967296).toNat, by rw [this]; omega, by omega⟩
theorem anu (l : List Int) : ∃ n : Nat, xy l = (n : Int) ∧ n < 4294967296 := by
 unfold xy
 rw [ahr, amy]
 exact agl _
end
end Go.Proofs.YtfnhoaemapheoaaGreat
set_option maxRecDepth 100000
namespace Go.Eng
section
variable {P : Program}
theorem axk {t : TypeId} (h : lf P t = true) {a : Option Addr} {len cap : Nat} {k1 k2 k3 : IntKind} {i j m : Nat} (h0 : i ≤ j) (h1 : j ≤ m) (h2 : m ≤ cap) (w : World) (K : KV) :
  slT P t (.slice a len cap) (some (.int k1 (i : Int))) (some (.int k2 (j : Int))) (some (.int k3 (m : Int))) w K = K (.slice (if m = i then a else a.map (·.add (i * szE P t))) (j - i) (m - i)) w := by
 obtain ⟨hu, inf, hi, hs⟩ := ub h
 have h3 : i ≤ m := by omega
 simp [slT, gy, Instr.sliceAt, Instr.slice, Instr.sliceBounds, Instr.sliceBound, asIntOf, Sem.run_bind, ia hu, Result.andThen, Sem.run_pure, vr hi, hs, h0, h1, h2, h3]
theorem Sl.azi {α : Type} {enc : α → List Value} {sz : Nat} {w : World} {v : Value} {l : List α} {i j : Nat} (hs : Sl w sz enc v l) {t : TypeId} (h : lf P t = true) (hz : szE P t = sz) {k1 k2 k3 : IntKind} (h0 : i ≤ j) (h1 : j ≤ l.length) :
  ∃ v', Sl w sz enc v' ((l.drop i).take (j - i)) ∧ (∀ b, v'.ownBlock = some b → v.ownBlock = some b) ∧ ∀ w1 K, slT P t v (some (.int k1 (i : Int))) (some (.int k2 (j : Int))) (some (.int k3 (j : Int))) w1 K = K v' w1 := by
 obtain ⟨a, cap, rfl, g1, g2, g3⟩ := hs
 refine ⟨_, ?_, ?_, fun w1 K => axk h h0 (Nat.le_refl _) (by omega) w1 K⟩
 ·have hlen : ((l.drop i).take (j - i)).length = j - i := by simp; omega
  refine ⟨_, _, by rw [hlen], by omega, by omega, fun k x hk => ?_⟩
  have hk' : k < j - i := by have := (List.getElem?_eq_some_iff.1 hk).1; omega
  rw [List.getElem?_take_of_lt hk', List.getElem?_drop] at hk
  obtain ⟨b, o, rfl, hb, hr⟩ := g3 (i + k) x hk
  rw [if_neg (by omega)]
  refine ⟨b, o + i * sz, by simp [Addr.add, hz], hb, ?_⟩
  rw [Nat.add_assoc, ← Nat.add_mul]; exact hr
 ·intro b hb
  cases a with
  | none => split at hb <;> simp [Value.ownBlock] at hb
  | some a =>
   have : ∀ k, (a.add k).block = a.block := fun k => by unfold Addr.add; split <;> rfl
   split at hb <;> simp_all [Value.ownBlock]
theorem aqx {t : TypeId} {v v1 v2 : Value} {lo hi mx : Option Value} (h1 : ∀ w1 K, slT P t v lo hi mx w1 K = K v1 w1) (h2 : ∀ w1 K, slT P t v lo hi mx w1 K = K v2 w1) (w : World) : v1 = v2 := by
 have h := (h1 w fun x _ => x = v1).symm.trans (h2 w fun x _ => x = v1)
 exact (h.mp rfl).symm
end
end Go.Eng
namespace Go.Proofs.YtfnhoaemapheoaaGreat
open Go.Eng Go.Proofs.YtfnhoaemapheoaaGreat.Sint
section
variable {w0 w : World} {R : List Asn} {v : Value} {l : List Int}
theorem yd (S : St w0 w R) (hs : SlB w v l) (hlen : l.length ≤ 100000000) {K : KV} (h : ∀ w' v', St w0 w' (je v' l :: R) → K v' w') : fe P F.r [v] w K := by
 rw [M.cj.fcall]
 apply M.cj.calls
 unfold M.cj
 simp only [fi]
 have hs' := hs
 obtain ⟨a, cap, rfl, _⟩ := hs'
 cases a with
 | none =>
  simp
  have hz : l = [] := by
   obtain ⟨a', cap', hv, _, _, h3⟩ := hs
   cases l with
   | nil => rfl
   | cons x l =>
    obtain ⟨b, o, ha, _⟩ := h3 0 x rfl
    injection hv with h1 _ _
    rw [← h1] at ha; cases ha
  subst hz
  exact h w _ (Eng.pq S)
 | some a =>
  simp
  have S1 : St w0 (w.alloc (.cells #[] T.ap)) (je (.slice (some ⟨w.heap.size, 0, none⟩) 0 0) [] :: R) := St.acs (l := ([] : List Int)) S ij rfl (by simp)
  refine Go.Eng.vq et.c ij vm S1 (hs.fr ((Fr.refl (fun _ => False) w).alloc _) fun _ _ _ h => h) (by simp; omega) (by decide) fun w2 v2 S2 => ?_
  exact h w2 v2 S2
theorem amn {v1 v2 : Value} {l1 l2 : List Int} (S : St w0 w R) (s1 : SlB w v1 l1) (s2 : SlB w v2 l2) (hl : l1.length + l2.length ≤ 100000000) {K : KV} (h : ∀ w' v', St w0 w' (je v' (l1 ++ l2) :: R) → K v' w') :
  bsT P T.j 2 #[(0, v1), (1, v2)] w fun t w => fe P F.m [t] w K := by
 obtain ⟨a1, k1, hv1, _⟩ := id s1
 obtain ⟨a2, k2, hv2, _⟩ := id s2
 have hbs : ∀ K', bsT P T.j 2 #[(0, v1), (1, v2)] w K' = K' (.slice (some ⟨w.heap.size, 0, none⟩) 2 2) (w.alloc (.cells #[v1, v2] T.c)) := fun K' => by rw [hv1, hv2]; simp
 rw [hbs]
 have f1 : Fr (fun _ => False) w (w.alloc (.cells #[v1, v2] T.c)) := (Fr.refl _ w).alloc _
 have hn : (w.alloc (.cells #[v1, v2] T.c)).heap[w.heap.size]? = some (.cells (([(v1, l1), (v2, l2)] : List (Value × List Int)).map (·.1)).toArray T.c (0, 0)) := by
  rw [ga, if_pos rfl]; rfl
 rw [M.u.fcall]
 refine CB.xz (L := [(v1, l1), (v2, l2)]) hn (fun p hp => ?_) (by simp [CB.tot]; omega) (by simp) fun w' v o f2 => ?_
 ·simp at hp
  rcases hp with rfl | rfl
  ·exact s1.fr f1 fun _ _ _ h => h
  ·exact s2.fr f1 fun _ _ _ h => h
 ·have hs : w.heap.size ≤ (w.alloc (.cells #[v1, v2] T.c)).heap.size := f1.size
  refine h w' v (S.add (a := je v (l1 ++ l2)) (f1.trans f2) (B := fun b => v.ownBlock = some b) ⟨?_, fun b hb => hb⟩ fun b hb => ?_)
  ·simpa using o.mono (Nat.zero_le _)
  ·have := o.lt hb
   exact ⟨by omega, this.2⟩
def sy (d : List Int) : List Int := sw (d.length : Int) ++ d
def gu (d : List Int) : List Int := sy d ++ sw (xy (sy d))
theorem kz (d : List Int) : (gu d).length = d.length + 8 := by unfold gu sy; simp [pm]; omega
theorem aqu {dv : Value} {d : List Int} {v0 : Value} {l0 : List Int} (S : St w0 w R) (h0 : ∀ w' L, St w0 w' (L ++ R) → SlB w' v0 l0) (hd : ∀ w' L, St w0 w' (L ++ R) → SlB w' dv d) (hl0 : l0.length ≤ 10000000) (hl : d.length ≤ 1000000000) {K : KV}
  (h : ∀ w' v', St w0 w' (je v' (if 8192 < d.length then [] else l0 ++ gu d) :: R) → K (.tuple #[v', .int .i64 (if 8192 < d.length then 4 else 0)]) w') : fe P F.dw [v0, dv] w K := by
 rw [M.dw.fcall]
 apply M.dw.calls
 unfold M.dw
 rw [fi, (hd w [] S).ig (by kernel_rfl)]
 by_cases hbig : 8192 < d.length
 ·have hbig' : (8192 : Int) < d.length := by omega
  rw [if_pos hbig] at h
  simp only [if_pos hbig] at h
  simp [hbig']
  exact h w _ (Eng.pq S)
 ·have hbig' : ¬ (8192 : Int) < d.length := by omega
  rw [if_neg hbig] at h
  simp only [if_neg hbig] at h
  simp [hbig']
  unfold M.dw.j0
  rw [(hd w [] S).ig (by kernel_rfl), km (ks := .i64) (kd := .u32) (by kernel_rfl) (by kernel_rfl), alt (by omega)]
  refine anf (Eng.pq S) (by simp) _ fun w1 v1 S1 => ?_
  rw [List.nil_append] at S1
  refine Go.Eng.vq et.c ij vm S1 (hd w1 [_] S1) (by simp [pm]; omega) (by decide) fun w2 v2 S2 => ?_
  have S2' : St w0 w2 (je v2 (sy d) :: R) := S2
  have hbl : (sy d).length = d.length + 4 := by unfold sy; simp [pm]; omega
  refine avk (S2'.row ij) (by omega) ?_
  refine anf S2' (by omega) _ fun w3 v3 S3 => ?_
  have S3' : St w0 w3 (je v3 (gu d) :: R) := S3
  have hfl := kz d
  refine amn S3' (h0 w3 [_] S3') (S3'.row ij) (by omega) fun w4 v4 S4 => ?_
  exact h w4 v4 S4.swap.drop
def vg (l : List Int) : Option (List Int) × Int :=
 if l.length < 4 then (none, 3) else if 8192 < uw l then (none, 2) else if (l.length : Int) - 4 < 4 + uw l then (none, 3)
 else if xy (l.take (4 + (uw l).toNat)) ≠ uw (l.drop (4 + (uw l).toNat)) then (none, 2) else (some ((l.drop 4).take (uw l).toNat), 0)
theorem aia (l : List Int) : ∃ n : Nat, uw l = (n : Int) ∧ n < 4294967296 := by
 show ∃ n : Nat, yo l 4 = _ ∧ _
 rw [yo, orE]
 exact agl _
theorem bbf (S : St w0 w R) (hs : ∀ w' L, St w0 w' (L ++ R) → SlB w' v l) (hl : l.length ≤ 10000000) {K : KV}
  (h : ∀ w' dv rv, St w0 w' (je dv ((vg l).1.getD []) :: R) → K (.tuple #[dv, rv, .int .i64 (vg l).2]) w') : fe P F.ef [v] w K := by
 rw [M.dx.fcall]
 apply M.dx.calls
 unfold M.dx
 have s0 := hs w [] S
 have hlen : ∀ w' K', biT P .len #[T.c] T.a [false] [v] w' K' = K' (.int .i64 l.length) w' := fun w' K' => s0.ig (by kernel_rfl) [false]
 rw [fi, hlen]
 unfold vg at h
 by_cases c1 : l.length < 4
 ·have c1' : (l.length : Int) < 4 := by omega
  simp only [if_pos c1] at h
  simp [c1']
  exact h w _ _ (Eng.pq S)
 ·have c1' : ¬ (l.length : Int) < 4 := by omega
  simp only [if_neg c1] at h
  simp [c1']
  unfold M.dx.j0
  refine ava s0 (by omega) ?_
  obtain ⟨n, hn, hn2⟩ := aia l
  rw [hn] at h ⊢
  have hw1 : IntKind.i64.wrap (n : Int) = n := ahx (by omega)
  have hw2 : IntKind.i64.wrap (4 + (n : Int)) = ((4 + n : Nat) : Int) := by rw [fl (by omega) (by omega)]; omega
  rw [km (ks := .u32) (kd := .i64) (by kernel_rfl) (by kernel_rfl), hw1, iw, hw2, nu]
  by_cases c2 : (8192 : Int) < n
  ·simp only [if_pos c2] at h
   rw [decide_eq_true c2, Eng.cond_true]
   exact h w _ _ (Eng.pq S)
  ·simp only [if_neg c2] at h
   rw [decide_eq_false c2, Eng.cond_false, hlen, ja, fl (by omega) (by omega), jy]
   by_cases c3 : (l.length : Int) - 4 < 4 + (n : Int)
   ·simp only [if_pos c3] at h
    rw [decide_eq_true (by omega), Eng.cond_true]
    exact h w _ _ (Eng.pq S)
   ·simp only [if_neg c3] at h
    rw [decide_eq_false (by omega), Eng.cond_false]
    rw [Int.toNat_natCast] at h
    obtain ⟨va, sa, pa, ra⟩ := s0.sub (P := P) (t := T.c) (lo := none) (hi := some (.int .i64 ((4 + n : Nat) : Int))) (i := 0) (j := 4 + n) (by kernel_rfl) (by kernel_rfl) (.inl ⟨rfl, rfl⟩) (.inr ⟨_, rfl⟩) (Nat.zero_le _) (by omega)
    obtain ⟨vb, sb, pb, rb⟩ := s0.sub (P := P) (t := T.c) (lo := some (.int .i64 ((4 + n : Nat) : Int))) (hi := none) (i := 4 + n) (j := l.length) (by kernel_rfl) (by kernel_rfl) (.inr ⟨_, rfl⟩) (.inl ⟨rfl, rfl⟩) (by omega) (Nat.le_refl _)
    have ea : List.take (4 + n - 0) (List.drop 0 l) = l.take (4 + n) := by simp
    have eb : List.take (l.length - (4 + n)) (List.drop (4 + n) l) = l.drop (4 + n) := List.take_of_length_le (by simp)
    rw [ea] at sa
    rw [eb] at sb
    have fd : Fr (fun _ => False) w (Eng.dr w 1) := (Fr.refl _ w).dr 1
    simp only [oe, mn, ra, rb, vn, true_and, and_true]
    have Sd := S.iq fd
    have hlt : (l.take (4 + n)).length = 4 + n := by simp; omega
    have hld : (l.drop (4 + n)).length = l.length - (4 + n) := by simp
    refine avk (sa.fr fd fun _ _ _ h => h) (by omega) ?_
    refine ava (sb.fr fd fun _ _ _ h => h) (by omega) ?_
    rw [akb]
    by_cases c4 : xy (l.take (4 + n)) = uw (l.drop (4 + n))
    ·simp only [if_neg (show ¬ xy (l.take (4 + n)) ≠ uw (l.drop (4 + n)) from fun h => h c4)] at h
     refine ⟨rfl, ?_⟩
     rw [decide_eq_false (fun h => h c4), Eng.cond_false]
     obtain ⟨vc, sc, pc, rc⟩ := Eng.Sl.azi (P := P) (t := T.c) (k1 := .i64) (k2 := .i64) (k3 := .i64) (i := 4) (j := 4 + n) s0 (by kernel_rfl) (by kernel_rfl) (by omega) (by omega)
     have rc' : ∀ w1 K, slT P T.c v (some (.int .i64 4)) (some (.int .i64 ((4 + n : Nat) : Int))) (some (.int .i64 ((4 + n : Nat) : Int))) w1 K = K vc w1 := rc
     have ec : List.take (4 + n - 4) (List.drop 4 l) = (l.drop 4).take n := by congr 1; omega
     rw [ec] at sc
     have hw3 : IntKind.i64.wrap (((4 + n : Nat) : Int) + 4) = ((8 + n : Nat) : Int) := by rw [fl (by omega) (by omega)]; omega
     obtain ⟨ve, se, pe, re⟩ := s0.sub (P := P) (t := T.c) (lo := some (.int .i64 ((8 + n : Nat) : Int))) (hi := none) (i := 8 + n) (j := l.length) (by kernel_rfl) (by kernel_rfl) (.inr ⟨_, rfl⟩) (.inl ⟨rfl, rfl⟩) (by omega) (Nat.le_refl _)
     have fd2 : Fr (fun _ => False) w (Eng.dr (Eng.dr w 1) 1) := fd.dr 1
     simp only [rc', iw, hw3, re, vn, true_and, and_true]
     have S2 := Sd.iq ((Fr.refl (fun _ => False) (Eng.dr w 1)).dr 1)
     refine yd S2 (sc.fr fd2 fun _ _ _ h => h) (by simp; omega) fun w2 dv S3 => ?_
     obtain ⟨vf, sf, _, rf⟩ := (hs w2 [_] S3).sub (P := P) (t := T.c) (lo := some (.int .i64 ((8 + n : Nat) : Int))) (hi := none) (i := 8 + n) (j := l.length) (by kernel_rfl) (by kernel_rfl) (.inr ⟨_, rfl⟩) (.inl ⟨rfl, rfl⟩) (by omega) (Nat.le_refl _)
     have hvf : ve = vf := aqx re rf w2
     rw [← hvf] at sf
     refine yd S3 sf (by simp; omega) fun w3 rv S4 => ?_
     exact h w3 dv rv S4.drop
    ·simp only [if_pos c4] at h
     refine ⟨rfl, ?_⟩
     rw [decide_eq_true c4, Eng.cond_true]
     exact h _ _ _ (Eng.pq Sd)
end
set_option maxRecDepth 100000
open Go.Eng Go.Proofs.YtfnhoaemapheoaaGreat.Sint
structure SV where
 a : Option Addr
 n : Nat
 c : Nat
def SV.v (s : SV) : Value := .slice s.a s.n s.c
def mf (s : SV) : List Value := [s.v]
theorem pn (s : SV) : (mf s).length = 1 := rfl
theorem att (s : SV) : ∀ u ∈ mf s, jt u = true := fun u hu => by simp [mf] at hu; subst hu; rfl
def lh (vs : List SV) (ls : List (List Int)) : List Asn := List.zipWith (fun s l => je s.v l) vs ls
def ata (v : Value) (vs : List SV) (ls : List (List Int)) : List Asn := [Eng.jb T.c 1 mf v vs, ny (lh vs ls)]
def jg (v : Value) (ls : List (List Int)) : Asn where
 ok w B := ∃ vs, vs.length = ls.length ∧ Rs (ata v vs ls) w B
 jc := by
  rintro w w' B S ⟨vs, h1, h2⟩ hf hn
  exact ⟨vs, h1, h2.jc hf hn⟩
section
variable {w0 w : World} {R : List Asn} {v : Value} {ls : List (List Int)} {vs : List SV}
theorem aah (S : St w0 w (jg v ls :: R)) : ∃ vs, vs.length = ls.length ∧ St w0 w (Eng.jb T.c 1 mf v vs :: ny (lh vs ls) :: R) := by
 obtain ⟨B, ⟨vs, h1, h2⟩, _, cl⟩ := S.open
 exact ⟨vs, h1, cl w (ata v vs ls) (Fr.refl _ _) (h2.mono fun b hb => .inl hb)⟩
theorem aif (h : vs.length = ls.length) (S : St w0 w (Eng.jb T.c 1 mf v vs :: ny (lh vs ls) :: R)) : St w0 w (jg v ls :: R) := by
 obtain ⟨U, h1, _, g⟩ := St.yr (L := ata v vs ls) (R := R) S
 exact g w [jg v ls] (Fr.refl _ _) ⟨U, ⟨vs, h, h1⟩, fun b hb => .inl hb, trivial⟩
theorem ajr (S : St w0 w R) : St w0 w (jg (.slice none 0 0) [] :: R) := aif (vs := []) rfl (aqq (St.all.2 S))
theorem xk (S : St w0 w (jg v ls :: R)) (w' : World) (K : KV) : biT P .len #[T.j] T.a [false] [v] w' K = K (.int .i64 ls.length) w' := by
 obtain ⟨vs, h, S1⟩ := aah S
 rw [(S1.jb pn).ig (by kernel_rfl), h]
theorem atg (S : St w0 w (jg v ls :: R)) : ∃ a cap, v = .slice a ls.length cap := by
 obtain ⟨vs, h, S1⟩ := aah S
 obtain ⟨a, cap, hv, _⟩ := S1.jb pn
 exact ⟨a, cap, by rw [hv, h]⟩
theorem ack (S : St w0 w (jg v ls :: R)) {i : Nat} (hi : i < ls.length) : ∃ b o s, (∀ w' K, iaT P T.j v (.int .i64 (i : Nat)) w' K = K (.pointer (some ⟨b, o, none⟩)) w') ∧ (∀ {w1 : World} {R1 : List Asn}, St w0 w1 (jg v ls :: R1) → fm w b o = some (SV.v s)) ∧ fm w b o = some (SV.v s) ∧ SlB w (SV.v s) ls[i] := by
 obtain ⟨vs, h, S1⟩ := aah S
 have hi' : i < vs.length := by omega
 obtain ⟨b, o, cap, hv, _, _, hc⟩ := (S1.jb pn : Sl w 1 mf v vs).at hi'
 have c0 := hc 0 _ rfl
 simp only [Nat.mul_one, Nat.add_zero] at c0
 have S2 := St.aij (j := i) (L := lh vs ls) (by simp [lh]; omega) S1.swap
 unfold lh at S2
 rw [List.getElem_zipWith] at S2
 exact ⟨b, o + i, vs[i], fun w' K => by rw [hv]; simp [hi'], fun _ => c0, c0, S2.row ij⟩
theorem aav {s : SV} {d : List Int} (S : St w0 w (je s.v d :: jg v ls :: R)) (hl : ls.length ≤ 1000000) {cs : List Bool} {ty : TypeId} {K : KV} (h : ∀ w' v', St w0 w' (jg v' (ls ++ [d]) :: R) → K v' w') :
  bsT P T.j 1 #[(0, s.v)] w fun t w => biT P .append #[T.j, T.j] ty cs [v, t] w K := by
 have hbs : ∀ K', bsT P T.j 1 #[(0, s.v)] w K' = K' (.slice (some ⟨w.heap.size, 0, none⟩) 1 1) (w.alloc (.cells #[s.v] T.c)) := fun K' => by unfold SV.v; simp
 rw [hbs]
 obtain ⟨vs, h1, S1⟩ := aah S.swap
 have S2 : St w0 (w.alloc (.cells #[s.v] T.c)) (sp T.c 1 mf (.slice (some ⟨w.heap.size, 0, none⟩) 1 1) [s] :: Eng.jb T.c 1 mf v vs :: ny (lh vs ls) :: je s.v d :: R) := St.acs (l := [s]) S1 pn rfl (by unfold maxLen; simp)
 refine ame et.j pn att S2.swap (S2.row pn) (by simp; omega) (by decide) fun w2 v2 S3 => ?_
 have S4 : St w0 w2 (Eng.jb T.c 1 mf v2 (vs ++ [s]) :: ny (lh vs ls) :: je s.v d :: R) := S3.swap.drop
 refine h w2 v2 (aif (vs := vs ++ [s]) (by simp [h1]) ?_)
 have S5 := St.all.1 S4.swap
 have e : lh (vs ++ [s]) (ls ++ [d]) = lh vs ls ++ [je s.v d] := by unfold lh; rw [List.zipWith_append h1]; rfl
 have S6 : St w0 w2 (ny (lh (vs ++ [s]) (ls ++ [d])) :: Eng.jb T.c 1 mf v2 (vs ++ [s]) :: R) := by
  refine St.all.2 ?_
  rw [e, List.append_assoc]
  refine S5.perm (List.Perm.append_left _ ?_)
  exact List.Perm.swap _ _ _
 exact S6.swap
theorem ati {d : List Int} (S : St w0 w (jg v (d :: ls) :: R)) {k : IntKind} : ∃ v', St w0 w (jg v' ls :: R) ∧ ∀ w1 K, slT P T.j v (some (.int k 1)) none none w1 K = K v' w1 := by
 obtain ⟨vs, h1, S1⟩ := aah S
 cases vs with
 | nil => simp at h1
 | cons s vs =>
  obtain ⟨v', S2, hv⟩ := S1.bdc (P := P) (t := T.j) pn (by kernel_rfl) (by kernel_rfl) (i := 1) (by simp) (k := k)
  refine ⟨v', aif (vs := vs) (by simpa using h1) ?_, hv⟩
  have S3 : St w0 w (Eng.jb T.c 1 mf v' vs :: ny (lh (s :: vs) (d :: ls)) :: R) := S2
  have S4 := St.all.1 S3.swap
  have S5 : St w0 w (je s.v d :: (lh vs ls ++ Eng.jb T.c 1 mf v' vs :: R)) := S4
  exact (St.all.2 S5.drop).swap
end
def wz (l : List Int) : Nat → Nat → List (List Int) × Nat
 | 0, gm => ([], gm)
 | f + 1, gm => if gm < l.length then match (vg ((l.drop gm).take 8200)).1 with
   | none => ([], gm)
   | some d => (d :: (wz l f (gm + d.length + 8)).1, (wz l f (gm + d.length + 8)).2)
  else ([], gm)
def rk (l : List Int) : List (List Int) × Nat := wz l (l.length + 1) 0
theorem avo (l : List Int) : ((vg l).2 = 0 ∧ ∃ d, (vg l).1 = some d ∧ d.length + 8 ≤ l.length) ∨ ((vg l).2 ≠ 0 ∧ (vg l).1 = none) := by
 unfold vg
 split
 ·exact .inr ⟨by simp, rfl⟩
 ·split
  ·exact .inr ⟨by simp, rfl⟩
  ·split
   ·exact .inr ⟨by simp, rfl⟩
   ·split
    ·exact .inr ⟨by simp, rfl⟩
    ·rename_i h1 h2 h3 h4
     refine .inl ⟨rfl, _, rfl, ?_⟩
     obtain ⟨n, hn, _⟩ := aia l
     rw [hn] at h2 h3 ⊢
     rw [Int.toNat_natCast, List.length_take, List.length_drop]
     omega
section
variable {w0 w : World} {R : List Asn} {v : Value} {l : List Int}
def AlI (w0 : World) (l : List Int) (R : List Asn) : KL := fun x w1 => ∃ (u0 u1 u2 u5 v : Value) (acc : List (List Int)) (gm f : Nat), x = [u0, u1, u2, v, .int .i64 (gm : Nat), u5] ∧ gm ≤ l.length ∧ l.length < f + gm ∧ 8 * acc.length ≤ gm ∧ rk l = (acc ++ (wz l f gm).1, (wz l f gm).2) ∧ St w0 w1 (jg v acc :: R)
theorem bbb (S : St w0 w R) (hs : ∀ w' L, St w0 w' (L ++ R) → SlB w' v l) (hl : l.length ≤ 5000000) {K : KV}
  (h : ∀ w' lv k, St w0 w' (jg lv (rk l).1 :: R) → K (.tuple #[lv, .int .i64 ((rk l).2 : Nat), .int .i64 k]) w') : fe P F.ee [v] w K := by
 rw [M.cp.fcall]
 apply M.cp.calls
 unfold M.cp
 rw [fi]
 have h0 : AlI w0 l R [undef, undef, undef, .slice none 0 0, .int .i64 ((0 : Nat) : Int), .int .i64 0] w := by
  refine ⟨_, _, _, _, _, [], 0, l.length + 1, rfl, Nat.zero_le _, by omega, by simp, ?_, ajr S⟩
  rw [List.nil_append]
  exact (Prod.eta _).symm
 refine ⟨AlI w0 l R, fun x _ => l.length - ms x 4, h0, ?_⟩
 rintro x w1 ⟨u0, u1, u2, u5, lv, acc, gm, f, rfl, hu, hf, ha, heq, S1⟩
 have q3 : gv [u0, u1, u2, lv, .int .i64 (gm : Nat), u5] 3 = lv := rfl
 have q4 : gv [u0, u1, u2, lv, .int .i64 (gm : Nat), u5] 4 = .int .i64 (gm : Nat) := rfl
 have q5 : gv [u0, u1, u2, lv, .int .i64 (gm : Nat), u5] 5 = u5 := rfl
 have s1 := hs w1 [_] S1
 have hlen : ∀ w' K', biT P .len #[T.c] T.a [false] [v] w' K' = K' (.int .i64 l.length) w' := fun w' K' => s1.ig (by kernel_rfl) [false]
 unfold M.cp.j1
 simp only [fi, q4, hlen, jy]
 cases f with
 | zero => omega
 | succ f =>
  by_cases hul : gm < l.length
  ·rw [decide_eq_true (show (gm : Int) < l.length by omega), Eng.cond_true]
   unfold M.cp.j2
   have hw1 : IntKind.i64.wrap ((gm : Int) + 8192) = ((gm + 8192 : Nat) : Int) := by rw [fl (by omega) (by omega)]; omega
   have hw2 : IntKind.i64.wrap (((gm + 8192 : Nat) : Int) + 8) = ((gm + 8200 : Nat) : Int) := by rw [fl (by omega) (by omega)]; omega
   simp only [fi, q3, q4, q5, hlen, iw, hw1, hw2, ahg]
   obtain ⟨e, he⟩ : ∃ e : Nat, min (l.length : Int) ((gm + 8200 : Nat) : Int) = (e : Int) ∧ gm ≤ e ∧ e ≤ l.length ∧ (l.drop gm).take (e - gm) = (l.drop gm).take 8200 := by
    by_cases hm : l.length ≤ gm + 8200
    ·refine ⟨l.length, by omega, by omega, Nat.le_refl _, ?_⟩
     rw [List.take_of_length_le (by simp), List.take_of_length_le (by simp; omega)]
    ·exact ⟨gm + 8200, by omega, by omega, by omega, by rw [Nat.add_sub_cancel_left]⟩
   obtain ⟨he1, he2, he3, he4⟩ := he
   rw [he1]
   obtain ⟨va, sa, pa, ra⟩ := s1.sub (P := P) (t := T.c) (lo := some (.int .i64 (gm : Nat))) (hi := some (.int .i64 (e : Nat))) (i := gm) (j := e) (by kernel_rfl) (by kernel_rfl) (.inr ⟨_, rfl⟩) (.inr ⟨_, rfl⟩) he2 he3
   rw [ra]
   have hrd : ∀ w' L, St w0 w' (L ++ (jg lv acc :: R)) → SlB w' va ((l.drop gm).take 8200) := fun w' L S' => by
    obtain ⟨vb, sb, _, rb⟩ := (hs w' (L ++ [jg lv acc]) (by simpa using S')).sub (P := P) (t := T.c) (lo := some (.int .i64 (gm : Nat))) (hi := some (.int .i64 (e : Nat))) (i := gm) (j := e) (by kernel_rfl) (by kernel_rfl) (.inr ⟨_, rfl⟩) (.inr ⟨_, rfl⟩) he2 he3
    rw [aqx ra rb w', ← he4]; exact sb
   refine bbf S1 hrd (by simp; omega) fun w2 dv rv S2 => ?_
   simp only [atw, avu, aul, akb]
   have hG : wz l (f + 1) gm = match (vg ((l.drop gm).take 8200)).1 with
    | none => ([], gm)
    | some d => (d :: (wz l f (gm + d.length + 8)).1, (wz l f (gm + d.length + 8)).2) := by rw [wz, if_pos hul]
   have hck := avo ((l.drop gm).take 8200)
   generalize vg ((l.drop gm).take 8200) = c at *
   obtain ⟨co, ck⟩ := c
   rcases hck with ⟨k0, d, hd, hdl⟩ | ⟨k0, hd⟩
   ·simp only at k0 hd hG S2
    subst k0 hd
    simp only [Option.getD_some] at S2 hG
    have hdl' : d.length + 8 ≤ l.length - gm := by simp at hdl; omega
    obtain ⟨da, dc, hdv, _⟩ : SlB w2 dv d := S2.row ij
    simp
    unfold M.cp.j3
    have hsv : dv = SV.v ⟨da, d.length, dc⟩ := hdv
    have hdlen : ∀ w' K', biT P .len #[T.c] T.a [false] [dv] w' K' = K' (.int .i64 d.length) w' := fun w' K' => (S2.row ij : SlB w2 dv d).ig (by kernel_rfl) [false]
    have r3 : gv [lv, .int .i64 (gm : Nat), u5] 0 = lv := rfl
    have r4 : gv [lv, .int .i64 (gm : Nat), u5] 1 = .int .i64 (gm : Nat) := rfl
    have r5 : gv [lv, .int .i64 (gm : Nat), u5] 2 = u5 := rfl
    have hw3 : IntKind.i64.wrap ((d.length : Int) + 8) = ((d.length + 8 : Nat) : Int) := by rw [fl (by omega) (by omega)]; omega
    have hw4 : IntKind.i64.wrap ((gm : Int) + ((d.length + 8 : Nat) : Int)) = ((gm + d.length + 8 : Nat) : Int) := by rw [fl (by omega) (by omega)]; omega
    simp only [r3, r4, r5, hdlen, iw, hw3, hw4]
    rw [hsv] at S2 ⊢
    refine aav S2 (by omega) fun w3 v3 S3 => ?_
    refine ⟨⟨_, _, _, _, v3, acc ++ [d], gm + d.length + 8, f, rfl, by omega, by omega, by simp; omega, ?_, S3⟩, ?_⟩
    ·rw [heq, hG]; simp
    ·simp [ms, gv]; omega
   ·simp only at k0 hd hG S2
    subst hd
    rw [heq, hG, List.append_nil] at h
    rw [decide_eq_true k0, Eng.cond_true]
    exact h w2 lv ck S2.drop
  ·rw [decide_eq_false (show ¬ (gm : Int) < l.length by omega), Eng.cond_false]
   have hG : wz l (f + 1) gm = ([], gm) := by rw [wz, if_neg hul]
   rw [heq, hG, List.append_nil] at h
   exact h w1 lv 0 S1
end
def cat (ds : List (List Int)) : List Int := ds.flatMap gu
theorem avb {n : Nat} (hn : n < 4294967296) (r : List Int) (k : Nat) (hk : 4 ≤ k) : uw ((sw (n : Int) ++ r).take k) = n := by
 have e : (sw (n : Int) ++ r).take k = sw (n : Int) ++ r.take (k - 4) := by
  rw [List.take_append, List.take_of_length_le (by rw [pm]; omega), pm]
 rw [e, afe hn]
theorem aug {d : List Int} (hd : d.length ≤ 8192) (r : List Int) : vg (gu d ++ r) = (some d, 0) := by
 have hl := kz d
 have hb : (sy d).length = 4 + d.length := by unfold sy; simp [pm]
 have hu : uw (gu d ++ r) = (d.length : Int) := by
  unfold gu sy
  rw [List.append_assoc, List.append_assoc]
  exact afe (by omega) _
 unfold vg
 rw [hu, if_neg (by simp; omega), if_neg (by omega), if_neg (by simp; omega), Int.toNat_natCast]
 have e1 : (gu d ++ r).take (4 + d.length) = sy d := by
  unfold gu
  rw [List.append_assoc, List.take_left' hb]
 have e2 : uw ((gu d ++ r).drop (4 + d.length)) = xy (sy d) := by
  unfold gu
  rw [List.append_assoc, List.drop_left' hb]
  obtain ⟨n, hn, hn2⟩ := anu (sy d)
  rw [hn]; exact afe hn2 r
 have e3 : ((gu d ++ r).drop 4).take d.length = d := by
  unfold gu sy
  rw [List.append_assoc, List.append_assoc, List.drop_left' (pm _), List.take_left' rfl]
 rw [e1, e2, if_neg (by simp), e3]
theorem azc {d : List Int} (hd : d.length ≤ 8192) {k : Nat} (hk : k < (gu d).length) : (vg ((gu d).take k)).1 = none := by
 have hl := kz d
 unfold vg
 by_cases h4 : k < 4
 ·rw [if_pos (by simp; omega)]
 ·have hu : uw ((gu d).take k) = (d.length : Int) := by
   unfold gu sy
   rw [List.append_assoc]
   exact avb (by omega) _ k (by omega)
  rw [if_neg (by simp; omega), hu, if_neg (by omega), if_pos (by simp; omega)]
def aeo (p : List Int) : Prop := ∃ (d : List Int) (k : Nat), d.length ≤ 8192 ∧ k < (gu d).length ∧ p = (gu d).take k
theorem aon : aeo [] := ⟨[], 0, by simp, by rw [kz]; simp, by simp⟩
theorem ayo {ds : List (List Int)} (hd : ∀ d ∈ ds, d.length ≤ 8192) {p : List Int} (hp : aeo p) : ∀ (a : List Int) (f : Nat), (a ++ cat ds ++ p).length < f + a.length → wz (a ++ cat ds ++ p) f a.length = (ds, (a ++ cat ds).length) := by
 induction ds with
 | nil =>
  intro a f hf
  simp only [cat, List.flatMap_nil, List.append_nil]
  cases f with
  | zero => simp [cat] at hf; omega
  | succ f =>
   rw [wz]
   by_cases hlt : a.length < (a ++ p).length
   ·rw [if_pos hlt, List.drop_left' rfl]
    obtain ⟨d, k, h1, h2, rfl⟩ := hp
    have hl := kz d
    rw [List.take_take, azc h1 (by omega)]
   ·rw [if_neg hlt]
 | cons d ds ih =>
  intro a f hf
  have hdd := hd d (by simp)
  have hl := kz d
  have e0 : cat (d :: ds) = gu d ++ cat ds := by simp [cat]
  rw [e0] at hf ⊢
  cases f with
  | zero => simp at hf; omega
  | succ f =>
   rw [wz, if_pos (by simp; omega)]
   have e1 : ((a ++ (gu d ++ cat ds) ++ p).drop a.length).take 8200 = gu d ++ (cat ds ++ p).take (8200 - (gu d).length) := by
    rw [List.append_assoc, List.drop_left' rfl, List.append_assoc, List.take_append, List.take_of_length_le (by omega)]
   rw [e1, aug hdd]
   have e2 : a ++ (gu d ++ cat ds) ++ p = (a ++ gu d) ++ cat ds ++ p := by simp
   have e3 : a.length + d.length + 8 = (a ++ gu d).length := by simp; omega
   have := ih (fun x hx => hd x (by simp [hx])) (a ++ gu d) f (by rw [e2] at hf; simp at hf ⊢; omega)
   simp only
   rw [e2, e3, this]
   simp [cat]
theorem amt {ds : List (List Int)} (hd : ∀ d ∈ ds, d.length ≤ 8192) {p : List Int} (hp : aeo p) : rk (cat ds ++ p) = (ds, (cat ds).length) := by
 have := ayo hd hp [] ((cat ds ++ p).length + 1) (by simp)
 simpa [rk] using this
set_option maxRecDepth 100000
open Go.Eng
def lx (p : Nat) : List Value := [.pointer (some ⟨p, 0, none⟩)]
theorem qr (p : Nat) : (lx p).length = 1 := rfl
theorem awl (p : Nat) : ∀ u ∈ lx p, jt u = true := fun u hu => by simp [lx] at hu; subst hu; rfl
open Go.Eng Go.Proofs.YtfnhoaemapheoaaGreat.Sint
structure Prt where
 no : Int
 first : Int
 fp : List (List Int)
 size : Int
structure Lg where
 fy : Int
 fj : List Prt
def qo (q : Prt) (v : Value) : Array Value := #[.int .i64 q.no, .int .i64 q.first, v, .int .i64 q.size]
def azb (p : Nat) (v : Value) (q : Prt) : List Asn := [fu p (qo q v) T.ad, jg v q.fp]
def lg (p : Nat) (q : Prt) : Asn where
 ok w B := ∃ v, Rs (azb p v q) w B
 jc := by
  rintro w w' B S ⟨v, h⟩ hf hn
  exact ⟨v, h.jc hf hn⟩
def il (p : Nat) : Value := .pointer (some ⟨p, 0, none⟩)
def ll (hb : Nat) (fy : Int) (v : Value) : Array Value := #[.pointer (some ⟨hb, 0, none⟩), .int .i64 fy, v]
def ayz (p hb : Nat) (v : Value) (ps : List Nat) (L : Lg) : List Asn := [fu p (ll hb L.fy v) T.x, Eng.jb T.z 1 lx v ps, pj lg ps L.fj]
def jx (p hb : Nat) (L : Lg) : Asn where
 ok w B := ∃ v ps, ps.length = L.fj.length ∧ Rs (ayz p hb v ps L) w B
 jc := by
  rintro w w' B S ⟨v, ps, h1, h2⟩ hf hn
  exact ⟨v, ps, h1, h2.jc hf hn⟩
def Lg.next (L : Lg) : Int := match L.fj.getLast? with
 | none => 0
 | some q => IntKind.i64.wrap (q.first + q.fp.length)
section
variable {w0 w : World} {R : List Asn} {p hb : Nat} {v : Value} {ps : List Nat} {L : Lg} {q : Prt}
theorem sj (S : St w0 w (lg p q :: R)) : ∃ v, St w0 w (fu p (qo q v) T.ad :: jg v q.fp :: R) := by
 obtain ⟨B, ⟨v, h⟩, _, cl⟩ := S.open
 exact ⟨v, cl w (azb p v q) (Fr.refl _ _) (h.mono fun b hb => .inl hb)⟩
theorem aim (S : St w0 w (fu p (qo q v) T.ad :: jg v q.fp :: R)) : St w0 w (lg p q :: R) := by
 obtain ⟨U, h1, _, g⟩ := St.yr (L := azb p v q) (R := R) S
 exact g w [lg p q] (Fr.refl _ _) ⟨U, ⟨v, h1⟩, fun b hb => .inl hb, trivial⟩
theorem afv (S : St w0 w (jx p hb L :: R)) : ∃ v ps, ps.length = L.fj.length ∧ St w0 w (fu p (ll hb L.fy v) T.x :: Eng.jb T.z 1 lx v ps :: pj lg ps L.fj :: R) := by
 obtain ⟨B, ⟨v, ps, h1, h2⟩, _, cl⟩ := S.open
 exact ⟨v, ps, h1, cl w (ayz p hb v ps L) (Fr.refl _ _) (h2.mono fun b hb => .inl hb)⟩
theorem wv (h : ps.length = L.fj.length) (S : St w0 w (fu p (ll hb L.fy v) T.x :: Eng.jb T.z 1 lx v ps :: pj lg ps L.fj :: R)) : St w0 w (jx p hb L :: R) := by
 obtain ⟨U, h1, _, g⟩ := St.yr (L := ayz p hb v ps L) (R := R) S
 exact g w [jx p hb L] (Fr.refl _ _) ⟨U, ⟨v, ps, h, h1⟩, fun b hb => .inl hb, trivial⟩
theorem kj {fy : Int} (h : w.heap[p]? = some (.cells (ll hb fy v) T.x (0, 0))) : fm w p 0 = some (.pointer (some ⟨hb, 0, none⟩)) ∧ fm w p 1 = some (.int .i64 fy) ∧ fm w p 2 = some v ∧ ∀ i, nt w p i = false :=
 ⟨by rw [fo h]; rfl, by rw [fo h]; rfl, by rw [fo h]; rfl, lb h⟩
theorem jm (h : w.heap[p]? = some (.cells (qo q v) T.ad (0, 0))) : fm w p 0 = some (.int .i64 q.no) ∧ fm w p 1 = some (.int .i64 q.first) ∧ fm w p 2 = some v ∧ fm w p 3 = some (.int .i64 q.size) ∧ ∀ i, nt w p i = false :=
 ⟨by rw [fo h]; rfl, by rw [fo h]; rfl, by rw [fo h]; rfl, by rw [fo h]; rfl, lb h⟩
theorem zv (S : St w0 w (Eng.jb T.z 1 lx v ps :: R)) {j : Nat} (hj : j < ps.length) : ∃ b o, (∀ w' K, iaT P T.l v (.int .i64 (j : Nat)) w' K = K (.pointer (some ⟨b, o, none⟩)) w') ∧ ∀ {w1 : World} {R1 : List Asn}, St w0 w1 (Eng.jb T.z 1 lx v ps :: R1) → fm w1 b o = some (il ps[j]) := by
 obtain ⟨b, o, cap, hv, _, _, hc⟩ := (S.jb qr : Sl w 1 lx v ps).at hj
 refine ⟨b, o + j, fun w' K => by rw [hv]; simp [hj], fun {w1 R1} S1 => ?_⟩
 obtain ⟨b', o', cap', hv', _, _, hc'⟩ := (S1.jb qr : Sl w1 1 lx v ps).at hj
 have hx := hv.symm.trans hv'
 cases hx
 have c0 := hc' 0 _ rfl
 simp only [Nat.mul_one, Nat.add_zero] at c0
 exact c0
theorem vv (S : St w0 w (Eng.jb T.z 1 lx v ps :: R)) (w' : World) (K : KV) : biT P .len #[T.l] T.a [false] [v] w' K = K (.int .i64 ps.length) w' := by rw [(S.jb qr : Sl w 1 lx v ps).ig (by kernel_rfl)]
theorem zu (hl : ps.length = L.fj.length) (S : St w0 w (fu p (ll hb L.fy v) T.x :: Eng.jb T.z 1 lx v ps :: R)) (hfew : ps.length ≤ 1000000) {K : KV} (h0 : ps = [] → K (.pointer none) w) (h1 : ∀ (hp : 0 < ps.length) w', Fr (fun _ => False) w w' → K (il (ps[ps.length - 1]'(by omega))) w') : fe P F.br [il p] w K := by
 rw [M.cx.fcall]
 apply M.cx.calls
 unfold M.cx il
 obtain ⟨c0, c1, c2, _⟩ := kj S.blk
 have hlen := fun w' K => vv S.swap w' K
 by_cases hz : ps.length = 0
 ·simp [c2, hlen, hz]
  exact h0 (List.length_eq_zero_iff.1 hz)
 ·have hp : 0 < ps.length := by omega
  have hz' : ¬ ps = [] := fun h => hz (by rw [h]; rfl)
  obtain ⟨b, o, hia, hc⟩ := zv S.swap (j := ps.length - 1) (by omega)
  have cc : fm w b o = some (il (ps[ps.length - 1]'(by omega))) := hc S.swap
  have hw : IntKind.i64.wrap ((ps.length : Int) - 1) = ((ps.length - 1 : Nat) : Int) := by rw [fl (by omega) (by omega)]; omega
  simp [c2, hlen, hz']
  unfold M.cx.j0
  simp [c2, hlen, hw, hia, cc]
  exact h1 hp _ ((Fr.refl _ w).dr 1)
theorem abp {qs : List Prt} (h : 0 < qs.length) : qs.getLast? = some (qs[qs.length - 1]'(by omega)) := by
 rw [List.getLast?_eq_getElem?, List.getElem?_eq_getElem (by omega)]
theorem agn (hl : ps.length = L.fj.length) (S : St w0 w (fu p (ll hb L.fy v) T.x :: Eng.jb T.z 1 lx v ps :: pj lg ps L.fj :: R)) (hfew : ps.length ≤ 1000000) {K : KV} (h : ∀ w', Fr (fun _ => False) w w' → K (.int .i64 L.next) w') : fe P F.cj [il p] w K := by
 rw [M.cw.fcall]
 apply M.cw.calls
 unfold M.cw
 refine zu hl S hfew (fun hz => ?_) fun hp w1 f1 => ?_
 ·have : L.fj = [] := List.length_eq_zero_iff.1 (by rw [← hl, hz]; rfl)
  have hn : L.next = 0 := by unfold Lg.next; rw [this]; rfl
  rw [hn] at h
  simp
  exact h w (Fr.refl _ _)
 ·have hj : ps.length - 1 < L.fj.length := by omega
  have S1 := S.iq f1
  obtain ⟨v', S2⟩ := sj (uk hl hj S1.up2)
  obtain ⟨_, d1, d2, _, _⟩ := jm S2.blk
  have hn : L.next = IntKind.i64.wrap ((L.fj[ps.length - 1]).first + (L.fj[ps.length - 1]).fp.length) := by
   unfold Lg.next
   rw [abp (by omega)]
   simp only [hl]
  rw [hn] at h
  generalize L.fj[ps.length - 1] = q at *
  have hlen := fun w' K => xk S2.swap w' K
  simp only [il]
  simp
  unfold M.cw.j0
  simp [d1, d2, hlen]
  exact h _ (f1.dr 1)
def Lg.jj (L : Lg) : Int := match L.fj with
 | [] => 0
 | q :: _ => q.first
theorem axo (S : St w0 w (jx p hb L :: R)) {K : KV} (h : K (.int .i64 L.jj) w) : fe P F.dk [il p] w K := by
 obtain ⟨v, ps, hl, S1⟩ := afv S
 rw [M.cr.fcall]
 apply M.cr.calls
 unfold M.cr il
 obtain ⟨c0, c1, c2, _⟩ := kj S1.blk
 have hlen := fun w' K => vv S1.swap w' K
 unfold Lg.jj at h
 cases hq : L.fj with
 | nil =>
  rw [hq] at h hl
  have hz : ps = [] := List.length_eq_zero_iff.1 hl
  subst hz
  simp [c2, hlen]
  exact h
 | cons q qs =>
  rw [hq] at h hl S1
  have hz : 0 < ps.length := by rw [hl]; simp
  have hz' : ¬ ps = [] := fun h => by rw [h] at hz; simp at hz
  obtain ⟨b, o, hia, hc⟩ := zv S1.swap (j := 0) hz
  have hia0 : ∀ w' K, iaT P T.l v (.int .i64 0) w' K = K (.pointer (some ⟨b, o, none⟩)) w' := hia
  have cc : fm w b o = some (.pointer (some ⟨ps[0], 0, none⟩)) := hc S1.swap
  obtain ⟨v', S2⟩ := sj (uk (j := 0) hl (by simp) S1.up2)
  obtain ⟨_, d1, _⟩ := jm S2.blk
  simp only [List.getElem_cons_zero] at d1
  simp [c2, hlen, hz']
  unfold M.cr.j0
  simp [c2, hia0, cc, d1]
  exact h
def Lg.lc (L : Lg) (D : Dk) : Dk × Int := if D.gc then (D, 10) else match L.fj.getLast? with
 | none => (D, 0)
 | some q => D.lc q.no
theorem apb {D : Dk} (S : St w0 w (jx p hb L :: fx hb D :: R)) (hfew : L.fj.length ≤ 1000000) {K : KV} (h : ∀ w', St w0 w' (jx p hb L :: fx hb (L.lc D).1 :: R) → K (.int .i64 (L.lc D).2) w') : fe P F.da [il p] w K := by
 obtain ⟨v, ps, hl, S1⟩ := afv S
 rw [M.cv.fcall]
 apply M.cv.calls
 unfold M.cv
 obtain ⟨c0, c1, c2, _⟩ := kj S1.blk
 simp only [il]
 simp [c0]
 refine ach S1.up3 ?_
 unfold Lg.lc at h
 cases hd : D.gc with
 | true =>
  rw [hd] at h
  simp
  exact h w S
 | false =>
  rw [hd] at h
  simp only [Bool.false_eq_true, if_false] at h
  simp
  refine zu hl S1 (by omega) (fun hz => ?_) fun hp w1 f1 => ?_
  ·have : L.fj = [] := List.length_eq_zero_iff.1 (by rw [← hl, hz]; rfl)
   rw [this] at h
   simp
   exact h w S
  ·simp only [il]
   simp
   unfold M.cv.j0
   have S2 := S1.iq f1
   obtain ⟨e0, _, _, _⟩ := kj S2.blk
   have S3 := S2.iq ((Fr.refl _ w1).dr 1)
   simp [e0]
   refine zu hl S3 (by omega) (fun hz => by rw [hz] at hp; simp at hp) fun hp w2 f2 => ?_
   have S4 := S3.iq f2
   obtain ⟨g0, _, _, _⟩ := kj S4.blk
   have hj : ps.length - 1 < L.fj.length := by omega
   obtain ⟨v', S5⟩ := sj (uk hl hj S4.up2)
   obtain ⟨d0, _, _, _, _⟩ := jm S5.blk
   have hgl : L.fj.getLast? = some (L.fj[ps.length - 1]) := by rw [abp (by omega)]; simp only [hl]
   rw [hgl] at h
   simp only at h
   simp [il, g0, d0]
   refine aqn S4.up3 _ fun w3 S6 => ?_
   exact h w3 (wv hl S6.dn3)
end
set_option maxRecDepth 100000
open Go.Eng Go.Proofs.YtfnhoaemapheoaaGreat.Sint
def Lg.all (L : Lg) : List (List Int) := L.fj.flatMap Prt.fp
section
variable {w0 w : World} {R : List Asn} {p hb : Nat} {v : Value} {ps : List Nat} {L : Lg} {q : Prt}
theorem afm {l : List Int} (S : St w0 w (je v l :: R)) : ∃ s : SV, v = s.v := by
 obtain ⟨a, c, hv, _⟩ : SlB w v l := S.row ij
 exact ⟨⟨a, l.length, c⟩, hv⟩
def RiI (w0 : World) (rv : Value) (acc ls : List (List Int)) (R : List Asn) : KL := fun x w1 => ∃ (u0 av : Value) (j : Nat), x = [u0, av, .int .i64 (j : Nat)] ∧ j ≤ ls.length ∧ St w0 w1 (jg av (acc ++ ls.take j) :: jg rv ls :: R)
def RoI (w0 : World) (p hb : Nat) (L : Lg) (v : Value) (ps : List Nat) (R : List Asn) : KL := fun x w1 => ∃ (u0 u1 u2 u3 u4 av : Value) (i : Nat), x = [u0, u1, u2, u3, u4, av, .int .i64 (i : Nat)] ∧ i ≤ L.fj.length ∧
 St w0 w1 (jg av ((L.fj.take i).flatMap Prt.fp) :: fu p (ll hb L.fy v) T.x :: Eng.jb T.z 1 lx v ps :: pj lg ps L.fj :: R)
theorem azw {qs : List Prt} {i : Nat} (hi : i < qs.length) (j : Nat) : ((qs.take i).flatMap Prt.fp ++ (qs[i].fp).take j).length ≤ (qs.flatMap Prt.fp).length := by
 have e : qs.flatMap Prt.fp = (qs.take i).flatMap Prt.fp ++ (qs[i].fp ++ (qs.drop (i + 1)).flatMap Prt.fp) := by
  conv => lhs; rw [← List.take_append_drop i qs, List.drop_eq_getElem_cons hi]
  rw [List.flatMap_append, List.flatMap_cons]
 rw [e]
 simp only [List.length_append, List.length_take]
 omega
theorem bbd (S : St w0 w (jx p hb L :: R)) (hfew : L.fj.length ≤ 1000000) (hall : L.all.length ≤ 1000000) (hrec : ∀ q ∈ L.fj, ∀ d ∈ q.fp, d.length ≤ 100000000) {K : KV} (h : ∀ w' v', St w0 w' (jg v' L.all :: jx p hb L :: R) → K v' w') : fe P F.bg [il p] w K := by
 obtain ⟨v, ps, hl, S1⟩ := afv S
 rw [M.au.fcall]
 apply M.au.calls
 unfold M.au il
 obtain ⟨c0, c1, c2, _⟩ := kj S1.blk
 have hlen := fun w' K => vv S1.swap w' K
 simp
 unfold M.au.j0
 simp [c2, hlen]
 have S2 := ajr S1
 refine ⟨RoI w0 p hb L v ps R, fun x _ => L.fj.length - ms x 6, ⟨_, _, _, _, _, _, 0, rfl, Nat.zero_le _, S2⟩, ?_⟩
 rintro x w1 ⟨u0, u1, u2, u3, u4, av, i, rfl, hi, S3⟩
 by_cases hlt : i < L.fj.length
 ·have hltp : i < ps.length := by omega
  have hlti : (i : Int) < (ps.length : Int) := by omega
  obtain ⟨b, o, hia, hc⟩ := zv S3.up2 (j := i) hltp
  have cc : fm w1 b o = some (il ps[i]) := hc S3.up2
  simp [hlti]
  unfold M.au.j3
  obtain ⟨rv, S4⟩ := sj (uk hl hlt S3.up3)
  obtain ⟨_, _, d2, _, _⟩ := jm S4.blk
  have hq2 := hrec _ (List.getElem_mem hlt : L.fj[i] ∈ L.fj)
  have hrl : ∀ j, ((L.fj.take i).flatMap Prt.fp ++ (L.fj[i].fp).take j).length ≤ 1000000 := fun j => Nat.le_trans (azw hlt j) hall
  have hnext : (L.fj.take i).flatMap Prt.fp ++ L.fj[i].fp = (L.fj.take (i + 1)).flatMap Prt.fp := by rw [List.take_succ_eq_append_getElem hlt, List.flatMap_append]; simp
  have S5 : St w0 w1 (jg av ((L.fj.take i).flatMap Prt.fp) :: jg rv L.fj[i].fp :: fu ps[i] (qo L.fj[i] rv) T.ad :: agr lg ps L.fj i :: fu p (ll hb L.fy v) T.x :: Eng.jb T.z 1 lx v ps :: R) := S4.up3.perm (.cons _ (.swap _ _ _))
  have hback : ∀ {w2 : World} {av' : Value} {A : List (List Int)}, St w0 w2 (jg av' A :: jg rv L.fj[i].fp :: fu ps[i] (qo L.fj[i] rv) T.ad :: agr lg ps L.fj i :: fu p (ll hb L.fy v) T.x :: Eng.jb T.z 1 lx v ps :: R) → St w0 w2 (jg av' A :: fu p (ll hb L.fy v) T.x :: Eng.jb T.z 1 lx v ps :: pj lg ps L.fj :: R) := fun T => (awz hl hlt (aim (St.dn3 (T.perm (.cons _ (.swap _ _ _)))))).dn3
  generalize (L.fj.take i).flatMap Prt.fp = A at *
  generalize hrs : L.fj[i].fp = rs at *
  generalize fu ps[i] (qo L.fj[i] rv) T.ad :: agr lg ps L.fj i :: fu p (ll hb L.fy v) T.x :: Eng.jb T.z 1 lx v ps :: R = R' at S5 hback
  have hlen2 := fun w' K => xk S5.swap w' K
  simp only [il] at cc d2
  simp [il, hia, cc, d2, hlen2]
  have h0 : RiI w0 rv A rs R' [gv [u0, u1, u2, u3, u4, av, .int .i64 (i : Nat)] 4, gv [u0, u1, u2, u3, u4, av, .int .i64 (i : Nat)] 5, .int .i64 ((0 : Nat) : Int)] w1 := ⟨_, _, 0, rfl, Nat.zero_le _, by rw [List.take_zero, List.append_nil]; exact S5⟩
  refine ⟨RiI w0 rv A rs R', fun x _ => rs.length - ms x 2, h0, ?_⟩
  rintro x w2 ⟨t0, bv, j, rfl, hj, S6⟩
  by_cases hltj : j < rs.length
  ·have hltji : (j : Int) < (rs.length : Int) := by omega
   obtain ⟨b2, o2, s, hia2, _, hc2, hs2⟩ := ack S6.swap hltj
   simp [hltji]
   unfold M.au.j6
   simp only [SV.v] at hc2
   simp [hia2, hc2]
   refine yd S6 hs2 (hq2 _ (List.getElem_mem hltj)) fun w3 v3 S7 => ?_
   obtain ⟨s3, rfl⟩ := afm S7
   refine aav S7 (Nat.le_trans (by simp) (hrl j)) fun w4 v4 S8 => ?_
   rw [List.append_assoc, ← List.take_succ_eq_append_getElem hltj] at S8
   have hw : IntKind.i64.wrap ((j : Int) + 1) = ((j + 1 : Nat) : Int) := by have := hrl rs.length; simp at this; rw [fl (by omega) (by omega)]; omega
   try simp
   rw [hw]
   refine ⟨⟨_, _, j + 1, rfl, hltj, S8⟩, ?_⟩
   simp [ms, gv]; omega
  ·have hge : ¬ (j : Int) < (rs.length : Int) := by omega
   simp [hge]
   have hw : IntKind.i64.wrap ((i : Int) + 1) = ((i + 1 : Nat) : Int) := by rw [fl (by omega) (by omega)]; omega
   rw [hw]
   rw [List.take_of_length_le (by omega), hnext] at S6
   refine ⟨⟨_, _, _, _, _, _, i + 1, rfl, hlt, hback S6⟩, ?_⟩
   simp [ms, gv]; omega
 ·have hge : ¬ (i : Int) < (ps.length : Int) := by omega
  simp [hge]
  have he : (L.fj.take i).flatMap Prt.fp = L.all := by rw [List.take_of_length_le (by omega)]; rfl
  rw [he] at S3
  exact h w1 av (wv hl S3.dn3).swap
end
set_option maxRecDepth 100000
open Go.Eng Go.Proofs.YtfnhoaemapheoaaGreat.Sint
def jw (n : Int) : List Prt → Dk → (List Prt × Dk) × Int
 | q :: q2 :: r, D => if q2.first ≤ n then (if (D.mu q.no).2 = 0 then jw n (q2 :: r) (D.mu q.no).1 else ((q :: q2 :: r, (D.mu q.no).1), (D.mu q.no).2)) else ((q :: q2 :: r, D), 0)
 | qs, D => ((qs, D), 0)
def Lg.drop (L : Lg) (D : Dk) (n : Int) : (Lg × Dk) × Int := if n < 0 ∨ L.next < n then ((L, D), 1) else if D.gc then ((L, D), 10) else (({ L with fj := (jw n L.fj D).1.1 }, (jw n L.fj D).1.2), (jw n L.fj D).2)
section
variable {w0 w : World} {R : List Asn} {p hb : Nat} {v : Value} {ps : List Nat} {L : Lg} {q : Prt} {D : Dk}
theorem zk {cs cs' : Array Value} {e : TypeId} {b i : Nat} {u : Value} (S : St w0 w (fu b cs e :: R)) (hc : cs.setIfInBounds i u = cs') : St w0 (w.setCell ⟨b, i, none⟩ u) (fu b cs' e :: R) :=
 S.kh ((Fr.refl (fun x => x = b) w).setCell (.inl rfl) _ _) ((jz S.blk).trans (by rw [hc]))
def amk (p : Nat) (w : World) : Nat := match fm w p 2 with
 | some (.slice _ n _) => n
 | _ => 0
def dkL (p hb : Nat) (fy : Int) (v : Value) (ps : List Nat) (qs : List Prt) (D : Dk) (R : List Asn) : List Asn := fu p (ll hb fy v) T.x :: Eng.jb T.z 1 lx v ps :: pj lg ps qs :: fx hb D :: R
theorem aqs {fy : Int} {qs : List Prt} (hl : ps.length = qs.length) (S : St w0 w (dkL p hb fy v ps qs D R)) : amk p w = qs.length := by
 unfold dkL at S
 obtain ⟨_, _, c2, _⟩ := kj S.blk
 obtain ⟨a, c, hv, _⟩ := (S.swap.jb qr : Sl w 1 lx v ps)
 unfold amk
 rw [c2, hv]
 exact hl
def DpI (w0 : World) (p hb : Nat) (n : Int) (L : Lg) (D : Dk) (R : List Asn) : KL := fun x w1 => ∃ (u0 u1 v : Value) (ps : List Nat) (qs : List Prt) (D' : Dk), x = [u0, u1] ∧ ps.length = qs.length ∧ qs.length ≤ 1000000 ∧ jw n L.fj D = jw n qs D' ∧ St w0 w1 (dkL p hb L.fy v ps qs D' R)
theorem ath {n : Int} {qs : List Prt} (h : ∀ (h1 : 1 < qs.length), n < qs[1].first) : jw n qs D = ((qs, D), 0) := by
 match qs with
 | [] => rfl
 | [q] => rfl
 | q :: q2 :: r =>
  have := h (by simp)
  simp only [List.getElem_cons_succ, List.getElem_cons_zero] at this
  rw [jw, if_neg (by omega)]
theorem avr (S : St w0 w (dkL p hb L.fy v ps L.fj D R)) (hl : ps.length = L.fj.length) (hfew : L.fj.length ≤ 1000000) (n : Int) {u0 u1 : Value} {K : KV}
  (h : ∀ w' v' ps', ps'.length = (jw n L.fj D).1.1.length → St w0 w' (dkL p hb L.fy v' ps' (jw n L.fj D).1.1 (jw n L.fj D).1.2 R) → K (.int .i64 (jw n L.fj D).2) w') :
  gt [u0, u1] w fun K2 x2 w => M.bf.j2 (il p) (.int .i64 n) (fun _ w => K (.int .i64 0) w) x2 K2 w K := by
 refine ⟨DpI w0 p hb n L D R, fun _ w => amk p w, ⟨_, _, v, ps, L.fj, D, rfl, hl, hfew, rfl, S⟩, ?_⟩
 rintro x w1 ⟨t0, t1, v, ps, qs, D', rfl, hl, hfew, hdr, S1⟩
 have hmeas := aqs hl S1
 unfold dkL at S1
 unfold M.bf.j2
 obtain ⟨c0, c1, c2, _⟩ := kj S1.blk
 have hlen := fun w' K => vv S1.swap w' K
 simp only [il]
 have ft : (∀ (h1 : 1 < qs.length), n < qs[1].first) → K (.int .i64 0) w1 := fun hst => by
  have e := ath (D := D') hst
  rw [hdr, e] at h
  exact h w1 v ps hl S1
 by_cases h1 : 1 < qs.length
 ·have h1' : 1 < ps.length := by omega
  have h1i : (1 : Int) < (ps.length : Int) := by omega
  obtain ⟨b, o, hia, hc⟩ := zv S1.swap (j := 1) h1'
  have hia1 : ∀ w' K, iaT P T.l v (.int .i64 1) w' K = K (.pointer (some ⟨b, o, none⟩)) w' := hia
  have cc : fm w1 b o = some (il ps[1]) := hc S1.swap
  obtain ⟨rv, S2⟩ := sj (uk (j := 1) hl h1 S1.up2)
  obtain ⟨_, d1, _⟩ := jm S2.blk
  simp only [il] at cc
  simp [c2, hlen, h1i, hia1, cc, d1]
  by_cases hle : qs[1].first ≤ n
  ·simp [hle]
   unfold M.bf.j3
   obtain ⟨q, q2, r, rfl⟩ : ∃ q q2 r, qs = q :: q2 :: r := by
    match qs, h1 with
    | q :: q2 :: r, _ => exact ⟨q, q2, r, rfl⟩
   obtain ⟨b', o', hia', hc'⟩ := zv S1.swap (j := 0) (by omega)
   have hia0 : ∀ w' K, iaT P T.l v (.int .i64 0) w' K = K (.pointer (some ⟨b', o', none⟩)) w' := hia'
   have cc0 : fm w1 b' o' = some (il ps[0]) := hc' S1.swap
   obtain ⟨rv0, S3⟩ := sj (uk (j := 0) hl (by simp) S1.up2)
   obtain ⟨e0, _⟩ := jm S3.blk
   simp only [List.getElem_cons_zero] at e0
   simp only [il] at cc0
   simp [c0, c2, hia0, cc0, e0]
   refine akr (S1.iq ((Fr.refl _ w1).dr 1)).up3 q.no fun w2 S4 => ?_
   have S5 := S4.dn3
   have hle' : q2.first ≤ n := hle
   rw [jw, if_pos hle'] at hdr
   by_cases hk : (D'.mu q.no).2 = 0
   ·rw [if_pos hk] at hdr
    rw [hk]
    simp
    unfold M.bf.j4
    obtain ⟨g0, g1, g2, gz⟩ := kj S5.blk
    cases ps with
    | nil => simp at h1'
    | cons p0 ps =>
     obtain ⟨v', S6, hsl⟩ := S5.swap.bdc (P := P) (t := T.l) qr (by kernel_rfl) (by kernel_rfl) (i := 1) (by simp) (k := .i64)
     have hsl1 : ∀ w1 K, slT P T.l v (some (.int .i64 1)) none none w1 K = K v' w1 := hsl
     have S7 : St w0 w2 (Eng.jb T.z 1 lx v' ps :: pj lg ps (q2 :: r) :: fu p (ll hb L.fy v) T.x :: fx hb (D'.mu q.no).1 :: R) := (aye S6.up2).swap
     obtain ⟨a', cap', hv', _⟩ := (S7.jb qr : Sl w2 1 lx v' ps)
     generalize ps.length = n1 at hv'
     subst hv'
     have S8 : St w0 (w2.setCell ⟨p, 2, none⟩ (.slice a' n1 cap')) (fu p (ll hb L.fy (.slice a' n1 cap')) T.x :: _) := zk S7.up2 (cs' := ll hb L.fy (.slice a' n1 cap')) rfl
     simp [g2, hsl1, gz]
     have hnew : St w0 (w2.setCell ⟨p, 2, none⟩ (.slice a' n1 cap')) (dkL p hb L.fy (.slice a' n1 cap') ps (q2 :: r) (D'.mu q.no).1 R) := S8
     refine ⟨⟨_, _, _, ps, q2 :: r, _, rfl, by simpa using hl, by simp at hfew ⊢; omega, hdr, hnew⟩, ?_⟩
     rw [hmeas, aqs (by simpa using hl) hnew]
     simp
   ·rw [if_neg hk] at hdr
    have hkd : decide ((D'.mu q.no).2 = 0) = false := decide_eq_false hk
    rw [hdr] at h
    simp [hk]
    exact h w2 v ps hl S5
  ·simp [hle]
   exact ft fun _ => by omega
 ·have h1i : ¬ (1 : Int) < (ps.length : Int) := by omega
  simp [c2, hlen, h1i]
  exact ft fun hx => (h1 hx).elim
theorem azx (S : St w0 w (jx p hb L :: fx hb D :: R)) (hfew : L.fj.length ≤ 1000000) (n : Int) {K : KV} (h : ∀ w', St w0 w' (jx p hb (L.drop D n).1.1 :: fx hb (L.drop D n).1.2 :: R) → K (.int .i64 (L.drop D n).2) w') : fe P F.dq [il p, .int .i64 n] w K := by
 obtain ⟨v, ps, hl, S1⟩ := afv S
 rw [M.bf.fcall]
 apply M.bf.calls
 unfold M.bf
 simp only [il]
 unfold Lg.drop at h
 by_cases hn : n < 0
 ·rw [if_pos (.inl hn)] at h
  simp [hn]
  exact h w S
 ·simp [hn]
  refine agn hl S1 (by omega) fun w1 f1 => ?_
  have S2 := S1.iq f1
  by_cases hx : L.next < n
  ·rw [if_pos (.inr hx)] at h
   simp [hx]
   exact h w1 (S.iq f1)
  ·rw [if_neg (by omega)] at h
   simp [hx]
   obtain ⟨c0, _⟩ := kj S2.blk
   simp [c0]
   refine ach S2.up3 ?_
   cases hd : D.gc with
   | true =>
    rw [hd] at h
    simp
    exact h w1 (S.iq f1)
   | false =>
    rw [hd] at h
    simp
    exact avr S2 hl hfew n fun w2 v' ps' hl' S3 => h w2 (wv (L := { L with fj := (jw n L.fj D).1.1 }) hl' S3)
end
set_option maxRecDepth 100000
open Go.Eng Go.Proofs.YtfnhoaemapheoaaGreat.Sint
def kw (n : Int) : List Int := gu (ka (IntKind.u64.wrap n))
theorem afl (n : Int) : (kw n).length = 16 := by unfold kw; rw [kz, oy]
def Lg.yb (L : Lg) (D : Dk) (rec : List Int) (no : Int) : (Lg × Dk) × Int :=
 if (D.append no (kw L.next ++ gu rec)).2 = 0 then (({ L with fj := L.fj ++ [⟨no, L.next, [rec], (kw L.next ++ gu rec).length⟩] }, (D.append no (kw L.next ++ gu rec)).1), 0)
 else ((L, (D.append no (kw L.next ++ gu rec)).1), (D.append no (kw L.next ++ gu rec)).2)
def Lg.xp (L : Lg) (D : Dk) (rec : List Int) : (Lg × Dk) × Int := match L.fj.getLast? with
 | none => L.yb D rec 0
 | some q => if 63 ≤ L.fj.length then ((L, D), 9) else if (D.lc q.no).2 = 0 then L.yb (D.lc q.no).1 rec ((q.no + 1) % 64) else ((L, (D.lc q.no).1), (D.lc q.no).2)
def Prt.pu (q : Prt) (rec : List Int) : Prt := { q with fp := q.fp ++ [rec], size := q.size + (gu rec).length }
def Lg.append (L : Lg) (D : Dk) (rec : List Int) : (Lg × Dk) × Int :=
 if 8192 < rec.length then ((L, D), 4) else match L.fj.getLast? with
 | none => L.xp D rec
 | some q => if L.fy ≤ q.size then L.xp D rec else if (D.append q.no (gu rec)).2 = 0 then (({ L with fj := L.fj.set (L.fj.length - 1) (q.pu rec) }, (D.append q.no (gu rec)).1), 0)
  else ((L, (D.append q.no (gu rec)).1), (D.append q.no (gu rec)).2)
structure LgB (L : Lg) : Prop where
 few : L.fj.length ≤ 64
 rng : ∀ q ∈ L.fj, 0 ≤ q.no ∧ q.no < 64
 fp : ∀ q ∈ L.fj, q.fp.length ≤ 1000000
 size : ∀ q ∈ L.fj, 0 ≤ q.size ∧ q.size ≤ 10000000
section
variable {w0 w : World} {R : List Asn} {p hb np : Nat} {v lv fv : Value} {ps : List Nat} {L : Lg} {q : Prt} {D : Dk} {rec : List Int} {no : Int}
theorem up5 {a b c d e f : Asn} (h : St w0 w (a :: b :: c :: d :: e :: f :: R)) : St w0 w (f :: a :: b :: c :: d :: e :: R) := h.perm (List.perm_middle (l₁ := [a, b, c, d, e]))
theorem dn5 {a b c d e f : Asn} (h : St w0 w (f :: a :: b :: c :: d :: e :: R)) : St w0 w (a :: b :: c :: d :: e :: f :: R) := h.perm (List.perm_middle (l₁ := [a, b, c, d, e])).symm
theorem up6 {a b c d e f g : Asn} (h : St w0 w (a :: b :: c :: d :: e :: f :: g :: R)) : St w0 w (g :: a :: b :: c :: d :: e :: f :: R) := h.perm (List.perm_middle (l₁ := [a, b, c, d, e, f]))
theorem dn6 {a b c d e f g : Asn} (h : St w0 w (g :: a :: b :: c :: d :: e :: f :: R)) : St w0 w (a :: b :: c :: d :: e :: f :: g :: R) := h.perm (List.perm_middle (l₁ := [a, b, c, d, e, f])).symm
theorem acn (S : St w0 w R) (cs : Array Value) (e : TypeId) : St w0 (w.alloc (.cells cs e)) (fu w.heap.size cs e :: R) := S.add ((Fr.refl _ w).alloc _) (B := fun x => x = w.heap.size) ⟨by rw [ga, if_pos rfl], rfl⟩ fun x hx => by subst hx; rw [ii]; omega
theorem ank {s : SV} {d : List Int} (S : St w0 w (je s.v d :: R)) {K : KV} (h : ∀ w' s', St w0 w' (jg (SV.v s') [d] :: R) → K s'.v w') : bsT P T.j 1 #[(0, s.v)] w K := by
 have hbs : ∀ K', bsT P T.j 1 #[(0, s.v)] w K' = K' (.slice (some ⟨w.heap.size, 0, none⟩) 1 1) (w.alloc (.cells #[s.v] T.c)) := fun K' => by unfold SV.v; simp
 rw [hbs]
 have S2 : St w0 (w.alloc (.cells #[s.v] T.c)) (sp T.c 1 mf (.slice (some ⟨w.heap.size, 0, none⟩) 1 1) [s] :: je s.v d :: R) := St.acs (l := [s]) S pn rfl (by unfold maxLen; simp)
 have T1 : St w0 (w.alloc (.cells #[s.v] T.c)) (ny (lh [s] [d]) :: Eng.jb T.c 1 mf (.slice (some ⟨w.heap.size, 0, none⟩) 1 1) [s] :: R) := St.all.2 S2.off.swap
 exact h _ ⟨some ⟨w.heap.size, 0, none⟩, 1, 1⟩ (aif (vs := [s]) rfl T1.swap)
theorem aqg {ls : List (List Int)} (S : St w0 w (jg lv ls :: R)) : ∃ s : SV, lv = s.v := by
 obtain ⟨a, c, hv⟩ := atg S
 exact ⟨⟨a, _, c⟩, hv⟩
theorem zz {l : List Int} (S : St w0 w (je v l :: R)) (w' : World) (K : KV) : biT P .len #[T.c] T.a [false] [v] w' K = K (.int .i64 l.length) w' := (S.row ij : SlB w v l).ig (by kernel_rfl) [false]
def bgL (np p hb : Nat) (lv : Value) (no : Int) (rec : List Int) (v : Value) (ps : List Nat) (L : Lg) (D : Dk) (R : List Asn) : List Asn :=
 fu np (qo ⟨no, L.next, [rec], 0⟩ lv) T.ad :: jg lv [rec] :: fu p (ll hb L.fy v) T.x :: Eng.jb T.z 1 lx v ps :: pj lg ps L.fj :: fx hb D :: R
theorem alf (hl : ps.length = L.fj.length) (hb64 : L.fj.length ≤ 1000000) (S : St w0 w (lg np q :: fu p (ll hb L.fy v) T.x :: Eng.jb T.z 1 lx v ps :: pj lg ps L.fj :: R)) {Q : World → Prop} (h : ∀ w', St w0 w' (jx p hb { L with fj := L.fj ++ [q] } :: R) → Q w') :
  ld1 P p 2 w fun t87 w => biT P .append #[T.l, T.l] T.l [false, false] [t87, .slice (some ⟨w.heap.size, 0, none⟩) 1 1] (w.alloc (.cells #[.pointer (some ⟨np, 0, none⟩)] T.z)) fun t90 w => stT P T.l (.pointer (some ⟨p, 2, none⟩)) t90 w fun _ w => Q w := by
 obtain ⟨_, _, c2, _⟩ := kj S.swap.blk
 have S1 := (awj hl S.up3.swap).up2
 simp [c2]
 have S2 : St w0 (w.alloc (.cells #[.pointer (some ⟨np, 0, none⟩)] T.z)) (sp T.z 1 lx (.slice (some ⟨w.heap.size, 0, none⟩) 1 1) [np] :: _) := St.acs (l := [np]) S1 qr rfl (by unfold maxLen; simp)
 refine ame et.l qr awl S2.swap (S2.row qr) (by simp; omega) (by decide) fun w2 v2 S3 => ?_
 have S4 := S3.swap.drop
 obtain ⟨a', cap', hv', _⟩ := (S4.jb qr : Sl w2 1 lx v2 (ps ++ [np]))
 generalize hln : (ps ++ [np]).length = n1 at hv'
 subst hv'
 obtain ⟨_, _, g2, gz⟩ := kj S4.up2.blk
 simp [gz, g2]
 have S5 := zk (cs' := ll hb L.fy (.slice a' n1 cap')) (i := 2) (u := .slice a' n1 cap') S4.up2 rfl
 exact h _ (wv (L := { L with fj := L.fj ++ [q] }) (by simp [hl]) S5)
theorem alb (S : St w0 w (bgL np p hb lv no rec v ps L D R)) (hl : ps.length = L.fj.length) (hb64 : L.fj.length ≤ 1000000) (hrec : rec.length ≤ 8192) (hfs : ∀ w' L', St w0 w' (L' ++ R) → SlB w' fv (gu rec)) {x0 : List Value} {K : KV}
  (h : ∀ w', St w0 w' (jx p hb (L.yb D rec no).1.1 :: fx hb (L.yb D rec no).1.2 :: R) → K (.int .i64 (L.yb D rec no).2) w') : M.aq.j0 (il np) fv (il p) x0 w K := by
 unfold bgL at S
 unfold M.aq.j0
 obtain ⟨d0, d1, d2, d3, dz⟩ := jm S.blk
 simp only [il]
 simp [d1]
 refine aoz (pq S) (by simp) _ fun w1 v1 S1 => ?_
 refine aqu S1 (v0 := .slice none 0 0) (l0 := []) (fun _ _ _ => Sl.nil) (fun w' L' S' => (S'.perm List.perm_middle).row ij) (by simp) (by simp [oy]) fun w2 v2 S2 => ?_
 have e : (if 8192 < ([] ++ ka (IntKind.u64.wrap L.next)).length then [] else [] ++ gu ([] ++ ka (IntKind.u64.wrap L.next))) = kw L.next := by
  rw [List.nil_append, List.nil_append, oy, if_neg (by decide)]; rfl
 rw [e] at S2
 simp
 have hF : SlB w2 fv (gu rec) := hfs w2 (je v2 (kw L.next) :: je v1 ([] ++ ka (IntKind.u64.wrap L.next)) :: [_, _, _, _, _, _]) S2
 refine amn S2 (S2.row ij) hF (by rw [afl, kz]; omega) fun w3 v3 S3 => ?_
 have S4 := S3.swap.drop.swap.drop
 unfold Lg.yb at h
 have hcl : (kw L.next ++ gu rec).length ≤ 1000000 := by rw [List.length_append, afl, kz]; omega
 generalize kw L.next ++ gu rec = ct at *
 obtain ⟨c0, c1, c2, cz⟩ := kj S4.up3.blk
 obtain ⟨d0, d1, d2, d3, dz⟩ := jm S4.swap.blk
 simp [c0, d0]
 refine aks (up6 (S4.iq ((Fr.refl _ w3).dr 1))) no (l := ct) (fun w' L' S' => (S'.perm List.perm_middle).row ij) (by omega) fun w4 S5 => ?_
 have S6 := dn6 S5
 by_cases hk : (D.append no ct).2 = 0
 ·rw [if_pos hk] at h
  rw [hk]
  simp
  unfold M.aq.j3
  have hlen := fun w' K => zz S6 w' K
  obtain ⟨e0, e1, e2, e3, ez⟩ := jm S6.swap.blk
  simp [hlen, ez, e3]
  have S7 := (zk (cs' := qo ⟨no, L.next, [rec], ct.length⟩ lv) (i := 3) (u := .int .i64 ct.length) S6.swap rfl).swap.drop
  exact alf hl hb64 (aim S7) h
 ·rw [if_neg hk] at h
  simp [hk]
  exact h w4 (wv hl S6.drop.drop.drop)
end
set_option maxRecDepth 100000
open Go.Eng Go.Proofs.YtfnhoaemapheoaaGreat.Sint
section
variable {w0 w : World} {R : List Asn} {p hb np : Nat} {v lv fv av : Value} {ps : List Nat} {L : Lg} {q : Prt} {D : Dk} {rec : List Int} {no : Int}
theorem avm (hl : ps.length = L.fj.length) (hp : 0 < ps.length) : L.fj.getLast? = some (L.fj[ps.length - 1]'(by omega)) := by rw [abp (by omega)]; simp only [hl]
theorem anr (S : St w0 w (fu p (ll hb L.fy v) T.x :: Eng.jb T.z 1 lx v ps :: pj lg ps L.fj :: fx hb D :: R)) (hl : ps.length = L.fj.length) (hB : LgB L) (hrec : rec.length ≤ 8192) (hbs : ∀ w' L', St w0 w' (L' ++ R) → SlB w' av rec) (hfs : ∀ w' L', St w0 w' (L' ++ R) → SlB w' fv (gu rec)) {K : KV}
  (h : ∀ w', St w0 w' (jx p hb (L.xp D rec).1.1 :: fx hb (L.xp D rec).1.2 :: R) → K (.int .i64 (L.xp D rec).2) w') : fe P F.dn [il p, av, fv] w K := by
 rw [M.aq.fcall]
 apply M.aq.calls
 unfold M.aq
 have hfew := hB.few
 refine agn hl S (by omega) fun w1 f1 => ?_
 have S1 := S.iq f1
 refine yd S1 (hbs w1 [_, _, _, _] S1) (by omega) fun w2 v2 S2 => ?_
 obtain ⟨s, rfl⟩ := afm S2
 refine ank S2 fun w3 s3 S3 => ?_
 simp only [SV.v]
 simp
 have S4 : St w0 _ (bgL w3.heap.size p hb s3.v 0 rec v ps L D R) := acn S3 (qo ⟨0, L.next, [rec], 0⟩ s3.v) T.ad
 generalize hnp : w3.heap.size = np at *
 simp only [qo, SV.v] at S4
 generalize w3.alloc (.cells #[.int .i64 0, .int .i64 L.next, .slice s3.a s3.n s3.c, .int .i64 0] T.ad) = w4 at *
 have S5 : St w0 w4 (fu p (ll hb L.fy v) T.x :: Eng.jb T.z 1 lx v ps :: fu np (qo ⟨0, L.next, [rec], 0⟩ s3.v) T.ad :: jg s3.v [rec] :: pj lg ps L.fj :: fx hb D :: R) := St.up3 (St.up3 S4)
 refine zu hl S5 (by omega) (fun hz => ?_) fun hp w5 f5 => ?_
 ·simp
  have : L.fj = [] := List.length_eq_zero_iff.1 (by rw [← hl, hz]; rfl)
  unfold Lg.xp at h
  rw [this] at h
  exact alb S4 hl (by omega) hrec hfs h
 ·simp only [il]
  simp
  have S6 := S5.iq f5
  obtain ⟨c0, c1, c2, cz⟩ := kj S6.blk
  have hlen := fun w' K => vv S6.swap w' K
  have hgl := avm hl hp
  have hj : ps.length - 1 < L.fj.length := by omega
  have hqr := hB.rng _ (List.getElem_mem hj)
  unfold Lg.xp at h
  rw [hgl] at h
  simp only at h
  simp [c2, hlen]
  by_cases h63 : 63 ≤ L.fj.length
  ·have h63i : (63 : Int) ≤ (ps.length : Int) := by omega
   rw [if_pos h63] at h
   simp [h63i]
   exact h w5 (wv hl S6.up2.drop.up2.drop)
  ·have h63i : ¬ (63 : Int) ≤ (ps.length : Int) := by omega
   rw [if_neg h63] at h
   simp [h63i]
   unfold M.aq.j1
   obtain ⟨rv, T1⟩ := sj (uk hl hj S6.up4)
   obtain ⟨d0, _⟩ := jm T1.blk
   simp [c0, d0]
   refine aqn (up5 (S6.iq ((Fr.refl _ w5).dr 1))) _ fun w6 S7 => ?_
   have S8 := dn5 S7
   generalize hqq : L.fj[ps.length - 1] = q at *
   by_cases hk : (D.lc q.no).2 = 0
   ·rw [if_pos hk] at h
    rw [hk]
    simp
    unfold M.aq.j2
    obtain ⟨rv2, T2⟩ := sj (uk hl hj S8.up4)
    rw [hqq] at T2
    obtain ⟨e0, _⟩ := jm T2.blk
    obtain ⟨_, _, _, _, nz⟩ := jm S8.up2.blk
    obtain ⟨n0, _⟩ := jm S8.up2.blk
    have hw : IntKind.i64.wrap (q.no + 1) = q.no + 1 := fl (by omega) (by omega)
    simp [e0, hw, aqo, nz, n0]
    have S9 := zk (cs' := qo ⟨(q.no + 1) % 64, L.next, [rec], 0⟩ s3.v) (i := 0) (u := .int .i64 ((q.no + 1) % 64)) S8.up2 rfl
    have et : (q.no + 1).tmod 64 = (q.no + 1) % 64 := by rw [Int.tmod_eq_emod_of_nonneg (by omega)]
    rw [et]
    exact alb (St.swap S9.up3) hl (by omega) hrec hfs h
   ·rw [if_neg hk] at h
    simp [hk]
    exact h w6 (wv hl S8.up2.drop.up2.drop)
theorem asn {s : SV} {d : List Int} {ls : List (List Int)} (S : St w0 w (je s.v d :: jg v ls :: R)) (hl : ls.length ≤ 1000000) {cs : List Bool} {ty : TypeId} {K : KV} (h : ∀ w' v', St w0 w' (jg v' (ls ++ [d]) :: R) → K v' w') :
  biT P .append #[T.j, T.j] ty cs [v, .slice (some ⟨w.heap.size, 0, none⟩) 1 1] (w.alloc (.cells #[s.v] T.c)) K := by
 have hbs : ∀ K', bsT P T.j 1 #[(0, s.v)] w K' = K' (.slice (some ⟨w.heap.size, 0, none⟩) 1 1) (w.alloc (.cells #[s.v] T.c)) := fun K' => by unfold SV.v; simp
 have := aav S hl (cs := cs) (ty := ty) h
 rwa [hbs] at this
theorem asl (S : St w0 w (jx p hb L :: fx hb D :: R)) (hB : LgB L) (hrl : rec.length ≤ 1000000) (hbs : ∀ w' L', St w0 w' (L' ++ R) → SlB w' av rec) {K : KV}
  (h : ∀ w', St w0 w' (jx p hb (L.append D rec).1.1 :: fx hb (L.append D rec).1.2 :: R) → K (.int .i64 (L.append D rec).2) w') : fe P F.dg [il p, av] w K := by
 obtain ⟨v, ps, hl, S1⟩ := afv S
 rw [M.ap.fcall]
 apply M.ap.calls
 unfold M.ap
 have hfew := hB.few
 simp only [il]
 simp
 unfold M.ap.j0
 refine aqu S1 (v0 := .slice none 0 0) (l0 := []) (fun _ _ _ => Sl.nil) (fun w' L' S' => hbs w' (L' ++ [_, _, _, _]) (by simpa using S')) (by simp) (by omega) fun w2 v2 S2 => ?_
 unfold Lg.append at h
 by_cases hbig : 8192 < rec.length
 ·rw [if_pos hbig] at h
  simp [hbig]
  exact h w2 (wv hl S2.drop)
 ·rw [if_neg hbig, List.nil_append] at S2
  rw [if_neg hbig] at h
  simp [hbig]
  unfold M.ap.j1
  have S3 : St w0 w2 (fu p (ll hb L.fy v) T.x :: Eng.jb T.z 1 lx v ps :: pj lg ps L.fj :: fx hb D :: je v2 (gu rec) :: R) := S2.dn4
  have hbs3 : ∀ w' L', St w0 w' (L' ++ je v2 (gu rec) :: R) → SlB w' av rec := fun w' L' S' => hbs w' (L' ++ [je v2 (gu rec)]) (by simpa using S')
  have hfs3 : ∀ w' L', St w0 w' (L' ++ je v2 (gu rec) :: R) → SlB w' v2 (gu rec) := fun w' L' S' => (S'.perm List.perm_middle).row ij
  refine zu hl S3 (by omega) (fun hz => ?_) fun hp w3 f3 => ?_
  ·have : L.fj = [] := List.length_eq_zero_iff.1 (by rw [← hl, hz]; rfl)
   rw [this] at h
   simp
   exact anr (S3.iq ((Fr.refl _ w2).dr 1)) hl hB (by omega) hbs3 hfs3 fun w4 S4 => h w4 S4.up2.drop
  ·simp only [il]
   have S4 := S3.iq f3
   have hgl := avm hl hp
   have hj : ps.length - 1 < L.fj.length := by omega
   have hqs := hB.size _ (List.getElem_mem hj)
   have hqr := hB.fp _ (List.getElem_mem hj)
   rw [hgl] at h
   simp only at h
   obtain ⟨c0, c1, c2, cz⟩ := kj S4.blk
   obtain ⟨rv, T1⟩ := sj (uk hl hj S4.up2)
   obtain ⟨d0, d1, d2, d3, dz⟩ := jm T1.blk
   simp [c1, d3]
   by_cases hm : L.fy ≤ L.fj[ps.length - 1].size
   ·rw [if_pos hm] at h
    simp [hm]
    exact anr (S4.iq ((Fr.refl _ w3).dr 1)) hl hB (by omega) hbs3 hfs3 fun w4 S5 => h w4 S5.up2.drop
   ·rw [if_neg hm] at h
    simp [hm]
    unfold M.ap.j2
    simp [c0, d0]
    refine aks (S4.iq (((Fr.refl _ w3).dr 1).dr 1)).up3 _ (fun w' L' S' => hfs3 w' (L' ++ [_, _, _]) (by simpa using S')) (by rw [kz]; omega) fun w4 S5 => ?_
    have S6 := S5.dn3
    generalize hqq : L.fj[ps.length - 1] = q at *
    by_cases hk : (D.append q.no (gu rec)).2 = 0
    ·rw [if_pos hk] at h
     rw [hk]
     simp
     unfold M.ap.j3
     obtain ⟨rv2, T2⟩ := sj (uk hl hj S6.up2)
     rw [hqq] at T2
     obtain ⟨e0, e1, e2, e3, ez⟩ := jm T2.blk
     have hlen := fun w' K => zz (v := v2) (l := gu rec) (T2.perm (List.perm_middle (l₁ := [_, _, _, _, _, _]))) w' K
     simp [e2, e3, hlen]
     have hbs4 : SlB (dr w4 1) av rec := hbs3 _ (fu ps[ps.length - 1] (qo q rv2) T.ad :: jg rv2 q.fp :: agr lg ps L.fj (ps.length - 1) :: fu p (ll hb L.fy v) T.x :: Eng.jb T.z 1 lx v ps :: [fx hb (D.append q.no (gu rec)).1]) (T2.iq ((Fr.refl _ w4).dr 1))
     refine yd (T2.iq ((Fr.refl _ w4).dr 1)) hbs4 (by omega) fun w5 v5 T3 => ?_
     obtain ⟨s, rfl⟩ := afm T3
     obtain ⟨_, _, e2, e3, _⟩ := jm T3.swap.blk
     have T4 := T3.iq ((Fr.refl _ w5).alloc (.cells #[s.v] T.c))
     obtain ⟨_, _, g2, g3, _⟩ := jm T4.swap.blk
     refine ⟨by simp [e3], by simp [e2], ?_⟩
     have hbs5 : ∀ K', bsT P T.j 1 #[(0, s.v)] w5 K' = K' (.slice (some ⟨w5.heap.size, 0, none⟩) 1 1) (w5.alloc (.cells #[s.v] T.c)) := fun K' => by unfold SV.v; simp
     rw [hbs5]
     refine ⟨by simp [g3], by simp [g2], ?_⟩
     refine asn (T3.perm (.cons _ (.swap _ _ _))) (by omega) fun w6 v6 T5 => ?_
     obtain ⟨s6, rfl⟩ := aqg T5
     obtain ⟨_, _, m2, m3, mz⟩ := jm T5.swap.blk
     refine ⟨by simp [m3], ?_⟩
     have T6 := zk (cs' := qo { q with fp := q.fp ++ [rec] } s6.v) (i := 2) (u := s6.v) T5.swap rfl
     obtain ⟨_, _, n2, n3, nz⟩ := jm T6.blk
     have T7 := zk (cs' := qo (q.pu rec) s6.v) (i := 3) (u := .int .i64 (q.size + (gu rec).length)) T6 rfl
     have hw : IntKind.i64.wrap (q.size + ((gu rec).length : Int)) = q.size + (gu rec).length := fl (by omega) (by rw [kz]; omega)
     simp only [SV.v] at *
     simp [hw, m2, mz, n3, nz]
     have T8 := aqc hl hj (aim (q := q.pu rec) T7)
     have hl' : ps.length = (L.fj.set (ps.length - 1) (q.pu rec)).length := by simpa using hl
     have T9 := wv (L := { L with fj := L.fj.set (ps.length - 1) (q.pu rec) }) hl' T8.dn2
     have hl3 : L.fj.length - 1 = ps.length - 1 := by omega
     rw [hl3] at h
     exact h _ T9.up2.drop
    ·rw [if_neg hk] at h
     simp [hk]
     exact h w4 (wv hl S6).up2.drop
end
end Go.Proofs.YtfnhoaemapheoaaGreat
