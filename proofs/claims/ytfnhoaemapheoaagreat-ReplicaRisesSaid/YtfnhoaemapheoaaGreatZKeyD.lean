/-
  slices.Sorted(maps.Keys(m)) at the map type map_int_p_disk_file. No condition.
-/
import Derived.Test.YtfnhoaemapheoaaGreatZSpn0
import Derived.Test.YtfnhoaemapheoaaGreatZEngSl
set_option maxRecDepth 100000
namespace Go.Proofs.YtfnhoaemapheoaaGreat.KeyD
open Go.Eng Go.Sort Go.Proofs.YtfnhoaemapheoaaGreat.Sint
def KI (w W : World) (U : Nat → Prop) (r : Nat) (m : MP) (J : List Int → Asn) : KL := fun x w1 => ∃ (done : List Int) (U1 : Nat → Prop), x.length = 1 ∧ xb w1 W.heap.size r .i64 m done ∧ (J done.reverse).ok w1 U1 ∧ (∀ b, U1 b → w.heap.size ≤ b ∧ b < w1.heap.size ∧ b ≠ W.heap.size) ∧ Fr (fun b => w.heap.size ≤ b) W w1
theorem aap {w : World} {it r : Nat} {k : IntKind} {m : MP} {done : List Int} (h : xb w it r k m done) : done.Nodup ∧ ∀ x ∈ done, x ∈ ir m := by
 obtain ⟨es, clk, since, c0, ig, _, _, _, _, _, _, _, _, _, h1, h2⟩ := h
 exact ⟨h1, h2⟩
theorem agw {w : World} {r Bm : Nat} {m : MP} {e : TypeId} (hm : nn w r .i64 m) (hn : (ir m).Nodup) (hB : w.heap[Bm]? = some (.cells #[.map (some r)] e (0, 0))) (hl : m.length < 60000) :
  agy P F.b [.pointer (some ⟨Bm, 0, none⟩)] aas (fun xs => xs.Perm (ir m)) 60000 w := by
 intro l J W U K hf hJ hU hround hend
 apply M.ae.calls
 unfold M.ae
 have hBm : W.heap[Bm]? = some (.cells #[.map (some r)] e (0, 0)) := hf.heap hB fun h => h
 have c0 := fp hBm 0
 simp only [List.size_toArray, List.getElem?_toArray, List.getElem?_cons_zero] at c0
 have hm' : nn W r .i64 m := hm.xk (hf.jd r hm.lt fun h => h)
 have hrw := hm.lt
 simp [c0]
 refine auq mt.o hm' fun w1 hi f1 => ?_
 have hWs := hf.size
 have hWlt := (hi.lt).1
 refine ⟨KI w W U r m J, fun _ w1 => tq w1 W.heap.size m.length, ⟨[], U, rfl, hi, (J []).jd hJ f1 fun _ _ h => h, fun b hb => ?_, f1.mono fun _ _ h => h.elim⟩, ?_⟩
 ·have := hU b hb
  have := f1.size
  exact ⟨by omega, by omega, by omega⟩
 rintro x w2 ⟨done, U1, hx1, hi2, hJ2, hU2, f2⟩
 unfold M.ae.j0
 refine awh hi2 hn T.be (fun hall => ?_) fun y v w3 hy hyd hc3 f3 hlt => ?_
 ·have e0 : ∀ w K, exT P (.tuple #[.bool false]) 0 w K = K (.bool false) w := fun _ _ => rfl
  simp [e0]
  obtain ⟨h1, h2⟩ := aap hi2
  refine hend _ w2 done.reverse U1 ?_ hJ2 f2
  refine (List.reverse_perm done).trans ?_
  refine (List.perm_ext_iff_of_nodup h1 hn).2 fun z => ⟨h2 z, fun hz => ?_⟩
  obtain ⟨p, hp, rfl⟩ := List.mem_map.1 hz
  exact hall p hp
 ·simp
  rw [avn hc3]
  simp
  have hnit : ∀ b, U1 b → ¬ b = W.heap.size := fun b hb => (hU2 b hb).2.2
  have hJ3 := (J done.reverse).jd hJ2 f3 hnit
  have hlen : done.length < m.length := by
   obtain ⟨h1, h2⟩ := aap hi2
   have := sm (l := y :: done) (l' := ir m) (List.nodup_cons.2 ⟨hyd, h1⟩) fun z hz => by
    rcases List.mem_cons.1 hz with rfl | hz
    ·exact List.mem_map_of_mem hy
    ·exact h2 z hz
   simp only [ir, List.length_map, List.length_cons] at this
   omega
  have hs3 := f3.size
  refine hround done.reverse y w3 U1 _ hJ3 (fun b hb => ⟨(hU2 b hb).1, by have := (hU2 b hb).2.1; omega⟩) (by simp; omega) fun w4 U4 hJ4 hU4 f4 => ?_
  simp
  have hit : ¬ U1 W.heap.size := fun h => hnit _ h rfl
  have hr1 : ¬ U1 r := fun h => by have := (hU2 r h).1; omega
  have hi3 : xb w3 W.heap.size r .i64 m (y :: done) := hc3.1
  have hi4 := hi3.jd (f4.jd _ hi3.lt.1 hit) (f4.jd _ hi3.lt.2 hr1)
  refine ⟨⟨y :: done, U4, rfl, hi4, by simpa using hJ4, fun b hb => ?_, ?_⟩, ?_⟩
  ·rcases hU4 b hb with h | h
   ·have := hU2 b h
    have := f4.size
    exact ⟨by omega, by omega, by omega⟩
   ·have := hi3.lt.1
    have := f2.size
    exact ⟨by omega, by omega, by omega⟩
  ·refine (f2.kj f3 fun b hb he => by omega).kj f4 fun b hb he => (hU2 b he).1
  ·have : tq w4 W.heap.size m.length = tq w3 W.heap.size m.length := by
    unfold tq
    rw [f4.jd _ hi3.lt.1 hit]
   rw [this]; exact hlt
theorem ajk {w : World} {r : Nat} {m : MP} (hm : nn w r .i64 m) (hn : (ir m).Nodup) (hl : m.length < 60000) {K : KV}
  (h : ∀ w' v, OwN w' w.heap.size v (nc (ir m)) → Fr (fun _ => False) w w' → K v w') :
  fg P F.m [.map (some r)] w fun t w => fg P F.bo [t] w K := by
 rw [M.an.fcall]
 apply M.an.calls
 unfold M.an
 rw [wy, amf]
 show fg P F.bo _ _ K
 rw [M.cy.fcall]
 have f1 : Fr (fun _ => False) w (w.alloc (.cells #[.map (some r)] T.o)) := (Fr.refl _ w).alloc _
 have hB : (w.alloc (.cells #[.map (some r)] T.o)).heap[w.heap.size]? = some (.cells #[.map (some r)] T.o (0, 0)) := by rw [gc, if_pos rfl]
 have hsz : w.heap.size ≤ (w.alloc (.cells #[.map (some r)] T.o)).heap.size := by simp
 refine afj (ks := ir m) FN.b.at (by kernel_rfl) (by kernel_rfl) (by simpa [ir] using hl) (agw (hm.xk (f1.jd r hm.lt fun h => h)) hn hB hl) fun w2 v o2 f2 => ?_
 exact h w2 v (o2.mono hsz) (f1.trans f2)
end Go.Proofs.YtfnhoaemapheoaaGreat.KeyD
set_option maxRecDepth 100000
namespace Go.Proofs.YtfnhoaemapheoaaGreat
open Go.Eng Go.Proofs.YtfnhoaemapheoaaGreat.Sint
structure Fil where
 n : Int
 jb : List Int
 gy : List Int
structure Dk where
 gr : Int
 left : Int
 ie : Bool
 ga : Bool
 fs : List Fil
structure FE where
 n : Int
 p : Nat
 fv : Value
 lv : Value
 jb : List Int
 gy : List Int
def FE.abs (e : FE) : Fil := ⟨e.n, e.jb, e.gy⟩
def FE.ptr (e : FE) : Value := .pointer (some ⟨e.p, 0, none⟩)
def Fil.len (f : Fil) : Nat := f.jb.length + f.gy.length
def Dk.gp (D : Dk) : Nat := (D.fs.map Fil.len).sum
abbrev jh (v : Value) (l : List Int) : Asn := pd T.ap 1 ade v l
abbrev SlB (w : World) (v : Value) (l : List Int) : Prop := Sl w 1 ade v l
def bdx (e : FE) : List Asn := [fu e.p #[e.fv, e.lv] T.ag, jh e.fv e.jb, jh e.lv e.gy]
def vd (e : FE) : Asn := oe (bdx e)
def ark (hb r : Nat) (D : Dk) : Asn := fu hb #[.int .i64 D.gr, .map (some r), .int .i64 D.left, .bool D.ie, .bool D.ga] T.af
structure lg (m : MP) (es : List FE) (D : Dk) : Prop where
 fs : D.fs = es.map FE.abs
 ml : m.length = es.length
 mg : ∀ e ∈ es, kt m e.n = some e.ptr
 mz : ∀ k, (∀ e ∈ es, e.n ≠ k) → kt m k = none
 tn : (es.map FE.n).Nodup
 kp : (ir m).Perm (es.map FE.n)
 gr : D.gr ≤ 1048576
 gp : (D.gp : Int) ≤ D.gr
 rng : ∀ e ∈ es, 0 ≤ e.n ∧ e.n < 64
 arm : D.ie = true → 0 ≤ D.left ∧ D.left < 9223372036854775808
def kq (hb r : Nat) (m : MP) (es : List FE) (D : Dk) : List Asn := ark hb r D :: jz r .i64 m :: es.map vd
def fy (hb : Nat) (D : Dk) : Asn where
 ok w B := ∃ r m es, lg m es D ∧ Rs (kq hb r m es D) w B
 jd := by
  rintro w w' B S ⟨r, m, es, h1, h2⟩ hf hn
  exact ⟨r, m, es, h1, h2.jd hf hn⟩
section
variable {w0 w : World} {hb r : Nat} {m : MP} {es : List FE} {D : Dk} {R : List Asn} {e : FE}
theorem vl (S : St w0 w (fy hb D :: R)) : ∃ r m es, lg m es D ∧ St w0 w (kq hb r m es D ++ R) := by
 obtain ⟨B, ⟨r, m, es, h1, h2⟩, _, cl⟩ := S.open
 exact ⟨r, m, es, h1, cl w _ (Fr.refl _ _) (h2.mono fun b hb => .inl hb)⟩
theorem xt (h : lg m es D) (S : St w0 w (kq hb r m es D ++ R)) : St w0 w (fy hb D :: R) := by
 obtain ⟨U, h1, _, g⟩ := S.zj
 exact g w [fy hb D] (Fr.refl _ _) ⟨U, ⟨r, m, es, h, h1⟩, fun b hb => .inl hb, trivial⟩
theorem mu (hb r : Nat) (m : MP) (a b : List FE) (e : FE) (D : Dk) (R : List Asn) : (kq hb r m (a ++ e :: b) D ++ R).Perm (vd e :: (kq hb r m (a ++ b) D ++ R)) := by
 unfold kq
 simp only [List.map_append, List.map_cons, List.cons_append, List.append_assoc]
 refine (List.Perm.cons _ (List.Perm.cons _ ?_)).trans ((List.Perm.cons _ (.swap _ _ _)).trans (.swap _ _ _))
 exact List.perm_middle
theorem uq (S : St w0 w (vd e :: R)) : St w0 w (fu e.p #[e.fv, e.lv] T.ag :: jh e.fv e.jb :: jh e.lv e.gy :: R) := St.all.1 S
theorem aml (S : St w0 w (fu e.p #[e.fv, e.lv] T.ag :: jh e.fv e.jb :: jh e.lv e.gy :: R)) : St w0 w (vd e :: R) := St.all.2 S
theorem qg (S : St w0 w (kq hb r m es D ++ R)) : w.heap[hb]? = some (.cells #[.int .i64 D.gr, .map (some r), .int .i64 D.left, .bool D.ie, .bool D.ga] T.af (0, 0)) := St.blk S
theorem adu (S : St w0 w (kq hb r m es D ++ R)) : nn w r .i64 m ∧ (ir m).Nodup := by
 obtain ⟨B, h1, _⟩ := (St.swap S).open
 exact h1.1
theorem ni (h : w.heap[hb]? = some (.cells #[.int .i64 D.gr, .map (some r), .int .i64 D.left, .bool D.ie, .bool D.ga] T.af (0, 0))) :
  fo w hb 0 = some (.int .i64 D.gr) ∧ fo w hb 1 = some (.map (some r)) ∧ fo w hb 2 = some (.int .i64 D.left) ∧ fo w hb 3 = some (.bool D.ie) ∧ fo w hb 4 = some (.bool D.ga) ∧ ∀ i, nt w hb i = false :=
 ⟨by rw [fp h]; rfl, by rw [fp h]; rfl, by rw [fp h]; rfl, by rw [fp h]; rfl, by rw [fp h]; rfl, lc h⟩
theorem lg.bdo (h : lg m es D) (k : Int) : (kt m k = none ∧ ∀ e ∈ es, e.n ≠ k) ∨ ∃ a e b, es = a ++ e :: b ∧ e.n = k ∧ kt m k = some e.ptr := by
 by_cases hx : ∃ e ∈ es, e.n = k
 ·obtain ⟨e, he, rfl⟩ := hx
  obtain ⟨a, b, hab⟩ := List.append_of_mem he
  exact .inr ⟨a, e, b, hab, rfl, h.mg e he⟩
 ·exact .inl ⟨h.mz k fun e he hk => hx ⟨e, he, hk⟩, fun e he hk => hx ⟨e, he, hk⟩⟩
theorem aoh (hh : w.heap[hb]? = some (.cells #[.int .i64 D.gr, .map (some r), .int .i64 D.left, .bool D.ie, .bool D.ga] T.af (0, 0))) {K : KV} (h : K (.int .i64 (if D.ga then 10 else 0)) w) : fg P F.bg [.pointer (some ⟨hb, 0, none⟩)] w K := by
 rw [M.de.fcall]
 apply M.de.calls
 unfold M.de
 obtain ⟨_, _, _, _, c4, _⟩ := ni hh
 cases hd : D.ga with
 | true => rw [hd] at h c4; simp [c4]; simpa using h
 | false => rw [hd] at h c4; simp [c4]; simpa using h
theorem aga (hk : lg m es D) (S : St w0 w (kq hb r m es D ++ R)) (k : Int) {K : KV} (h0 : D.ga = true → K (.tuple #[.pointer none, .int .i64 10]) w) (h1 : D.ga = false → (∀ e ∈ es, e.n ≠ k) → K (.tuple #[.pointer none, .int .i64 11]) w)
  (h2 : D.ga = false → ∀ a e b, es = a ++ e :: b → e.n = k → K (.tuple #[e.ptr, .int .i64 0]) w) : fg P F.bl [.pointer (some ⟨hb, 0, none⟩), .int .i64 k] w K := by
 rw [M.cj.fcall]
 apply M.cj.calls
 unfold M.cj
 rw [fj]
 refine aoh (qg S) ?_
 obtain ⟨_, c1, _, _, c4, _⟩ := ni (qg S)
 cases hd : D.ga with
 | true => simp; exact h0 hd
 | false =>
  simp
  unfold M.cj.j0
  simp [c1]
  rw [zh mt.o (adu S).1]
  rcases hk.bdo k with ⟨hn, hall⟩ | ⟨a, e, b, he, hek, hg⟩
  ·rw [hn]
   simp
   exact h1 hd hall
  ·rw [hg]
   simp [FE.ptr]
   exact h2 hd a e b he hek
theorem anx (S : St w0 w (vd e :: R)) (hl : e.jb.length + e.gy.length ≤ 10000000) {K : KV} (h : ∀ w' v, St w0 w' (jh v (e.jb ++ e.gy) :: vd e :: R) → K v w') : fg P F.ce [e.ptr] w K := by
 rw [M.dq.fcall]
 apply M.dq.calls
 unfold M.dq
 have hb := (uq S).blk
 have c0 : fo w e.p 0 = some e.fv := by rw [fp hb]; rfl
 have c1 : fo w e.p 1 = some e.lv := by rw [fp hb]; rfl
 have s1 : SlB w e.fv e.jb := (uq S).swap.row ip
 have s2 : SlB w e.lv e.gy := (uq S).za.row ip
 obtain ⟨a1, k1, hv1, _⟩ := id s1
 obtain ⟨a2, k2, hv2, _⟩ := id s2
 rw [hv1] at c0
 rw [hv2] at c1
 simp [FE.ptr, c0, c1]
 rw [← hv1, ← hv2]
 have hcell : w.heap.size < (Eng.dr w 1).heap.size + 1 := by simp
 have hn : ((Eng.dr w 1).alloc (.cells #[e.fv, e.lv] T.d)).heap[w.heap.size]? = some (.cells (([(e.fv, e.jb), (e.lv, e.gy)] : List (Value × List Int)).map (·.1)).toArray T.d (0, 0)) := by
  rw [gc, if_pos (by simp)]; rfl
 have f1 : Fr (fun _ => False) w ((Eng.dr w 1).alloc (.cells #[e.fv, e.lv] T.d)) := ((Fr.refl _ w).dr 1).alloc _
 rw [M.u.fcall]
 refine CB.yh (L := [(e.fv, e.jb), (e.lv, e.gy)]) hn (fun p hp => ?_) (by simp [CB.tot]; omega) (by simp) fun w' v o f2 => ?_
 ·simp at hp
  rcases hp with rfl | rfl
  ·exact s1.fr f1 fun _ _ _ h => h
  ·exact s2.fr f1 fun _ _ _ h => h
 ·have hs : w.heap.size ≤ ((Eng.dr w 1).alloc (.cells #[e.fv, e.lv] T.d)).heap.size := f1.size
  refine h w' v (S.add (a := jh v (e.jb ++ e.gy)) (f1.trans f2) (B := fun b => v.ownBlock = some b) ⟨?_, fun b hb => hb⟩ fun b hb => ?_)
  ·simpa using o.mono (Nat.zero_le _)
  ·have := o.lt hb
   exact ⟨by omega, this.2⟩
end
set_option maxRecDepth 100000
open Go.Eng Go.Proofs.YtfnhoaemapheoaaGreat.Sint
def Dk.get (D : Dk) (k : Int) : Option Fil := D.fs.find? fun f => decide (f.n = k)
def Dk.nu (D : Dk) : List Int := D.fs.map Fil.n
def Dk.gu (D : Dk) : List Int := nc D.nu
abbrev pk (v : Value) (l : List Int) : Asn := pd T.a 1 pi v l
theorem tu (x : Int) : (pi x).length = 1 := rfl
section
variable {w0 w : World} {hb r : Nat} {m : MP} {es a b : List FE} {D : Dk} {R : List Asn} {e e' : FE}
theorem lg.nu (h : lg m es D) : D.nu = es.map FE.n := by
 unfold Dk.nu
 rw [h.fs, List.map_map]; rfl
theorem lg.nd (h : lg m es D) : (ir m).Nodup := h.kp.nodup_iff.2 h.tn
theorem lg.few (h : lg m es D) : es.length ≤ 64 := by
 have := sm (l := es.map FE.n) (l' := (List.range 64).map Int.ofNat) h.tn fun x hx => by
  obtain ⟨e, he, rfl⟩ := List.mem_map.1 hx
  have := h.rng e he
  exact List.mem_map.2 ⟨e.n.toNat, List.mem_range.2 (by omega), by simp; omega⟩
 simpa using this
theorem lg.tp (h : lg m (a ++ e :: b) D) : D.get e.n = some e.abs := by
 unfold Dk.get
 rw [h.fs]
 have hn := h.tn
 rw [List.map_append, List.map_cons, List.nodup_append] at hn
 rw [List.map_append, List.find?_append]
 have : (a.map FE.abs).find? (fun f => decide (f.n = e.n)) = none := by
  rw [List.find?_eq_none]
  intro f hf
  obtain ⟨x, hx, rfl⟩ := List.mem_map.1 hf
  have := hn.2.2 x.n (List.mem_map_of_mem hx) e.n (List.mem_cons_self ..)
  simp [FE.abs]
  exact decide_eq_false this
 rw [this]
 simp [FE.abs]
theorem lg.aaj (h : lg m es D) {k : Int} (hk : ∀ e ∈ es, e.n ≠ k) : D.get k = none := by
 unfold Dk.get
 rw [h.fs, List.find?_eq_none]
 intro f hf
 obtain ⟨x, hx, rfl⟩ := List.mem_map.1 hf
 simp [FE.abs]
 exact decide_eq_false (hk x hx)
theorem aul (S : St w0 w (kq hb r m (a ++ e :: b) D ++ R)) : w.heap[e.p]? = some (.cells #[e.fv, e.lv] T.ag (0, 0)) ∧ SlB w e.fv e.jb ∧ SlB w e.lv e.gy := by
 have S' := uq (S.perm (mu hb r m a b e D R))
 exact ⟨S'.blk, S'.swap.row ip, S'.za.row ip⟩
theorem aqz (S : St w0 w R) (gr : Int) {K : KV} (h0 : (gr < 1 ∨ 1048576 < gr) → K (.tuple #[.pointer none, .int .i64 1]) w)
  (h1 : 1 ≤ gr → gr ≤ 1048576 → ∀ w' hb, St w0 w' (fy hb ⟨gr, 0, false, false, []⟩ :: R) → K (.tuple #[.pointer (some ⟨hb, 0, none⟩), .int .i64 0]) w') : fg P F.ed [.int .i64 gr] w K := by
 rw [M.ej.fcall]
 apply M.ej.calls
 unfold M.ej
 by_cases hx : gr < 1
 ·simp [hx]; exact h0 (.inl hx)
 by_cases hy : 1048576 < gr
 ·simp [hx, hy]; exact h0 (.inr hy)
 simp [hx, hy]
 rw [anj]
 simp
 have hm := afk w .i64
 refine h1 (by omega) (by omega) _ (w.heap.size + 1) (xt (m := []) (es := []) (r := w.heap.size) ⟨rfl, rfl, fun e he => by (cases he), fun _ _ => rfl, by simp, by simp [ir], by (show gr ≤ 1048576; omega), by (show ((0 : Nat) : Int) ≤ gr; omega), fun e he => by (cases he), fun h => by (cases h)⟩ ?_)
 have f : Fr (fun _ => False) w ((w.alloc (.map #[] 0)).alloc (.cells #[.int .i64 gr, .map (some w.heap.size), .int .i64 0, .bool false, .bool false] T.af)) := ((Fr.refl _ w).alloc _).alloc _
 obtain ⟨U, _, _, g⟩ := S.zj (L := [])
 refine g _ (kq (w.heap.size + 1) w.heap.size [] [] ⟨gr, 0, false, false, []⟩) (f.mono fun _ _ h => h.elim) ⟨fun b => b = w.heap.size + 1, ⟨?_, rfl⟩, fun b hb => .inr (by simp at hb ⊢; omega), fun b => b = w.heap.size, ⟨⟨hm.xk (by rw [gc, if_neg (by simp)]), by simp [ir]⟩, rfl⟩, fun b hb => ⟨.inr (by simp at hb ⊢; omega), by simp at hb ⊢; omega⟩, trivial⟩
 rw [gc, if_pos (by simp)]
theorem ahp (hk : lg m es D) (S : St w0 w (kq hb r m es D ++ R)) {K : KV} (h : ∀ w' v, St w0 w' (pk v D.gu :: (kq hb r m es D ++ R)) → K v w') : fg P F.bf [.pointer (some ⟨hb, 0, none⟩)] w K := by
 rw [M.dd.fcall]
 apply M.dd.calls
 unfold M.dd
 obtain ⟨_, c1, _⟩ := ni (qg S)
 simp [c1]
 have hf := hk.few
 refine KeyD.ajk (adu S).1 hk.nd (by rw [hk.ml]; omega) fun w' v o f => ?_
 have hd : nc (ir m) = D.gu := by
  unfold Dk.gu
  rw [hk.nu]
  exact tx hk.kp
 rw [hd] at o
 refine h w' v (S.add (a := pk v D.gu) f (B := fun b => v.ownBlock = some b) ⟨o.mono (Nat.zero_le _), fun b hb => hb⟩ fun b hb => ⟨(o.lt hb).1, (o.lt hb).2⟩)
def lenOf (D : Dk) (k : Int) : Nat := ((D.get k).map Fil.len).getD 0
theorem axv {l l' : List Nat} (h : l.Perm l') : l.sum = l'.sum := by
 induction h with
 | nil => rfl
 | cons x _ ih => simp [ih]
 | swap x y l => simp; omega
 | trans _ _ h1 h2 => exact h1.trans h2
theorem awt (hk : lg m es D) : (D.gu.map (lenOf D)).sum = D.gp := by
 have h1 : (D.gu.map (lenOf D)).Perm (D.nu.map (lenOf D)) := (mw _).map _
 rw [axv h1]
 unfold Dk.gp Dk.nu
 rw [List.map_map]
 congr 1
 apply List.map_congr_left
 intro f hf
 rw [hk.fs] at hf
 obtain ⟨x, hx, rfl⟩ := List.mem_map.1 hf
 obtain ⟨a, b, hab⟩ := List.append_of_mem hx
 subst hab
 show lenOf D x.n = x.abs.len
 unfold lenOf
 rw [hk.tp]; rfl
theorem acy {l : List Nat} {x : Nat} (h : x ∈ l) : x ≤ l.sum := by
 induction l with
 | nil => cases h
 | cons y l ih =>
  rcases List.mem_cons.1 h with rfl | h
  ·simp
  ·have := ih h; simp; omega
def abm (D : Dk) (i : Nat) : Nat := ((D.gu.take i).map (lenOf D)).sum
def UsI (w0 : World) (hb r : Nat) (m : MP) (es : List FE) (D : Dk) (R : List Asn) (v : Value) : KL := fun x w1 => ∃ (u : Value) (i : Nat), x = [u, .int .i64 (abm D i : Nat), .int .i64 (i : Nat)] ∧ i ≤ D.gu.length ∧ St w0 w1 (pk v D.gu :: (kq hb r m es D ++ R))
theorem bam (hk : lg m es D) (S : St w0 w (kq hb r m es D ++ R)) {K : KV} (h : ∀ w', St w0 w' (kq hb r m es D ++ R) → K (.int .i64 (D.gp : Nat)) w') : fg P F.dj [.pointer (some ⟨hb, 0, none⟩)] w K := by
 rw [M.ck.fcall]
 apply M.ck.calls
 unfold M.ck
 rw [fj]
 refine ahp hk S fun w1 v S1 => ?_
 have hsl : ∀ {w}, St w0 w (pk v D.gu :: (kq hb r m es D ++ R)) → Sl w 1 pi v D.gu := fun S => S.row tu
 rw [(hsl S1).ij (by simp)]
 refine ⟨UsI w0 hb r m es D R v, fun x _ => D.gu.length - ms x 2, ⟨_, 0, rfl, Nat.zero_le _, S1⟩, ?_⟩
 rintro x w2 ⟨u, i, rfl, hi, S2⟩
 have q0 : ∀ a b c : Value, gv [a, b, c] 0 = a := fun _ _ _ => rfl
 have q1 : ∀ a b c : Value, gv [a, b, c] 1 = b := fun _ _ _ => rfl
 have q2 : ∀ a b c : Value, gv [a, b, c] 2 = c := fun _ _ _ => rfl
 have q4 : ∀ a b c d e : Value, gv [a, b, c, d, e] 4 = e := fun _ _ _ _ _ => rfl
 have hus := awt hk
 have hu := hk.gp
 have hr := hk.gr
 have hfl : D.gu.length = es.length := by unfold Dk.gu; rw [(mw _).length_eq, hk.nu, List.length_map]
 have hfew := hk.few
 simp only [q0, q1, q2, kc, fj]
 by_cases hil : i < D.gu.length
 ·have hil' : (i : Int) < D.gu.length := by omega
  simp only [hil', decide_true, Eng.cond_true]
  unfold M.ck.j2
  obtain ⟨bb, o, cap, hv, hbb, _, hc⟩ := (hsl S2).at hil
  have c0 := hc 0 _ rfl
  simp only [Nat.mul_one, Nat.add_zero] at c0
  have hmem : D.gu[i] ∈ D.gu := List.getElem_mem hil
  have htk : abm D (i + 1) = abm D i + lenOf D D.gu[i] := by
   unfold abm
   rw [List.take_succ_eq_append_getElem hil, List.map_append, List.sum_append]; simp
  have htot : abm D (i + 1) ≤ D.gp := by
   rw [← hus]
   unfold abm
   conv => rhs; rw [← List.take_append_drop (i + 1) D.gu, List.map_append, List.sum_append]
   omega
  generalize hki : D.gu[i] = k at *
  have hmem' : k ∈ es.map FE.n := by
   rw [← hk.nu]; exact (mw _).mem_iff.1 hmem
  obtain ⟨e, he, hek⟩ := List.mem_map.1 hmem'
  obtain ⟨a, b, hab⟩ := List.append_of_mem he
  subst hab
  obtain ⟨hbk, s1, s2⟩ := aul (a := a) (e := e) (b := b) S2.drop
  obtain ⟨_, c1, _⟩ := ni (qg S2.drop)
  have hg := hk.mg e (by simp)
  have d0 : fo w2 e.p 0 = some e.fv := by rw [fp hbk]; rfl
  have d1 : fo w2 e.p 1 = some e.lv := by rw [fp hbk]; rfl
  obtain ⟨a1, k1, hv1, _⟩ := s1
  obtain ⟨a2, k2, hv2, _⟩ := s2
  rw [hv1] at d0
  rw [hv2] at d1
  have hlu : ∀ K, luT P T.o (.map (some r)) (.int .i64 k) false (Eng.dr w2 1) K = K (.pointer (some ⟨e.p, 0, none⟩)) (Eng.dr w2 1) := fun K => by
   rw [zh mt.o (nn.xk (w' := Eng.dr w2 1) (adu S2.drop).1 rfl), ← hek, hg]; rfl
  have hlen : lenOf D k = e.jb.length + e.gy.length := by
   unfold lenOf
   rw [← hek, hk.tp]; rfl
  have hw1 : IntKind.i64.wrap ((e.jb.length : Int) + (e.gy.length : Int)) = ((e.jb.length + e.gy.length : Nat) : Int) := by rw [fm (by omega) (by omega)]; omega
  have hw2 : IntKind.i64.wrap ((abm D i : Int) + ((e.jb.length + e.gy.length : Nat) : Int)) = ((abm D (i + 1) : Nat) : Int) := by
   rw [fm (by omega) (by omega)]; omega
  have hwi : IntKind.i64.wrap ((i : Int) + 1) = ((i + 1 : Nat) : Int) := by rw [fm (by omega) (by omega)]; rfl
  rw [hv]
  simp [q0, q1, q2, hil, c0, c1, hlu, d0, d1, hw1, hw2, hwi, -Int.natCast_add]
  rw [← hv]
  refine ⟨⟨_, i + 1, rfl, by omega, S2.iq ((Fr.refl _ w2).dr 1)⟩, ?_⟩
  simp only [ms, q2]
  simp; omega
 ·have hil' : ¬ (i : Int) < D.gu.length := by omega
  simp only [hil', decide_false, Eng.cond_false, q4]
  have : abm D i = D.gp := by
   unfold abm
   rw [List.take_of_length_le (by omega), hus]
  rw [this]
  exact h w2 S2.drop
theorem bdr (hk : lg m es D) (S : St w0 w (kq hb r m es D ++ R)) {n : Int} (hn : n < 9223372036854775808) {K : KV} (h : ∀ w', lg m es { D with ie := decide (0 ≤ n), left := n } → St w0 w' (kq hb r m es { D with ie := decide (0 ≤ n), left := n } ++ R) → K (.tuple #[]) w') : fg P F.cv [.pointer (some ⟨hb, 0, none⟩), .int .i64 n] w K := by
 rw [M.dp.fcall]
 apply M.dp.calls
 unfold M.dp
 have hh := qg S
 obtain ⟨_, _, c2, c3, _, f⟩ := ni hh
 simp [c2, c3, f, gh, gq]
 refine h _ { hk with arm := fun h => ⟨by simpa using h, hn⟩ } (St.kf (cs' := #[.int .i64 D.gr, .map (some r), .int .i64 n, .bool (decide (0 ≤ n)), .bool D.ga]) (e' := T.af) S (((Fr.refl (fun x => x = hb) w).setCell (.inl rfl) _ _).setCell (.inl rfl) _ _) ?_)
 rw [jw (jw hh)]; rfl
theorem axk (S : St w0 w (kq hb r m es D ++ R)) {K : KV} (h : K (.bool D.ga) w) : fg P F.ao [.pointer (some ⟨hb, 0, none⟩)] w K := by
 rw [M.df.fcall]
 apply M.df.calls
 unfold M.df
 obtain ⟨_, _, _, _, c4, _⟩ := ni (qg S)
 simp [c4]
 exact h
def Dk.jt (D : Dk) (k : Int) : List Int × Int := if D.ga then ([], 10) else match D.get k with
 | none => ([], 11)
 | some f => (f.jb ++ f.gy, 0)
theorem uv (hk : lg m (a ++ e :: b) D) : e.jb.length + e.gy.length ≤ D.gp := by
 have : e.abs.len ∈ D.fs.map Fil.len := by
  rw [hk.fs]
  exact List.mem_map_of_mem (List.mem_map_of_mem (by simp))
 exact acy this
theorem bbx (hk : lg m es D) (S : St w0 w (kq hb r m es D ++ R)) (k : Int) {K : KV} (h : ∀ w' v, St w0 w' (jh v (D.jt k).1 :: (kq hb r m es D ++ R)) → K (.tuple #[v, .int .i64 (D.jt k).2]) w') : fg P F.cm [.pointer (some ⟨hb, 0, none⟩), .int .i64 k] w K := by
 rw [M.dh.fcall]
 apply M.dh.calls
 unfold M.dh
 unfold Dk.jt at h
 have Snil : St w0 w (jh (.slice none 0 0) [] :: (kq hb r m es D ++ R)) := S.add (a := jh (.slice none 0 0) []) (Fr.refl _ w) (B := fun _ => False) ⟨Ow.none, fun b hb => by simp [Value.ownBlock] at hb⟩ fun b hb => hb.elim
 refine aga hk S k (fun hd => ?_) (fun hd hn => ?_) fun hd a e b he hek => ?_
 ·simp [hd] at h ⊢
  exact h w _ Snil
 ·rw [hk.aaj hn] at h
  simp [hd] at h ⊢
  exact h w _ Snil
 ·subst he
  have hl := uv hk
  have hu := hk.gp
  have hr := hk.gr
  rw [← hek, hk.tp] at h
  simp [hd] at h ⊢
  refine anx (S.perm (mu hb r m a b e D R)) (by omega) fun w' v S' => ?_
  exact h w' v (S'.tail (mu hb r m a b e D R).symm)
end
set_option maxRecDepth 100000
open Go.Eng Go.Proofs.YtfnhoaemapheoaaGreat.Sint
def Dk.ll (D : Dk) (k : Int) (fa lo : List Int) : Dk := { D with fs := D.fs.map fun f => if f.n = k then ⟨k, fa, lo⟩ else f }
def Dk.rem (D : Dk) (k : Int) : Dk := { D with fs := D.fs.filter fun f => decide (f.n ≠ k) }
section
variable {w0 w : World} {hb r : Nat} {m : MP} {es a b : List FE} {D : Dk} {R : List Asn} {e e' : FE}
theorem lg.aly (h : lg m (a ++ e :: b) D) : ∀ x, x ∈ a ∨ x ∈ b → x.n ≠ e.n := by
 have hn := h.tn
 rw [List.map_append, List.map_cons, List.nodup_append, List.nodup_cons] at hn
 rintro x (hx | hx) he
 ·exact hn.2.2 x.n (List.mem_map_of_mem hx) e.n (List.mem_cons_self ..) he
 ·exact hn.2.1.1 (he ▸ List.mem_map_of_mem hx)
theorem aqp (h : lg m (a ++ e :: b) D) (fa lo : List Int) : (D.ll e.n fa lo).fs = a.map FE.abs ++ ⟨e.n, fa, lo⟩ :: b.map FE.abs := by
 unfold Dk.ll
 simp only [h.fs, List.map_append, List.map_cons, List.map_map]
 have hx : ∀ x : FE, x ∈ a ∨ x ∈ b → ((fun f : Fil => if f.n = e.n then (⟨e.n, fa, lo⟩ : Fil) else f) ∘ FE.abs) x = x.abs := fun x hx => by
  show (if x.n = e.n then _ else x.abs) = _
  rw [if_neg (h.aly x hx)]
 rw [List.map_congr_left fun x hxa => hx x (.inl hxa), List.map_congr_left (l := b) fun x hxb => hx x (.inr hxb)]
 simp [FE.abs]
theorem aba (h : lg m (a ++ e :: b) D) (fa lo : List Int) : (D.ll e.n fa lo).gp + (e.jb.length + e.gy.length) = D.gp + (fa.length + lo.length) := by
 unfold Dk.gp
 rw [aqp h, h.fs]
 simp [FE.abs, Fil.len]
 omega
theorem lg.ll (h : lg m (a ++ e :: b) D) (hn : e'.n = e.n) (hp : e'.p = e.p) (hu : ((D.ll e.n e'.jb e'.gy).gp : Int) ≤ D.gr) : lg m (a ++ e' :: b) (D.ll e.n e'.jb e'.gy) where
 fs := by rw [aqp h, ← hn]; simp [FE.abs]
 ml := by rw [h.ml]; simp
 mg x hx := by
  rcases List.mem_append.1 hx with hx | hx
  ·exact h.mg x (by simp [hx])
  ·rcases List.mem_cons.1 hx with rfl | hx
   ·rw [hn, h.mg e (by simp)]; simp [FE.ptr, hp]
   ·exact h.mg x (by simp [hx])
 mz k hk := h.mz k fun x hx => by
  rcases List.mem_append.1 hx with hx | hx
  ·exact hk x (by simp [hx])
  ·rcases List.mem_cons.1 hx with rfl | hx
   ·rw [← hn]; exact hk e' (by simp)
   ·exact hk x (by simp [hx])
 tn := by have := h.tn; simp only [List.map_append, List.map_cons] at *; rw [hn]; exact this
 kp := by have := h.kp; simp only [List.map_append, List.map_cons] at *; rw [hn]; exact this
 gr := h.gr
 gp := hu
 rng x hx := by
  rcases List.mem_append.1 hx with hx | hx
  ·exact h.rng x (by simp [hx])
  ·rcases List.mem_cons.1 hx with rfl | hx
   ·rw [hn]; exact h.rng e (by simp)
   ·exact h.rng x (by simp [hx])
 arm := h.arm
theorem lg.rem (h : lg m (a ++ e :: b) D) : lg (vq m e.n) (a ++ b) (D.rem e.n) where
 fs := by
  unfold Dk.rem
  simp only [h.fs, List.map_append, List.map_cons, List.filter_append]
  have hx : ∀ l : List FE, (∀ x ∈ l, x.n ≠ e.n) → (l.map FE.abs).filter (fun f => decide (f.n ≠ e.n)) = l.map FE.abs := fun l hl => List.filter_eq_self.2 fun f hf => by
   obtain ⟨x, hx, rfl⟩ := List.mem_map.1 hf
   exact decide_eq_true (hl x hx)
  rw [List.filter_cons, hx a fun x h' => h.aly x (.inl h'), hx b fun x h' => h.aly x (.inr h')]
  simp [FE.abs]
 ml := by
  have h1 := zc m e.n
  have h2 : (ir (vq m e.n)).length = (ir m).length - 1 := by
   rw [h1, List.length_erase_of_mem]
   exact h.kp.mem_iff.2 (List.mem_map_of_mem (by simp))
  simp only [ir, List.length_map] at h2
  rw [h2, h.ml]
  simp
 mg x hx := by
  rw [aez _ _ _ fun he => h.aly x (List.mem_append.1 hx) he.symm]
  exact h.mg x (by rcases List.mem_append.1 hx with h | h <;> simp [h])
 mz k hk := by
  by_cases hek : e.n = k
  ·subst hek; exact ajo _ _ h.nd
  ·rw [aez _ _ _ hek]
   refine h.mz k fun x hx => ?_
   rcases List.mem_append.1 hx with hx | hx
   ·exact hk x (by simp [hx])
   ·rcases List.mem_cons.1 hx with rfl | hx
    ·exact hek
    ·exact hk x (by simp [hx])
 tn := by
  have := h.tn
  rw [(List.Perm.map FE.n (List.perm_middle (l₁ := a) (a := e) (l₂ := b))).nodup_iff] at this
  exact (List.nodup_cons.1 this).2
 kp := by
  rw [zc]
  have h1 := (h.kp.trans (List.Perm.map FE.n (List.perm_middle (l₁ := a) (a := e) (l₂ := b)))).erase e.n
  rw [List.map_cons, List.erase_cons_head] at h1
  exact h1
 gr := h.gr
 gp := by
  have h1 := h.gp
  have h2 : (D.rem e.n).gp ≤ D.gp := by
   unfold Dk.rem Dk.gp
   have : ∀ l : List Fil, ((l.filter fun f => decide (f.n ≠ e.n)).map Fil.len).sum ≤ (l.map Fil.len).sum := fun l => by
    induction l with
    | nil => simp
    | cons f l ih =>
     rw [List.filter_cons]
     split
     ·rw [List.map_cons, List.map_cons, List.sum_cons, List.sum_cons]; omega
     ·rw [List.map_cons, List.sum_cons]; omega
   exact this D.fs
  show ((D.rem e.n).gp : Int) ≤ D.gr
  omega
 rng x hx := h.rng x (by rcases List.mem_append.1 hx with h | h <;> simp [h])
 arm := h.arm
theorem qi (S : St w0 w R) : St w0 w (jh (.slice none 0 0) [] :: R) := S.add (a := jh (.slice none 0 0) []) (Fr.refl _ w) (B := fun _ => False) ⟨Ow.none, fun b hb => by simp [Value.ownBlock] at hb⟩ fun b hb => hb.elim
theorem akc {v : Value} {l : List Int} (S : St w0 w (jh v l :: vd e :: R)) : St w0 ((w.setCell ⟨e.p, 0, none⟩ v).setCell ⟨e.p, 1, none⟩ (.slice none 0 0)) (vd { e with fv := v, lv := .slice none 0 0, jb := l, gy := [] } :: R) := by
 have S1 := uq S.swap
 have S2 : St w0 w (fu e.p #[e.fv, e.lv] T.ag :: jh v l :: R) := (S1.swap.drop.swap.drop : St w0 w _)
 have hh := S2.blk
 have S3 := S2.kf (cs' := #[v, .slice none 0 0]) (e' := T.ag) (w' := (w.setCell ⟨e.p, 0, none⟩ v).setCell ⟨e.p, 1, none⟩ (.slice none 0 0)) (((Fr.refl (fun x => x = e.p) w).setCell (.inl rfl) _ _).setCell (.inl rfl) _ _) (by rw [jw (jw hh)]; rfl)
 exact aml (e := { e with fv := v, lv := .slice none 0 0, jb := l, gy := [] }) ((qi S3).perm ((List.Perm.swap _ _ _).trans (List.Perm.cons _ (List.Perm.swap _ _ _))))
theorem Ow.take {α : Type} {enc : α → List Value} {base : Nat} {et : TypeId} {v : Value} {l : List α} {t : TypeId} (he : ∀ x, (enc x).length = 1) (h : Ow w base et 1 enc v l) (ht : li P t = true) (hz : szE P t = 1) {n : Nat} (hn : n ≤ l.length) {k : IntKind} :
  ∃ v', Ow w base et 1 enc v' (l.take n) ∧ (∀ g, v'.ownBlock = some g → v.ownBlock = some g) ∧ ∀ w1 K, slT P t v none (some (.int k (n : Int))) none w1 K = K v' w1 := by
 have h' := h
 obtain ⟨h1, h2⟩ := h
 have hlen : (l.take n).length = n := by rw [List.length_take]; omega
 have hfl : (l.take n).flatMap enc = (l.flatMap enc).take (n * 1) := by
  clear h' h1 h2 hlen
  induction l generalizing n with
  | nil => simp
  | cons x l ih =>
   cases n with
   | zero => simp
   | succ n =>
    have := ih (n := n) (by simpa using hn)
    rw [List.take_succ_cons, List.flatMap_cons, this, List.flatMap_cons, List.take_append, he]
    have hx := he x
    have e : (n + 1) * 1 - 1 = n * 1 := by omega
    rw [e, List.take_of_length_le (l := enc x) (by rw [hx]; omega)]
 rcases h2 with ⟨rfl, h0⟩ | ⟨g, cap, cur, rfl, hb0, hb, hc, hr⟩
 ·have : n = 0 := by omega
  subst this
  refine ⟨.slice none 0 0, ?_, fun g hg => hg, fun w1 K => by rw [wz ht (.inl ⟨rfl, rfl⟩) (.inr ⟨k, rfl⟩) (Nat.le_refl _) (Nat.le_refl _)]; simp⟩
  rw [List.take_zero]; exact Ow.none
 ·refine ⟨.slice (some ⟨g, 0, none⟩) n cap, ?_, fun g hg => hg, fun w1 K => ?_⟩
  ·unfold Ow
   rw [hlen, hfl]
   exact axe h' hn
  ·rw [wz ht (.inl ⟨rfl, rfl⟩) (.inr ⟨k, rfl⟩) (Nat.zero_le _) (by omega)]
   simp [Addr.add]
theorem bdq {v : Value} {l : List Int} (S : St w0 w (jh v l :: R)) {n : Nat} (hn : n ≤ l.length) : ∃ v', (∀ w1 K, slT P T.d v none (some (.int .i64 (n : Int))) none w1 K = K v' w1) ∧ St w0 w (jh v' (l.take n) :: R) := by
 obtain ⟨B, ⟨h1, h2⟩, hB, cl⟩ := S.open
 obtain ⟨v', o, g, f⟩ := Ow.take ip h1 (t := T.d) (by kernel_rfl) (by kernel_rfl) hn (k := .i64)
 exact ⟨v', f, cl w [jh v' (l.take n)] (Fr.refl _ _) (Rs.one (B := B) ⟨o, fun b hb => h2 b (g b hb)⟩ fun b hb => .inl hb)⟩
def Dk.lh (D : Dk) (k : Int) : Dk × Int := if D.ga then (D, 10) else match D.get k with
 | none => (D, 11)
 | some f => (D.ll k (f.jb ++ f.gy) [], 0)
def Dk.cut (D : Dk) (k n : Int) : Dk × Int := if D.ga then (D, 10) else match D.get k with
 | none => (D, 11)
 | some f => if n < 0 ∨ (f.jb.length + f.gy.length : Nat) < n then (D, 1) else (D.ll k ((f.jb ++ f.gy).take n.toNat) [], 0)
def Dk.na (D : Dk) (k : Int) : Dk × Int := if D.ga then (D, 10) else match D.get k with
 | none => (D, 11)
 | some _ => (D.rem k, 0)
theorem acx (S : St w0 w (fu e.p #[e.fv, e.lv] T.ag :: R)) : fo w e.p 0 = some e.fv ∧ fo w e.p 1 = some e.lv ∧ ∀ i, nt w e.p i = false := by
 have hh := S.blk
 exact ⟨by rw [fp hh]; rfl, by rw [fp hh]; rfl, lc hh⟩
theorem arc (S : St w0 w (fy hb D :: R)) (k : Int) {K : KV} (h : ∀ w', St w0 w' (fy hb (D.lh k).1 :: R) → K (.int .i64 (D.lh k).2) w') : fg P F.cl [.pointer (some ⟨hb, 0, none⟩), .int .i64 k] w K := by
 obtain ⟨r, m, es, hk, S'⟩ := vl S
 rw [M.dg.fcall]
 apply M.dg.calls
 unfold M.dg
 unfold Dk.lh at h
 refine aga hk S' k (fun hd => ?_) (fun hd hn => ?_) fun hd a e b he hek => ?_
 ·simp [hd] at h ⊢
  exact h w S
 ·rw [hk.aaj hn] at h
  simp [hd] at h ⊢
  exact h w S
 ·subst he
  have hl := uv hk
  have hu := hk.gp
  have hr := hk.gr
  rw [← hek, hk.tp] at h
  simp [hd, FE.abs] at h ⊢
  refine anx (S'.perm (mu hb r m a b e D R)) (by omega) fun w' v S2 => ?_
  have S3 := akc S2
  obtain ⟨x1, x2, hv, _⟩ := S2.row ip
  generalize (e.jb ++ e.gy).length = L at hv
  subst hv
  obtain ⟨c0, c1, fz⟩ := acx (uq S2.swap)
  simp [FE.ptr, c0, c1, fz, gh, gq]
  refine h _ (xt (m := m) (r := r) (es := a ++ { e with fv := .slice x1 L x2, lv := .slice none 0 0, jb := e.jb ++ e.gy, gy := [] } :: b) (hk.ll (e' := { e with fv := .slice x1 L x2, lv := .slice none 0 0, jb := e.jb ++ e.gy, gy := [] }) rfl rfl ?_) (S3.perm (mu hb r m a b _ _ R).symm))
  have := aba hk (e.jb ++ e.gy) []
  simp at this ⊢
  omega
theorem bdn (S : St w0 w (fy hb D :: R)) (k n : Int) {K : KV} (h : ∀ w', St w0 w' (fy hb (D.cut k n).1 :: R) → K (.int .i64 (D.cut k n).2) w') : fg P F.dn [.pointer (some ⟨hb, 0, none⟩), .int .i64 k, .int .i64 n] w K := by
 obtain ⟨r, m, es, hk, S'⟩ := vl S
 rw [M.bp.fcall]
 apply M.bp.calls
 unfold M.bp
 unfold Dk.cut at h
 refine aga hk S' k (fun hd => ?_) (fun hd hn => ?_) fun hd a e b he hek => ?_
 ·simp [hd] at h ⊢
  exact h w S
 ·rw [hk.aaj hn] at h
  simp [hd] at h ⊢
  exact h w S
 ·subst he
  have hl := uv hk
  have hu := hk.gp
  have hr := hk.gr
  rw [← hek, hk.tp] at h
  simp [hd, FE.abs] at h ⊢
  unfold M.bp.j0
  refine anx (S'.perm (mu hb r m a b e D R)) (by omega) fun w' v S2 => ?_
  have hlen := fun K => (S2.row ip).ij (P := P) (t := T.d) (ty := T.a) (w := w') (by kernel_rfl) [false] (K := K)
  have hback : St w0 w' (fy hb D :: R) := xt hk (S2.drop.perm (mu hb r m a b e D R).symm)
  by_cases h0 : n < 0
  ·simp [h0] at h ⊢
   exact h w' hback
  ·by_cases h1 : ((e.jb.length : Int) + e.gy.length) < n
   ·simp [h0, h1, hlen] at h ⊢
    exact h w' hback
   ·simp [h0, h1, hlen] at h ⊢
    unfold M.bp.j1
    obtain ⟨v', hs, S3⟩ := bdq (n := n.toNat) S2 (by simp; omega)
    have hn : ((n.toNat : Nat) : Int) = n := by omega
    rw [hn] at hs
    rw [hs]
    have S4 := akc S3
    obtain ⟨x1, x2, hv, _⟩ := S3.row ip
    generalize (List.take n.toNat (e.jb ++ e.gy)).length = L at hv
    subst hv
    obtain ⟨c0, c1, fz⟩ := acx (uq S3.swap)
    simp [FE.ptr, c0, c1, fz, gh, gq]
    refine h _ (xt (m := m) (r := r) (es := a ++ { e with fv := .slice x1 L x2, lv := .slice none 0 0, jb := (e.jb ++ e.gy).take n.toNat, gy := [] } :: b) ?_ (S4.perm (mu hb r m a b _ _ R).symm))
    have := aba hk ((e.jb ++ e.gy).take n.toNat) []
    simp [List.take_append] at this ⊢
    have hh := hk.ll (e' := { e with fv := .slice x1 L x2, lv := .slice none 0 0, jb := (e.jb ++ e.gy).take n.toNat, gy := [] }) rfl rfl (by
     simp [List.take_append]
     omega)
    simpa [List.take_append] using hh
theorem ali (S : St w0 w (fy hb D :: R)) (k : Int) {K : KV} (h : ∀ w', St w0 w' (fy hb (D.na k).1 :: R) → K (.int .i64 (D.na k).2) w') : fg P F.cc [.pointer (some ⟨hb, 0, none⟩), .int .i64 k] w K := by
 obtain ⟨r, m, es, hk, S'⟩ := vl S
 rw [M.cz.fcall]
 apply M.cz.calls
 unfold M.cz
 unfold Dk.na at h
 refine aga hk S' k (fun hd => ?_) (fun hd hn => ?_) fun hd a e b he hek => ?_
 ·simp [hd] at h ⊢
  exact h w S
 ·rw [hk.aaj hn] at h
  simp [hd] at h ⊢
  exact h w S
 ·subst he
  rw [← hek, hk.tp] at h
  obtain ⟨_, c1, _⟩ := ni (qg S')
  simp [hd, c1] at h ⊢
  refine bcx mt.o (adu S').1 k _ _ _ fun o hm => ?_
  refine h _ (xt (m := vq m e.n) (r := r) (es := a ++ b) hk.rem ?_)
  have S2 : St w0 w (jz r .i64 m :: ark hb r (D.rem e.n) :: ((a ++ b).map vd ++ R)) := ((S'.perm (mu hb r m a b e D R)).drop : St w0 w (ark hb r D :: jz r .i64 m :: ((a ++ b).map vd ++ R))).swap
  obtain ⟨B, ⟨h1, h2⟩, hB, cl⟩ := S2.open
  refine (cl (World.setObj w r o) [jz r .i64 (vq m e.n)] ((Fr.refl B w).setObj (.inl h2) o) (Rs.one (B := B) ⟨⟨?_, ?_⟩, h2⟩ fun b hb => .inl hb)).swap
  ·rw [hek]; exact hm
  ·rw [zc]; exact h1.2.erase _
end
set_option maxRecDepth 100000
open Go.Eng Go.Proofs.YtfnhoaemapheoaaGreat.Sint
def Dk.abo (D : Dk) (k : Int) : Dk := { D with fs := D.fs ++ [⟨k, [], []⟩] }
def Dk.nh (D : Dk) (l : List Int) : List Int := if D.ie then l.take (min (l.length : Int) D.left).toNat else l
def Dk.after (D : Dk) (l : List Int) : Dk := if D.ie then { D with ga := decide (D.left < l.length), left := D.left - (min (l.length : Int) D.left).toNat } else D
def Dk.put (D : Dk) (k : Int) (l : List Int) : Dk := match D.get k with
 | none => ((D.abo k).ll k [] (D.nh l)).after l
 | some f => (D.ll k f.jb (f.gy ++ D.nh l)).after l
def Dk.append (D : Dk) (k : Int) (l : List Int) : Dk × Int :=
 if D.ga then (D, 10) else if k < 0 ∨ 64 ≤ k then (D, 1) else if D.gr < D.gp + l.length then (D, 9) else (D.put k l, if (D.put k l).ga then 10 else 0)
section
variable {w0 w : World} {hb r : Nat} {m : MP} {es a b : List FE} {D : Dk} {R : List Asn} {e e' : FE}
theorem wg {v v2 : Value} {l l2 : List Int} (S : St w0 w (jh v l :: R)) (hs : SlB w v2 l2) (hl : l.length + l2.length ≤ 1000000000) {cs : List Bool} {ty : TypeId} {K : KV} (h : ∀ w' v', St w0 w' (jh v' (l ++ l2) :: R) → K v' w') :
  biT P .append #[T.d, T.d] ty cs [v, v2] w K := by
 obtain ⟨B, ⟨h1, h2⟩, hB, cl⟩ := S.open
 refine wx et.d ip vx h1 hs hl (by decide) (Nat.zero_le _) cs fun v' w' o f g => ?_
 refine h w' v' (cl w' [jh v' (l ++ l2)] (f.mono fun x _ hx => h2 x hx) (Rs.one (B := fun x => v'.ownBlock = some x) ⟨o, fun b hb => hb⟩ fun x hx => ?_))
 rcases g with g | ⟨y, g1, g2⟩
 ·exact .inl (h2 x (by rw [← g]; exact hx))
 ·rw [hx] at g1; cases g1
  exact .inr ⟨g2, (o.lt hx).2⟩
theorem anu (S : St w0 w (fy hb D :: R)) {K : KV} (h : K (.int .i64 (if D.ga then 10 else 0)) w) : fg P F.bg [.pointer (some ⟨hb, 0, none⟩)] w K := by
 obtain ⟨r, m, es, hk, S'⟩ := vl S
 exact aoh (qg S') h
theorem azz (hk : lg m (a ++ e :: b) D) (S : St w0 w (kq hb r m (a ++ e :: b) D ++ R)) {v2 : Value} {l2 : List Int} (hs : SlB w v2 l2) (hu : ((D.gp + l2.length : Nat) : Int) ≤ D.gr) {K : KV}
  (h : ∀ w', St w0 w' (fy hb (D.ll e.n e.jb (e.gy ++ l2)) :: R) → K (.int .i64 (if D.ga then 10 else 0)) w') : M.ak.j2 [e.ptr] [v2] (.pointer (some ⟨hb, 0, none⟩)) w K := by
 unfold M.ak.j2
 have hl := uv hk
 have hr := hk.gr
 have S1 := uq (S.perm (mu hb r m a b e D R))
 obtain ⟨c0, c1, fz⟩ := acx S1
 obtain ⟨x1, x2, hv, _⟩ := S1.za.row ip
 have c1' := c1
 rw [hv] at c1'
 simp [FE.ptr, c1']
 rw [← hv]
 refine wg S1.za hs (by omega) fun w1 v' S2 => ?_
 have S3 := S2.za.tail (List.Perm.refl _)
 have S4 : St w0 w1 (fu e.p #[e.fv, e.lv] T.ag :: jh v' (e.gy ++ l2) :: jh e.fv e.jb :: (kq hb r m (a ++ b) D ++ R)) := S2.swap
 obtain ⟨d0, d1, fz1⟩ := acx S4
 have hcell : ∃ x y z, v' = .slice x y z := by
  obtain ⟨x, z, hv, _⟩ := S2.row ip
  exact ⟨x, _, z, hv⟩
 obtain ⟨y1, y2, y3, rfl⟩ := hcell
 have hh := S4.blk
 have S5 := S4.kf (cs' := #[e.fv, .slice y1 y2 y3]) (e' := T.ag) (w' := w1.setCell ⟨e.p, 1, none⟩ (.slice y1 y2 y3)) ((Fr.refl (fun x => x = e.p) w1).setCell (.inl rfl) _ _) (by rw [jw hh]; rfl)
 simp [d1, fz1]
 have S6 := aml (e := { e with lv := .slice y1 y2 y3, gy := e.gy ++ l2 }) (S5.tail (.swap _ _ _))
 have hk' := hk.ll (e' := { e with lv := .slice y1 y2 y3, gy := e.gy ++ l2 }) rfl rfl (by
  have := aba hk e.jb (e.gy ++ l2)
  simp at this ⊢
  omega)
 have S7 : St w0 (w1.setCell ⟨e.p, 1, none⟩ (.slice y1 y2 y3)) (fy hb (D.ll e.n e.jb (e.gy ++ l2)) :: R) := xt (m := m) (r := r) (es := a ++ { e with lv := .slice y1 y2 y3, gy := e.gy ++ l2 } :: b) hk' (S6.perm (mu hb r m a b _ _ R).symm)
 exact anu S7 (h _ S7)
theorem azo (hk : lg m (a ++ e :: b) D) (S : St w0 w (kq hb r m (a ++ e :: b) D ++ R)) (hd : D.ga = false) {bv : Value} {l : List Int} (hbs : ∀ w' L, St w0 w' (L ++ R) → SlB w' bv l) (hu : ((D.gp + l.length : Nat) : Int) ≤ D.gr) {K : KV}
  (h : ∀ w', St w0 w' (fy hb ((D.ll e.n e.jb (e.gy ++ D.nh l)).after l) :: R) → K (.int .i64 (if ((D.ll e.n e.jb (e.gy ++ D.nh l)).after l).ga then 10 else 0)) w') : M.ak.j1 (.pointer (some ⟨hb, 0, none⟩)) bv [e.ptr] w K := by
 unfold M.ak.j1
 have hh := qg S
 have hr := hk.gr
 obtain ⟨_, _, c2, c3, c4, fz⟩ := ni hh
 have hs := hbs w _ S
 have hlen := fun w' K => hs.ij (P := P) (w := w') (t := T.d) (ty := T.a) (by kernel_rfl) [false] (K := K)
 rw [fj]
 cases ha : D.ie with
 | false =>
  rw [ha] at c3
  simp [c3]
  have e1 : D.nh l = l := by unfold Dk.nh; rw [ha]; rfl
  have e2 : (D.ll e.n e.jb (e.gy ++ l)).after l = D.ll e.n e.jb (e.gy ++ l) := by
   unfold Dk.after
   rw [show (D.ll e.n e.jb (e.gy ++ l)).ie = D.ie from rfl, ha]; rfl
  rw [e1, e2] at h
  exact azz hk S hs hu h
 | true =>
  rw [ha] at c3
  obtain ⟨hle, hlt⟩ := hk.arm ha
  have S2 : St w0 ((w.setCell ⟨hb, 4, none⟩ (.bool (decide (D.left < l.length)))).setCell ⟨hb, 2, none⟩ (.int .i64 (D.left - min (l.length : Int) D.left))) (kq hb r m (a ++ e :: b) { D with ga := decide (D.left < l.length), left := D.left - min (l.length : Int) D.left } ++ R) :=
   St.kf (cs' := #[.int .i64 D.gr, .map (some r), .int .i64 (D.left - min (l.length : Int) D.left), .bool D.ie, .bool (decide (D.left < l.length))]) (e' := T.af) S (((Fr.refl (fun x => x = hb) w).setCell (.inl rfl) _ _).setCell (.inl rfl) _ _) (by rw [jw (jw hh)]; rfl)
  obtain ⟨v', s', hsub, hsl⟩ := (hbs _ _ S2).sub (P := P) (t := T.d) (lo := none) (hi := some (.int .i64 ((min (l.length : Int) D.left).toNat : Nat))) (i := 0) (j := (min (l.length : Int) D.left).toNat) (by kernel_rfl) (by kernel_rfl) (.inl ⟨rfl, rfl⟩) (.inr ⟨_, rfl⟩) (Nat.zero_le _) (by omega)
  rw [List.drop_zero, Nat.sub_zero] at s'
  have hmin : (((min (l.length : Int) D.left).toNat : Nat) : Int) = min (l.length : Int) D.left := by omega
  have hmlen : (l.take (min (l.length : Int) D.left).toNat).length = (min (l.length : Int) D.left).toNat := by rw [List.length_take]; omega
  rw [hmin] at hsl
  have hlen' := fun w' K => s'.ij (P := P) (w := w') (t := T.d) (ty := T.a) (by kernel_rfl) [false] (K := K)
  rw [hmlen] at hlen'
  have hwr : IntKind.i64.wrap (D.left - min (l.length : Int) D.left) = D.left - min (l.length : Int) D.left := fm (by omega) (by omega)
  simp only [amp]
  simp [c2, c3, c4, fz, hlen, agk, gh, gq, hsl, hlen', hmin, hwr]
  have e1 : D.nh l = l.take (min (l.length : Int) D.left).toNat := by unfold Dk.nh; rw [ha]; rfl
  have e2 : (D.ll e.n e.jb (e.gy ++ D.nh l)).after l = Dk.ll { D with ga := decide (D.left < l.length), left := D.left - min (l.length : Int) D.left } e.n e.jb (e.gy ++ l.take (min (l.length : Int) D.left).toNat) := by
   unfold Dk.after
   rw [show (D.ll e.n e.jb (e.gy ++ D.nh l)).ie = D.ie from rfl, ha, e1]
   show Dk.mk _ _ _ _ _ = Dk.mk _ _ _ _ _
   congr 1
   show D.left - _ = _
   rw [← hmin]; rfl
  rw [e2] at h
  refine azz (D := { D with ga := decide (D.left < l.length), left := D.left - min (l.length : Int) D.left }) { hk with arm := fun _ => ⟨?_, ?_⟩ } S2 s' ?_ h
  ·show 0 ≤ D.left - min (l.length : Int) D.left; omega
  ·show D.left - min (l.length : Int) D.left < _; omega
  ·show ((D.gp + _ : Nat) : Int) ≤ D.gr
   rw [hmlen]; omega
theorem bag (hk : lg m es D) (S : St w0 w (kq hb r m es D ++ R)) {k : Int} (hall : ∀ e ∈ es, e.n ≠ k) (hr : 0 ≤ k ∧ k < 64) :
  lg (qh m k (FE.ptr ⟨k, w.heap.size, .slice none 0 0, .slice none 0 0, [], []⟩)) (es ++ ⟨k, w.heap.size, .slice none 0 0, .slice none 0 0, [], []⟩ :: []) (D.abo k) ∧
  St w0 (w.alloc (.cells #[.slice none 0 0, .slice none 0 0] T.ag)) (vd ⟨k, w.heap.size, .slice none 0 0, .slice none 0 0, [], []⟩ :: (kq hb r m es D ++ R)) := by
 have hkn : k ∉ ir m := fun h => by
  obtain ⟨e, he, h'⟩ := List.mem_map.1 (hk.kp.mem_iff.1 h)
  exact hall e he h'
 have hmk : ir (qh m k (FE.ptr ⟨k, w.heap.size, .slice none 0 0, .slice none 0 0, [], []⟩)) = ir m ++ [k] := by rw [ajb, if_neg hkn]
 have hml : (qh m k (FE.ptr ⟨k, w.heap.size, .slice none 0 0, .slice none 0 0, [], []⟩)).length = m.length + 1 := by
  have := congrArg List.length hmk
  simpa [ir] using this
 refine ⟨⟨?_, ?_, ?_, ?_, ?_, ?_, hk.gr, ?_, ?_, hk.arm⟩, ?_⟩
 ·show D.fs ++ _ = _
  rw [hk.fs]; simp [FE.abs]
 ·rw [hml, hk.ml]; simp
 ·intro x hx
  rw [aaw]
  rcases List.mem_append.1 hx with hx | hx
  ·rw [if_neg fun h => hall x hx h.symm]; exact hk.mg x hx
  ·rw [List.mem_singleton] at hx
   subst hx
   rw [if_pos rfl]
 ·intro j hj
  rw [aaw, if_neg (c := k = j) fun h => hj ⟨k, w.heap.size, .slice none 0 0, .slice none 0 0, [], []⟩ (by simp) h]
  exact hk.mz j fun e he => hj e (by simp [he])
 ·rw [List.map_append, List.nodup_append]
  refine ⟨hk.tn, by simp, ?_⟩
  rintro x hx y hy rfl
  obtain ⟨e, he, rfl⟩ := List.mem_map.1 hx
  simp at hy
  exact hall e he hy
 ·rw [hmk, List.map_append]
  exact hk.kp.append_right _
 ·have : (D.abo k).gp = D.gp := by unfold Dk.abo Dk.gp; simp [Fil.len]
  rw [this]; exact hk.gp
 ·intro x hx
  rcases List.mem_append.1 hx with hx | hx
  ·exact hk.rng x hx
  ·rw [List.mem_singleton] at hx
   subst hx
   exact hr
 ·have S1 : St w0 (w.alloc (.cells #[.slice none 0 0, .slice none 0 0] T.ag)) (fu w.heap.size #[.slice none 0 0, .slice none 0 0] T.ag :: (kq hb r m es D ++ R)) :=
   S.add ((Fr.refl _ w).alloc _) (B := fun x => x = w.heap.size) ⟨by rw [gc, if_pos rfl], rfl⟩ fun x hx => by subst hx; rw [ii]; omega
  exact aml (e := ⟨k, w.heap.size, .slice none 0 0, .slice none 0 0, [], []⟩) ((qi (qi S1)).za)
theorem ako (S : St w0 w (fy hb D :: R)) (k : Int) {bv : Value} {l : List Int} (hbs : ∀ w' L, St w0 w' (L ++ R) → SlB w' bv l) (hl : l.length ≤ 1000000000) {K : KV}
  (h : ∀ w', St w0 w' (fy hb (D.append k l).1 :: R) → K (.int .i64 (D.append k l).2) w') : fg P F.cd [.pointer (some ⟨hb, 0, none⟩), .int .i64 k, bv] w K := by
 rw [M.ak.fcall]
 apply M.ak.calls
 unfold M.ak
 unfold Dk.append at h
 refine anu S ?_
 cases hd : D.ga with
 | true => simp [hd] at h ⊢; exact h w S
 | false =>
 by_cases h0 : k < 0
 ·simp [hd, h0] at h ⊢; exact h w S
 by_cases h1 : 64 ≤ k
 ·simp [hd, h0, h1] at h ⊢; exact h w S
 have hlen := fun w' K L (S' : St w0 w' (L ++ R)) => (hbs w' L S').ij (P := P) (w := w') (t := T.d) (ty := T.a) (by kernel_rfl) [false] (K := K)
 obtain ⟨r, m, es, hk, S'⟩ := vl S
 obtain ⟨a1, k1, hbv, _⟩ := hbs w _ S'
 have hh := qg S'
 obtain ⟨c0, _⟩ := ni hh
 have hlen1 := fun w' K => (hbs w _ S').ij (P := P) (w := w') (t := T.d) (ty := T.a) (by kernel_rfl) [false] (K := K)
 have hr := hk.gr
 have hu0 := hk.gp
 simp [hd, h0, h1, c0, hlen1]
 refine bam hk (S'.iq ((Fr.refl _ w).dr 1)) fun w1 S1 => ?_
 obtain ⟨c0, c1, _⟩ := ni (qg S1)
 have hw : IntKind.i64.wrap ((D.gp : Int) + l.length) = (D.gp : Int) + l.length := fm (by omega) (by omega)
 simp [c0, hw]
 by_cases h2 : D.gr < D.gp + l.length
 ·simp [h2]
  simp [hd, h0, h1, h2] at h
  exact h w1 (xt hk S1)
 simp [h2]
 simp [hd, h0, h1, h2] at h
 unfold M.ak.j0
 simp [c1]
 rw [zh mt.o (adu S1).1]
 unfold Dk.put at h
 rcases hk.bdo k with ⟨hn, hall⟩ | ⟨a, e, b, he, hek, hg⟩
 ·rw [hk.aaj hall] at h
  rw [hn]
  have c1' : ∀ o, fo (w1.alloc o) hb 1 = some (.map (some r)) := fun o => by
   have hlt := (Array.getElem?_eq_some_iff.1 (qg S1)).1; exact (un (w := w1) (w' := w1.alloc o) (b := hb) (by rw [gc, if_neg (by omega)]) 1).trans c1
  simp [c1']
  obtain ⟨hk2, S2⟩ := bag hk S1 hall (by omega)
  have S3 := S2
  refine alu mt.o (w := w1.alloc (.cells #[.slice none 0 0, .slice none 0 0] T.ag)) (r := r) (m := m) ?_ k _ _ fun o hm => ?_
  ·exact (adu S2.drop).1
  obtain ⟨B, ⟨h1, h2⟩, hB, cl⟩ := S2.za.open
  have S4 := cl (World.setObj (w1.alloc (.cells #[.slice none 0 0, .slice none 0 0] T.ag)) r o) [jz r .i64 (qh m k (FE.ptr ⟨k, w1.heap.size, .slice none 0 0, .slice none 0 0, [], []⟩))] ((Fr.refl B _).setObj (.inl h2) o) (Rs.one (B := B) ⟨⟨hm, hk2.nd⟩, h2⟩ fun b hb => .inl hb)
  have S5 : St w0 (World.setObj (w1.alloc (.cells #[.slice none 0 0, .slice none 0 0] T.ag)) r o) (kq hb r (qh m k (FE.ptr ⟨k, w1.heap.size, .slice none 0 0, .slice none 0 0, [], []⟩)) (es ++ ⟨k, w1.heap.size, .slice none 0 0, .slice none 0 0, [], []⟩ :: []) (D.abo k) ++ R) := by
   refine St.perm S4 (List.Perm.trans ?_ (mu hb r _ es [] ⟨k, w1.heap.size, .slice none 0 0, .slice none 0 0, [], []⟩ (D.abo k) R).symm)
   rw [List.append_nil]
   exact (List.Perm.swap _ _ _).trans (List.Perm.cons _ (List.Perm.swap _ _ _))
  exact azo (e := ⟨k, w1.heap.size, .slice none 0 0, .slice none 0 0, [], []⟩) hk2 S5 hd hbs (by
   have : (D.abo k).gp = D.gp := by unfold Dk.abo Dk.gp; simp [Fil.len]
   rw [this]
   show _ ≤ D.gr
   omega) h
 ·subst he
  rw [← hek, hk.tp] at h
  rw [hg]
  simp [FE.ptr]
  exact azo hk S1 hd hbs (by omega) h
end
set_option maxRecDepth 100000
open Go.Eng Go.Proofs.YtfnhoaemapheoaaGreat.Sint
def vg (kl : List Int) (i len : Nat) : Nat := (max 0 (min (kl.getD i 0) (len : Int))).toNat
def aaf (kl : List Int) (D : Dk) (k : Int) (i : Nat) : Dk := match D.get k with
 | none => D
 | some f => D.ll k (f.jb ++ f.gy.take (vg kl i f.gy.length)) []
def crN (kl : List Int) (D : Dk) (F : List Int) : Nat → Dk
 | 0 => D
 | i + 1 => aaf kl (crN kl D F i) (F.getD i 0) i
def Dk.qk (D : Dk) (kl : List Int) : Dk := { crN kl D D.gu D.gu.length with ie := false, ga := false }
section
variable {w0 w : World} {hb r : Nat} {m : MP} {es a b : List FE} {D : Dk} {R : List Asn} {e e' : FE}
theorem awj (D : Dk) (k : Int) (fa lo : List Int) : (D.ll k fa lo).nu = D.nu := by
 unfold Dk.nu Dk.ll
 rw [List.map_map]
 refine List.map_congr_left fun f hf => ?_
 show (if f.n = k then (⟨k, fa, lo⟩ : Fil) else f).n = f.n
 split
 ·rename_i h; exact h.symm
 ·rfl
theorem apq (kl : List Int) (D : Dk) (k : Int) (i : Nat) : (aaf kl D k i).nu = D.nu := by
 unfold aaf
 split
 ·rfl
 ·exact awj ..
theorem api (kl : List Int) (D : Dk) (F : List Int) : ∀ i, (crN kl D F i).nu = D.nu
 | 0 => rfl
 | i + 1 => (apq kl _ _ _).trans (api kl D F i)
theorem bcm (hk : lg m (a ++ e :: b) D) (S : St w0 w (kq hb r m (a ++ e :: b) D ++ R)) {n : Nat} (hn : n ≤ e.gy.length) {x2 : List Value} {t17 : Value} {K4 : KL} {K : KV}
  (h : ∀ w', St w0 w' (fy hb (D.ll e.n (e.jb ++ e.gy.take n) []) :: R) → K4 [gv x2 4, t17, e.ptr, .int .i64 (n : Int)] w') : M.ar.j5 e.ptr [.int .i64 (n : Int)] K4 x2 t17 w K := by
 unfold M.ar.j5
 have hl := uv hk
 have hu := hk.gp
 have hr := hk.gr
 have S1 := S.perm (mu hb r m a b e D R)
 have S2 := uq S1
 obtain ⟨c0, c1, fz⟩ := acx S2
 have s1 : SlB w e.fv e.jb := S2.swap.row ip
 have s2 : SlB w e.lv e.gy := S2.za.row ip
 obtain ⟨v', s', hsub, hsl⟩ := s2.sub (P := P) (t := T.d) (lo := none) (hi := some (.int .i64 (n : Int))) (i := 0) (j := n) (by kernel_rfl) (by kernel_rfl) (.inl ⟨rfl, rfl⟩) (.inr ⟨_, rfl⟩) (Nat.zero_le _) hn
 rw [List.drop_zero, Nat.sub_zero] at s'
 obtain ⟨a1, k1, hv1, _⟩ := id s1
 obtain ⟨a2, k2, hv2, _⟩ := id s2
 obtain ⟨a3, k3, hv3, _⟩ := id s'
 have c0' := c0
 have c1' := c1
 rw [hv1] at c0'
 rw [hv2] at c1' hsl
 rw [hv3] at hsl
 simp [FE.ptr, c0', c1', hsl]
 rw [← hv1]
 have hmin : (List.take n e.gy).length = min n e.gy.length := by simp
 rw [← hmin, ← hv3]
 have hbl : ((Eng.dr w 1).alloc (.cells #[e.fv, v'] T.d)).heap[w.heap.size]? = some (.cells (([(e.fv, e.jb), (v', e.gy.take n)] : List (Value × List Int)).map (·.1)).toArray T.d (0, 0)) := by
  rw [gc, if_pos (by simp)]; rfl
 have f1 : Fr (fun _ => False) w ((Eng.dr w 1).alloc (.cells #[e.fv, v'] T.d)) := ((Fr.refl _ w).dr 1).alloc _
 rw [M.u.fcall]
 refine CB.yh (L := [(e.fv, e.jb), (v', e.gy.take n)]) hbl (fun p hp => ?_) (by simp [CB.tot]; omega) (by simp) fun w' v o f2 => ?_
 ·simp at hp
  rcases hp with rfl | rfl
  ·exact s1.fr f1 fun _ _ _ h => h
  ·exact s'.fr f1 fun _ _ _ h => h
 ·have hs : w.heap.size ≤ ((Eng.dr w 1).alloc (.cells #[e.fv, v'] T.d)).heap.size := f1.size
  have S3 : St w0 w' (jh v (e.jb ++ e.gy.take n) :: vd e :: (kq hb r m (a ++ b) D ++ R)) := S1.add (a := jh v (e.jb ++ e.gy.take n)) (f1.trans f2) (B := fun b => v.ownBlock = some b) ⟨by simpa using o.mono (Nat.zero_le _), fun b hb => hb⟩ fun b hb => by
   have := o.lt hb
   exact ⟨by omega, this.2⟩
  have S4 := akc S3
  obtain ⟨d0, d1, fz1⟩ := acx (uq S3.swap)
  obtain ⟨y1, y2, hv, _⟩ := S3.row ip
  generalize (e.jb ++ e.gy.take n).length = L at hv
  subst hv
  simp [d0, d1, fz1, gh, gq]
  refine h _ (xt (m := m) (r := r) (es := a ++ { e with fv := .slice y1 L y2, lv := .slice none 0 0, jb := e.jb ++ e.gy.take n, gy := [] } :: b) (hk.ll (e' := { e with fv := .slice y1 L y2, lv := .slice none 0 0, jb := e.jb ++ e.gy.take n, gy := [] }) rfl rfl ?_) (S4.perm (mu hb r m a b _ _ R).symm))
  have := aba hk (e.jb ++ e.gy.take n) []
  simp at this ⊢
  omega
def CrI (w0 : World) (hb : Nat) (D : Dk) (kl : List Int) (R : List Asn) (v : Value) : KL := fun x w1 => ∃ (u0 u1 u2 u3 : Value) (i : Nat), x = [u0, u1, u2, u3, .int .i64 (i : Nat)] ∧ i ≤ D.gu.length ∧ St w0 w1 (pk v D.gu :: fy hb (crN kl D D.gu i) :: R)
theorem aom (S : St w0 w (fy hb D :: R)) {kv : Value} {kl : List Int} (hks : ∀ w' L, St w0 w' (L ++ R) → Sl w' 1 pi kv kl) {K : KV}
  (h : ∀ w', St w0 w' (fy hb (D.qk kl) :: R) → K (.tuple #[]) w') : fg P F.bv [.pointer (some ⟨hb, 0, none⟩), kv] w K := by
 rw [M.ar.fcall]
 apply M.ar.calls
 unfold M.ar
 simp
 unfold M.ar.j0
 rw [fj]
 obtain ⟨r0, m0, es0, hk0, S0⟩ := vl S
 have hfl : D.gu.length ≤ 64 := by
  have := hk0.few
  unfold Dk.gu
  rw [(mw _).length_eq, hk0.nu, List.length_map]; exact this
 refine ahp hk0 S0 fun w1 v S1 => ?_
 have S1' : St w0 w1 (pk v D.gu :: fy hb D :: R) := ((xt hk0 (S1.perm List.perm_middle.symm)) : St w0 w1 (fy hb D :: (pk v D.gu :: R))).swap
 have hsl : ∀ {w i}, St w0 w (pk v D.gu :: fy hb (crN kl D D.gu i) :: R) → Sl w 1 pi v D.gu := fun S => S.row tu
 rw [(hsl (i := 0) S1').ij (by simp)]
 refine ⟨CrI w0 hb D kl R v, fun x _ => D.gu.length - ms x 4, ⟨_, _, _, _, 0, rfl, Nat.zero_le _, S1'⟩, ?_⟩
 rintro x w2 ⟨u0, u1, u2, u3, i, rfl, hi, S2⟩
 have q : ∀ a b c d e : Value, gv [a, b, c, d, e] 4 = e := fun _ _ _ _ _ => rfl
 simp only [q, kc, fj]
 by_cases hil : i < D.gu.length
 ·have hil' : (i : Int) < D.gu.length := by omega
  simp only [hil', decide_true, Eng.cond_true]
  unfold M.ar.j3
  obtain ⟨bb, o, cap, hv, hbb, _, hc⟩ := (hsl S2).at hil
  have c0 := hc 0 _ rfl
  simp only [Nat.mul_one, Nat.add_zero] at c0
  have hmem : D.gu[i] ∈ D.gu := List.getElem_mem hil
  have hnext : crN kl D D.gu (i + 1) = aaf kl (crN kl D D.gu i) D.gu[i] i := by
   show aaf kl _ (D.gu.getD i 0) i = _
   rw [List.getD_eq_getElem?_getD, List.getElem?_eq_getElem hil]; rfl
  have hmem' : D.gu[i] ∈ (crN kl D D.gu i).nu := by
   rw [api]; exact (mw _).mem_iff.1 hmem
  obtain ⟨r, m, es, hk, S3⟩ := vl S2.swap
  generalize hD : crN kl D D.gu i = D1 at *
  generalize hki : D.gu[i] = k at *
  rw [hk.nu] at hmem'
  obtain ⟨e, he, hek⟩ := List.mem_map.1 hmem'
  obtain ⟨a, b, hab⟩ := List.append_of_mem he
  subst hab
  obtain ⟨_, c1, _⟩ := ni (qg S3)
  have hg := hk.mg e (by simp)
  have hlu : ∀ K, luT P T.o (.map (some r)) (.int .i64 k) false w2 K = K e.ptr w2 := fun K => by
   rw [zh mt.o (adu S3).1, ← hek, hg]; rfl
  obtain ⟨hbk, s1, s2⟩ := aul (a := a) (e := e) (b := b) S3
  have d1 : fo w2 e.p 1 = some e.lv := by rw [fp hbk]; rfl
  have hlenl := fun w' K => s2.ij (P := P) (w := w') (t := T.d) (ty := T.a) (by kernel_rfl) [false] (K := K)
  have hks2 := hks w2 (pk v D.gu :: [fy hb D1]) S2
  have hlenk := fun w' K => hks2.ij (P := P) (w := w') (t := T.h) (ty := T.a) (by kernel_rfl) [false] (K := K)
  obtain ⟨a2, k2, hv2, _⟩ := id s2
  have d1' := d1
  rw [hv2] at d1' hlenl
  have hwi : IntKind.i64.wrap ((i : Int) + 1) = ((i + 1 : Nat) : Int) := by rw [fm (by omega) (by omega)]; rfl
  have hst : crN kl D D.gu (i + 1) = D1.ll e.n (e.jb ++ e.gy.take (vg kl i e.gy.length)) [] := by
   rw [hnext]
   unfold aaf
   rw [← hek, hk.tp]; rfl
  have fin : ∀ w' y0 y1 y2 y3, St w0 w' (fy hb (D1.ll e.n (e.jb ++ e.gy.take (vg kl i e.gy.length)) []) :: pk v D.gu :: R) → CrI w0 hb D kl R v [y0, y1, y2, y3, .int .i64 ((i + 1 : Nat) : Int)] w' ∧ D.gu.length - ms [y0, y1, y2, y3, .int .i64 ((i + 1 : Nat) : Int)] 4 < D.gu.length - ms [u0, u1, u2, u3, .int .i64 (i : Nat)] 4 := fun w' y0 y1 y2 y3 S' => ⟨⟨_, _, _, _, i + 1, rfl, by omega, by rw [hst]; exact S'.swap⟩, by simp only [ms, q]; simp; omega⟩
  rw [hv]
  by_cases hik : i < kl.length
  ·have hik' : (i : Int) < kl.length := by omega
   obtain ⟨bk, ok, capk, hkv, hbk2, _, hck⟩ := hks2.at hik
   have ck := hck 0 _ rfl
   simp only [Nat.mul_one, Nat.add_zero] at ck
   have hsty : ((vg kl i e.gy.length : Nat) : Int) = max 0 (min kl[i] (e.gy.length : Int)) := by
    unfold vg
    rw [List.getD_eq_getElem?_getD, List.getElem?_eq_getElem hik]
    simp only [Option.getD_some]
    omega
   simp [q, hil, c0, c1, hlu, hlenk, hik]
   rw [hkv]
   simp [hik, ck, FE.ptr, d1', hlenl, agk, ayb, ← hsty]
   have S4 := S3.iq ((Fr.refl _ w2).dr 1)
   refine bcm (n := vg kl i e.gy.length) (R := pk v D.gu :: R) hk S4 (by omega) fun w' S' => ?_
   rw [← hv]
   have := fin w' (gv [u0, u1, u2, u3, .int .i64 (i : Nat)] 4) (.int .i64 k) e.ptr (.int .i64 (vg kl i e.gy.length : Nat)) S'
   rw [hwi]
   exact this
  ·have hik' : ¬ (i : Int) < kl.length := by omega
   have hst0 : vg kl i e.gy.length = 0 := by
    unfold vg
    rw [List.getD_eq_getElem?_getD, List.getElem?_eq_none (by omega)]
    simp only [Option.getD_none]
    omega
   rw [hst0] at fin
   simp [q, hil, c0, c1, hlu, hlenk, hik]
   refine bcm (n := 0) (R := pk v D.gu :: R) hk S3 (by omega) fun w' S' => ?_
   rw [← hv]
   have := fin w' (gv [u0, u1, u2, u3, .int .i64 (i : Nat)] 4) (.int .i64 k) e.ptr (.int .i64 (0 : Nat)) S'
   rw [hwi]
   exact this
 ·have hil' : ¬ (i : Int) < D.gu.length := by omega
  simp only [hil', decide_false, Eng.cond_false]
  have hii : i = D.gu.length := by omega
  subst hii
  obtain ⟨r, m, es, hk, S3⟩ := vl S2.drop
  obtain ⟨_, _, _, c3, c4, fz⟩ := ni (qg S3)
  have hh := qg S3
  simp [c3, c4, fz, gh, gq]
  refine h _ (xt (r := r) (m := m) (es := es) (D := D.qk kl) { hk with arm := fun h => by cases h } (St.kf (cs' := #[.int .i64 (crN kl D D.gu D.gu.length).gr, .map (some r), .int .i64 (crN kl D D.gu D.gu.length).left, .bool false, .bool false]) (e' := T.af) S3 (((Fr.refl (fun x => x = hb) w2).setCell (.inl rfl) _ _).setCell (.inl rfl) _ _) ?_))
  rw [jw (jw hh)]; rfl
end
set_option maxRecDepth 100000
open Go.Eng Go.Proofs.YtfnhoaemapheoaaGreat.Sint
section
variable {w0 w : World} {hb : Nat} {D : Dk} {R : List Asn}
theorem bbw (S : St w0 w (fy hb D :: R)) (k : Int) {K : KV} (h : ∀ w' v, St w0 w' (jh v (D.jt k).1 :: fy hb D :: R) → K (.tuple #[v, .int .i64 (D.jt k).2]) w') : fg P F.cm [.pointer (some ⟨hb, 0, none⟩), .int .i64 k] w K := by
 obtain ⟨r, m, es, hk, S'⟩ := vl S
 exact bbx hk S' k fun w' v S2 => h w' v (xt hk (S2.perm List.perm_middle.symm) : St w0 w' (fy hb D :: (jh v (D.jt k).1 :: R))).swap
theorem aym (S : St w0 w (fy hb D :: R)) {K : KV} (h : ∀ w' v, St w0 w' (pk v D.gu :: fy hb D :: R) → K v w') : fg P F.bf [.pointer (some ⟨hb, 0, none⟩)] w K := by
 obtain ⟨r, m, es, hk, S'⟩ := vl S
 exact ahp hk S' fun w' v S2 => h w' v (xt hk (S2.perm List.perm_middle.symm) : St w0 w' (fy hb D :: (pk v D.gu :: R))).swap
theorem bcd (S : St w0 w (fy hb D :: R)) {n : Int} (hn : n < 9223372036854775808) {K : KV} (h : ∀ w', St w0 w' (fy hb { D with ie := decide (0 ≤ n), left := n } :: R) → K (.tuple #[]) w') : fg P F.cv [.pointer (some ⟨hb, 0, none⟩), .int .i64 n] w K := by
 obtain ⟨r, m, es, hk, S'⟩ := vl S
 exact bdr hk S' hn fun w' hk' S2 => h w' (xt hk' S2)
theorem act (S : St w0 w (fy hb D :: R)) {K : KV} (h : K (.bool D.ga) w) : fg P F.ao [.pointer (some ⟨hb, 0, none⟩)] w K := by
 obtain ⟨r, m, es, hk, S'⟩ := vl S
 exact axk S' h
end
end Go.Proofs.YtfnhoaemapheoaaGreat
set_option maxRecDepth 100000
namespace Go.Eng
section
variable {P : Program} {x : Int} {w : World} {K : KV}
theorem awx : unT P .neg (.int .u32 x) w K = K (.int .u32 (IntKind.u32.wrap (0 - x))) w := by
 simp [unT, ia, Op.unary, Op.intArith, Sem.run_pure]
theorem axl : unT P .xor (.int .u32 x) w K = K (.int .u32 (IntKind.u32.wrap (BitVec.ofInt IntKind.u32.bits IntKind.u32.max ^^^ BitVec.ofInt IntKind.u32.bits x).toNat)) w := by
 have e : (if IntKind.u32.signed = true then (-1 : Int) else IntKind.u32.max) = IntKind.u32.max := if_neg (by decide)
 unfold unT ia
 simp only [Op.unary, e, Op.intBits, Sem.run_pure]
end
end Go.Eng
namespace Go.Proofs.YtfnhoaemapheoaaGreat
open Go.Eng Go.Proofs.YtfnhoaemapheoaaGreat.Sint
def anl (a b : Int) : Int := IntKind.u32.wrap (BitVec.ofInt IntKind.u32.bits a ^^^ BitVec.ofInt IntKind.u32.bits b).toNat
def ayx (a b : Int) : Int := IntKind.u32.wrap (BitVec.ofInt IntKind.u32.bits a &&& BitVec.ofInt IntKind.u32.bits b).toNat
def orE (a b : Int) : Int := IntKind.u32.wrap (BitVec.ofInt IntKind.u32.bits a ||| BitVec.ofInt IntKind.u32.bits b).toNat
def orL (a b : Int) : Int := IntKind.u64.wrap (BitVec.ofInt IntKind.u64.bits a ||| BitVec.ofInt IntKind.u64.bits b).toNat
def ago (a : Int) : Int := anl IntKind.u32.max a
def zp (r : Int) : Int := anl (r.fdiv (2 ^ min (1 : Int).toNat IntKind.u32.bits)) (ayx 3988292384 (IntKind.u32.wrap (0 - ayx r 1)))
def qy (f : Int → Int) : Nat → Int → Int
 | 0, r => r
 | n + 1, r => f (qy f n r)
def acv (r : Int) (c : Int) : Int := qy zp 8 (anl r (IntKind.u32.wrap c))
def yg (l : List Int) : Int := ago (l.foldl acv (ago 0))
theorem alg {t : TypeId} {rx ry : Operand} {x y : Int} {w : World} {K : KV} : fe P .xor t rx ry (.int .u32 x) (.int .u32 y) w K = K (.int .u32 (anl x y)) w := aqo
theorem akt {t : TypeId} {rx ry : Operand} {x y : Int} {w : World} {K : KV} : fe P .and t rx ry (.int .u32 x) (.int .u32 y) w K = K (.int .u32 (ayx x y)) w := akd
theorem ayq {t : TypeId} {rx ry : Operand} {x y : Int} {w : World} {K : KV} : fe P .or t rx ry (.int .u32 x) (.int .u32 y) w K = K (.int .u32 (orE x y)) w := auh
theorem awn {t : TypeId} {rx ry : Operand} {x y : Int} {w : World} {K : KV} : fe P .or t rx ry (.int .u64 x) (.int .u64 y) w K = K (.int .u64 (orL x y)) w := auh
theorem anf {x : Int} {w : World} {K : KV} : unT P .xor (.int .u32 x) w K = K (.int .u32 (ago x)) w := axl
def StI (w : World) (r : Int) (n : Nat) : KL := fun x w1 => ∃ (i : Nat), x = [.int .u32 (qy zp i r), .int .i64 (i : Nat)] ∧ w1 = w ∧ i ≤ n
theorem azj {w : World} {r : Int} {n : Nat} (hn : n ≤ 1000000) {K : KV} (h : K (.int .u32 (qy zp n r)) w) : fg P F.eh [.int .u32 r, .int .i64 (n : Nat)] w K := by
 rw [M.ea.fcall]
 apply M.ea.calls
 unfold M.ea
 rw [fj]
 refine ⟨StI w r n, fun x _ => n - ms x 1, ⟨0, rfl, rfl, Nat.zero_le _⟩, ?_⟩
 rintro x w1 ⟨i, rfl, rfl, hi⟩
 have q0 : gv [.int .u32 (qy zp i r), .int .i64 (i : Nat)] 0 = .int .u32 (qy zp i r) := rfl
 have q1 : gv [.int .u32 (qy zp i r), .int .i64 (i : Nat)] 1 = .int .i64 (i : Nat) := rfl
 simp only [q0, q1, fj]
 by_cases hil : i < n
 ·have hil' : (i : Int) < n := by omega
  have hwi : IntKind.i64.wrap ((i : Int) + 1) = ((i + 1 : Nat) : Int) := by rw [fm (by omega) (by omega)]; rfl
  simp [hil']
  unfold M.ea.j2
  simp only [q0, q1, fj]
  rw [acs (by omega), akt, awx, akt, alg, iz, hwi]
  exact ⟨⟨i + 1, rfl, rfl, by omega⟩, by simp [ms, gv]; omega⟩
 ·have hil' : ¬ (i : Int) < n := by omega
  have he : i = n := by omega
  subst he
  simp
  exact h
def MoI (w : World) (l : List Int) (s : Int) : KL := fun x w1 => ∃ (u : Value) (i : Nat), x = [u, .int .u32 ((l.take i).foldl acv (ago s)), .int .i64 (i : Nat)] ∧ w1 = w ∧ i ≤ l.length
theorem awb {w : World} {v : Value} {l : List Int} (hs : SlB w v l) (hl : l.length ≤ 1000000000) {K : KV} (h : K (.int .u32 (yg l)) w) : fg P F.ej [v] w K := by
 rw [M.ek.fcall]
 apply M.ek.calls
 unfold M.ek
 rw [M.ee.fcall]
 apply M.ee.calls
 unfold M.ee
 rw [anf, fj, hs.ij (by kernel_rfl)]
 refine ⟨MoI w l 0, fun x _ => l.length - ms x 2, ⟨_, 0, rfl, rfl, Nat.zero_le _⟩, ?_⟩
 rintro x w1 ⟨u, i, rfl, rfl, hi⟩
 generalize hf : (l.take i).foldl acv (ago 0) = f
 have q0 : gv [u, .int .u32 f, .int .i64 (i : Nat)] 0 = u := rfl
 have q1 : gv [u, .int .u32 f, .int .i64 (i : Nat)] 1 = .int .u32 f := rfl
 have q2 : gv [u, .int .u32 f, .int .i64 (i : Nat)] 2 = .int .i64 (i : Nat) := rfl
 simp only [q2, fj]
 by_cases hil : i < l.length
 ·have hil' : (i : Int) < l.length := by omega
  have hwi : IntKind.i64.wrap ((i : Int) + 1) = ((i + 1 : Nat) : Int) := by rw [fm (by omega) (by omega)]; rfl
  obtain ⟨b, o, cap, hv, _, _, hc⟩ := hs.at hil
  have c0 := hc 0 _ rfl
  simp only [Nat.mul_one, Nat.add_zero] at c0
  have htk : (l.take (i + 1)).foldl acv (ago 0) = acv f l[i] := by
   rw [List.take_succ_eq_append_getElem hil, List.foldl_append, hf]; rfl
  generalize l[i] = c at *
  simp [hil']
  unfold M.ee.j2
  simp only [q1, q2, fj]
  rw [hv]
  simp [hil, c0]
  rw [kr (ks := .u8) (kd := .u32) (by kernel_rfl) (by kernel_rfl), alg]
  refine azj (n := 8) (by omega) ?_
  rw [hwi]
  exact ⟨⟨.int .u8 c, i + 1, by rw [htk]; rfl, rfl, by omega⟩, by simp [ms, gv]; omega⟩
 ·have hil' : ¬ (i : Int) < l.length := by omega
  simp [hil']
  rw [List.take_of_length_le (by omega)] at hf
  have q4 : gv [v, .int .i64 (l.length : Nat), .int .i64 (i : Nat), u, .int .u32 f] 4 = .int .u32 f := rfl
  try simp only [q0, q1, q4]
  rw [anf, ← hf]
  exact h
def b8 (x : Int) : Int := IntKind.u8.wrap x
def s8 (x : Int) : Int := x.fdiv (2 ^ min (8 : Int).toNat IntKind.u32.bits)
def tc (n : Int) : List Int := (List.range 4).map fun i => b8 (qy s8 i n)
section
variable {w0 w : World} {R : List Asn} {v : Value} {l : List Int}
theorem ayf (S : St w0 w R) (x : Int) : St w0 (w.alloc (.cells #[.int .u8 x] T.ap)) (jh (.slice (some ⟨w.heap.size, 0, none⟩) 1 1) [x] :: R) := St.abx (l := [x]) S ip rfl (by unfold maxLen; simp)
def P3I (w0 : World) (l : List Int) (n : Int) (R : List Asn) : KL := fun x w1 => ∃ (v : Value) (i : Nat), x = [v, .int .u32 (qy s8 i n), .int .i64 (i : Nat)] ∧ i ≤ 4 ∧ St w0 w1 (jh v (l ++ (tc n).take i) :: R)
theorem pt (n : Int) : (tc n).length = 4 := by simp [tc]
theorem ari (n : Int) {i : Nat} (hi : i < 4) : (tc n).take (i + 1) = (tc n).take i ++ [b8 (qy s8 i n)] := by
 rw [List.take_succ_eq_append_getElem (by rw [pt]; exact hi)]
 simp [tc]
theorem amv (S : St w0 w (jh v l :: R)) (hl : l.length ≤ 100000000) (n : Int) {K : KV} (h : ∀ w' v', St w0 w' (jh v' (l ++ tc n) :: R) → K v' w') : fg P F.dy [v, .int .u32 n] w K := by
 rw [M.dz.fcall]
 apply M.dz.calls
 unfold M.dz
 rw [fj]
 refine ⟨P3I w0 l n R, fun x _ => 4 - ms x 2, ⟨v, 0, rfl, by omega, by simpa using S⟩, ?_⟩
 rintro x w1 ⟨v, i, rfl, hi, S⟩
 have q0 : gv [v, .int .u32 (qy s8 i n), .int .i64 (i : Nat)] 0 = v := rfl
 have q1 : gv [v, .int .u32 (qy s8 i n), .int .i64 (i : Nat)] 1 = .int .u32 (qy s8 i n) := rfl
 have q2 : gv [v, .int .u32 (qy s8 i n), .int .i64 (i : Nat)] 2 = .int .i64 (i : Nat) := rfl
 simp only [q2, fj]
 by_cases hil : i < 4
 ·have hil' : (i : Int) < 4 := by omega
  have hwi : IntKind.i64.wrap ((i : Int) + 1) = ((i + 1 : Nat) : Int) := by rw [fm (by omega) (by omega)]; rfl
  simp [hil']
  unfold M.dz.j2
  simp only [q0, q1, q2, fj]
  rw [kr (ks := .u32) (kd := .u8) (by kernel_rfl) (by kernel_rfl)]
  simp
  have S1 := ayf S (b8 (qy s8 i n))
  refine Go.Eng.wg et.d ip vx S1.swap (l2 := [b8 (qy s8 i n)]) (S1.row ip) (by simp [pt]; omega) (by decide) fun w2 v2 S2 => ?_
  rw [acs (by omega), hwi]
  refine ⟨⟨v2, i + 1, rfl, by omega, ?_⟩, by simp [ms, gv]; omega⟩
  rw [ari n hil, ← List.append_assoc]
  exact S2.swap.drop
 ·have hil' : ¬ (i : Int) < 4 := by omega
  have he : i = 4 := by omega
  subst he
  simp
  rw [List.take_of_length_le (by rw [pt]; omega)] at S
  exact h w1 v S
def shE (c : Int) (i : Nat) : Int := IntKind.u32.wrap (IntKind.u32.wrap c * 2 ^ min (8 * i) IntKind.u32.bits)
def yr (l : List Int) : Nat → Int
 | 0 => 0
 | i + 1 => orE (yr l i) (shE (l.getD i 0) i)
def vh (l : List Int) : Int := yr l 4
def U3I (w : World) (l : List Int) : KL := fun x w1 => ∃ (u0 u1 : Value) (i : Nat), x = [u0, u1, .int .u32 (yr l i), .int .i64 (i : Nat)] ∧ w1 = w ∧ i ≤ 4
theorem atj (hs : SlB w v l) (hl : 4 ≤ l.length) {K : KV} (h : K (.int .u32 (vh l)) w) : fg P F.ek [v] w K := by
 rw [M.ei.fcall]
 apply M.ei.calls
 unfold M.ei
 obtain ⟨v', s', _, hsub⟩ := hs.sub (P := P) (t := T.d) (lo := none) (hi := some (.int .i64 (4 : Nat))) (i := 0) (j := 4) (by kernel_rfl) (by kernel_rfl) (.inl ⟨rfl, rfl⟩) (.inr ⟨_, rfl⟩) (Nat.zero_le _) hl
 have e4 : (List.take (4 - 0) (List.drop 0 l)) = l.take 4 := by simp
 rw [e4] at s'
 have hsub' : ∀ w1 K, slT P T.d v none (some (.int .i64 4)) none w1 K = K v' w1 := hsub
 have hl4 : (l.take 4).length = 4 := by simp; omega
 rw [fj, hsub', s'.ij (by kernel_rfl), hl4]
 refine ⟨U3I w l, fun x _ => 4 - ms x 3, ⟨_, _, 0, rfl, rfl, by omega⟩, ?_⟩
 rintro x w1 ⟨u0, u1, i, rfl, rfl, hi⟩
 have q2 : gv [u0, u1, .int .u32 (yr l i), .int .i64 (i : Nat)] 2 = .int .u32 (yr l i) := rfl
 have q3 : gv [u0, u1, .int .u32 (yr l i), .int .i64 (i : Nat)] 3 = .int .i64 (i : Nat) := rfl
 have q0 : gv [u0, u1, .int .u32 (yr l i), .int .i64 (i : Nat)] 0 = u0 := rfl
 have q1 : gv [u0, u1, .int .u32 (yr l i), .int .i64 (i : Nat)] 1 = u1 := rfl
 simp only [q3, fj]
 by_cases hil : i < 4
 ·have hil' : (i : Int) < ((4 : Nat) : Int) := by omega
  have hwi : IntKind.i64.wrap ((i : Int) + 1) = ((i + 1 : Nat) : Int) := by rw [fm (by omega) (by omega)]; rfl
  have hw8 : IntKind.i64.wrap (8 * (i : Int)) = ((8 * i : Nat) : Int) := by rw [fm (by omega) (by omega)]; omega
  have hwu : IntKind.u64.wrap (8 * (i : Int)) = 8 * (i : Int) := xi (by omega) (by omega)
  have ht8 : (8 * (i : Int)).toNat = 8 * i := by omega
  obtain ⟨b, o, cap, hv, _, _, hc⟩ := s'.at (i := i) (by omega)
  have c0 := hc 0 _ rfl
  simp only [Nat.mul_one, Nat.add_zero] at c0
  have hgd : l.getD i 0 = (l.take 4)[i]'(by omega) := by
   rw [List.getD_eq_getElem?_getD, List.getElem?_eq_getElem (by omega), List.getElem_take]; rfl
  rw [← hgd] at c0
  rw [hl4] at hv
  have e : yr l (i + 1) = orE (yr l i) (shE (l.getD i 0) i) := rfl
  generalize l.getD i 0 = c at *
  rw [kc, decide_eq_true hil', Eng.cond_true]
  unfold M.ei.j2
  simp only [q0, q1, q2, q3, fj, so, hw8]
  rw [hv]
  rw [asb (by kernel_rfl) (by omega) (by omega)]
  have hz : szE P T.d = 1 := by kernel_rfl
  rw [hz]
  simp [c0]
  rw [kr (ks := .u8) (kd := .u32) (by kernel_rfl) (by kernel_rfl), kr (ks := .i64) (kd := .u64) (by kernel_rfl) (by kernel_rfl), hwu, acb (by omega), ht8, ayq, hwi]
  exact ⟨⟨_, _, i + 1, by rw [e]; rfl, rfl, by omega⟩, by simp [ms, gv]; omega⟩
 ·have hil' : ¬ (i : Int) < 4 := by omega
  have he : i = 4 := by omega
  subst he
  simp
  exact h
def ke (n : Int) : List Int := (List.range 8).map fun k => b8 (n.fdiv (2 ^ min (56 - 8 * k) IntKind.u64.bits))
theorem pf (n : Int) : (ke n).length = 8 := by simp [ke]
theorem arr (n : Int) {k : Nat} (hk : k < 8) : (ke n).take (k + 1) = (ke n).take k ++ [b8 (n.fdiv (2 ^ min (56 - 8 * k) IntKind.u64.bits))] := by
 rw [List.take_succ_eq_append_getElem (by rw [pf]; exact hk)]
 simp [ke]
def P6I (w0 : World) (l : List Int) (n : Int) (R : List Asn) : KL := fun x w1 => ∃ (v : Value) (k : Nat), x = [v, .int .i64 (56 - 8 * (k : Int))] ∧ k ≤ 8 ∧ St w0 w1 (jh v (l ++ (ke n).take k) :: R)
def bcg (x : List Value) : Nat := match gv x 1 with
 | .int _ k => (k + 8).toNat
 | _ => 0
theorem ami (S : St w0 w (jh v l :: R)) (hl : l.length ≤ 100000000) (n : Int) {K : KV} (h : ∀ w' v', St w0 w' (jh v' (l ++ ke n) :: R) → K v' w') : fg P F.dw [v, .int .u64 n] w K := by
 rw [M.dw.fcall]
 apply M.dw.calls
 unfold M.dw
 rw [fj]
 refine ⟨P6I w0 l n R, fun x _ => bcg x, ⟨v, 0, rfl, by omega, by simpa using S⟩, ?_⟩
 rintro x w1 ⟨v, k, rfl, hk, S⟩
 have q0 : gv [v, .int .i64 (56 - 8 * (k : Int))] 0 = v := rfl
 have q1 : gv [v, .int .i64 (56 - 8 * (k : Int))] 1 = .int .i64 (56 - 8 * (k : Int)) := rfl
 simp only [q1, fj]
 by_cases hil : k < 8
 ·have hil' : (0 : Int) ≤ 56 - 8 * (k : Int) := by omega
  have hwu : IntKind.u64.wrap (56 - 8 * (k : Int)) = 56 - 8 * (k : Int) := xi (by omega) (by omega)
  have hwi : IntKind.i64.wrap (56 - 8 * (k : Int) - 8) = 56 - 8 * ((k + 1 : Nat) : Int) := by rw [fm (by omega) (by omega)]; omega
  have htn : (56 - 8 * (k : Int)).toNat = 56 - 8 * k := by omega
  rw [ki, decide_eq_true hil']
  simp only [fi]
  unfold M.dw.j2
  simp only [q0, q1, fj]
  rw [kr (ks := .i64) (kd := .u64) (by kernel_rfl) (by kernel_rfl), hwu, acs hil', htn, kr (ks := .u64) (kd := .u8) (by kernel_rfl) (by kernel_rfl)]
  simp
  have S1 := ayf S (b8 (n.fdiv (2 ^ min (56 - 8 * k) IntKind.u64.bits)))
  refine Go.Eng.wg et.d ip vx S1.swap (l2 := [b8 (n.fdiv (2 ^ min (56 - 8 * k) IntKind.u64.bits))]) (S1.row ip) (by simp [pf]; omega) (by decide) fun w2 v2 S2 => ?_
  rw [hwi]
  refine ⟨⟨v2, k + 1, rfl, by omega, ?_⟩, by simp [bcg, gv]; omega⟩
  rw [arr n hil, ← List.append_assoc]
  exact S2.swap.drop
 ·have hil' : ¬ (0 : Int) ≤ 56 - 8 * (k : Int) := by omega
  rw [ki, decide_eq_false hil']
  simp only [fi]
  rw [List.take_of_length_le (by rw [pf]; omega)] at S
  exact h w1 v S
def yo (l : List Int) : Nat → Int
 | 0 => 0
 | i + 1 => orL (IntKind.u64.wrap (yo l i * 2 ^ min (8 : Int).toNat IntKind.u64.bits)) (IntKind.u64.wrap (l.getD i 0))
def lw (l : List Int) : Int := yo l 8
def U6I (w : World) (l : List Int) : KL := fun x w1 => ∃ (u0 : Value) (i : Nat), x = [u0, .int .u64 (yo l i), .int .i64 (i : Nat)] ∧ w1 = w ∧ i ≤ 8
theorem aum (hs : SlB w v l) (hl : 8 ≤ l.length) {K : KV} (h : K (.int .u64 (lw l)) w) : fg P F.ei [v] w K := by
 rw [M.eh.fcall]
 apply M.eh.calls
 unfold M.eh
 obtain ⟨v', s', _, hsub⟩ := hs.sub (P := P) (t := T.d) (lo := none) (hi := some (.int .i64 (8 : Nat))) (i := 0) (j := 8) (by kernel_rfl) (by kernel_rfl) (.inl ⟨rfl, rfl⟩) (.inr ⟨_, rfl⟩) (Nat.zero_le _) hl
 have e4 : (List.take (8 - 0) (List.drop 0 l)) = l.take 8 := by simp
 rw [e4] at s'
 have hsub' : ∀ w1 K, slT P T.d v none (some (.int .i64 8)) none w1 K = K v' w1 := hsub
 have hl4 : (l.take 8).length = 8 := by simp; omega
 rw [fj, hsub', s'.ij (by kernel_rfl), hl4]
 refine ⟨U6I w l, fun x _ => 8 - ms x 2, ⟨_, 0, rfl, rfl, by omega⟩, ?_⟩
 rintro x w1 ⟨u0, i, rfl, rfl, hi⟩
 have q1 : gv [u0, .int .u64 (yo l i), .int .i64 (i : Nat)] 1 = .int .u64 (yo l i) := rfl
 have q2 : gv [u0, .int .u64 (yo l i), .int .i64 (i : Nat)] 2 = .int .i64 (i : Nat) := rfl
 have q0 : gv [u0, .int .u64 (yo l i), .int .i64 (i : Nat)] 0 = u0 := rfl
 simp only [q2, fj]
 by_cases hil : i < 8
 ·have hil' : (i : Int) < ((8 : Nat) : Int) := by omega
  have hwi : IntKind.i64.wrap ((i : Int) + 1) = ((i + 1 : Nat) : Int) := by rw [fm (by omega) (by omega)]; rfl
  obtain ⟨b, o, cap, hv, _, _, hc⟩ := s'.at (i := i) (by omega)
  have c0 := hc 0 _ rfl
  simp only [Nat.mul_one, Nat.add_zero] at c0
  have hgd : l.getD i 0 = (l.take 8)[i]'(by omega) := by
   rw [List.getD_eq_getElem?_getD, List.getElem?_eq_getElem (by omega), List.getElem_take]; rfl
  rw [← hgd] at c0
  rw [hl4] at hv
  have e : yo l (i + 1) = orL (IntKind.u64.wrap (yo l i * 2 ^ min (8 : Int).toNat IntKind.u64.bits)) (IntKind.u64.wrap (l.getD i 0)) := rfl
  generalize l.getD i 0 = c at *
  rw [kc, decide_eq_true hil', Eng.cond_true]
  unfold M.eh.j2
  simp only [q0, q1, q2, fj]
  rw [hv]
  rw [asb (by kernel_rfl) (by omega) (by omega)]
  have hz : szE P T.d = 1 := by kernel_rfl
  rw [hz]
  simp [c0]
  rw [acb (by omega), kr (ks := .u8) (kd := .u64) (by kernel_rfl) (by kernel_rfl), awn, hwi]
  exact ⟨⟨_, i + 1, by rw [e], rfl, by omega⟩, by simp [ms, gv]; omega⟩
 ·have hil' : ¬ (i : Int) < 8 := by omega
  have he : i = 8 := by omega
  subst he
  simp
  exact h
theorem alv {n : Nat} (h : n < 4294967296) : IntKind.u32.wrap (n : Int) = n := by
 show (if (false && decide ((n : Int) % 4294967296 ≥ 2147483648)) = true then (n : Int) % 4294967296 - 4294967296 else (n : Int) % 4294967296) = n
 simp; omega
theorem auo {n : Nat} (h : n < 4294967296) : (BitVec.ofInt IntKind.u32.bits (n : Int)).toNat = n := by
 show (BitVec.ofInt 32 (n : Int)).toNat = n
 rw [BitVec.toNat_ofInt]; omega
theorem afw {a c i : Nat} (ha : a < 2 ^ i) (hc : 2 ^ i * c + a < 4294967296) : orE (a : Int) ((2 ^ i * c : Nat) : Int) = ((2 ^ i * c + a : Nat) : Int) := by
 unfold orE
 rw [BitVec.toNat_or, auo (by omega), auo (by omega), Nat.or_comm, ← Nat.two_pow_add_eq_or_of_lt ha, alv hc]
theorem baf {a c : Nat} (ha : a < 256) (hc : 256 * c + a < 18446744073709551616) : orL ((256 * c : Nat) : Int) (a : Int) = ((256 * c + a : Nat) : Int) := by
 have := Nat.two_pow_add_eq_or_of_lt (i := 8) (b := a) ha c
 unfold orL
 rw [BitVec.toNat_or]
 have h1 : (BitVec.ofInt IntKind.u64.bits ((256 * c : Nat) : Int)).toNat = 256 * c := aii (by omega)
 have h2 : (BitVec.ofInt IntKind.u64.bits (a : Int)).toNat = a := aii (by omega)
 rw [h1, h2, ← this, wo hc]
theorem aeh {n : Nat} : b8 (n : Int) = ((n % 256 : Nat) : Int) := by
 unfold b8
 show (if (false && decide ((n : Int) % 256 ≥ 128)) = true then (n : Int) % 256 - 256 else (n : Int) % 256) = _
 simp
theorem amh {n : Nat} : s8 (n : Int) = ((n / 256 : Nat) : Int) := aji n 8
theorem aet {n : Nat} (hn : n < 4294967296) (r : List Int) : vh (tc (n : Int) ++ r) = n := by
 have e : tc (n : Int) = [((n % 256 : Nat) : Int), ((n / 256 % 256 : Nat) : Int), ((n / 256 / 256 % 256 : Nat) : Int), ((n / 256 / 256 / 256 % 256 : Nat) : Int)] := by
  show [b8 (n : Int), b8 (s8 n), b8 (s8 (s8 n)), b8 (s8 (s8 (s8 n)))] = _
  rw [amh, amh, amh, aeh, aeh, aeh, aeh]
 rw [e]
 generalize h0 : n % 256 = c0
 generalize h1 : n / 256 % 256 = c1
 generalize h2 : n / 256 / 256 % 256 = c2
 generalize h3 : n / 256 / 256 / 256 % 256 = c3
 have sh : ∀ (c i : Nat), c < 256 → i < 4 → 2 ^ (8 * i) * c < 4294967296 → shE (c : Int) i = ((2 ^ (8 * i) * c : Nat) : Int) := fun c i hc hi hb => by
  unfold shE
  rw [alv (by omega)]
  have hm : min (8 * i) IntKind.u32.bits = 8 * i := Nat.min_eq_left (by show 8 * i ≤ 32; omega)
  rw [hm]
  have : (c : Int) * 2 ^ (8 * i) = ((2 ^ (8 * i) * c : Nat) : Int) := by rw [Int.mul_comm]; simp
  rw [this, alv hb]
 show orE (orE (orE (orE 0 (shE (c0 : Int) 0)) (shE (c1 : Int) 1)) (shE (c2 : Int) 2)) (shE (c3 : Int) 3) = n
 rw [sh c0 0 (by omega) (by omega) (by simp; omega), sh c1 1 (by omega) (by omega) (by simp; omega), sh c2 2 (by omega) (by omega) (by simp; omega), sh c3 3 (by omega) (by omega) (by simp; omega)]
 have z0 := afw (a := 0) (c := c0) (i := 0) (by simp) (by simp; omega)
 have z1 := afw (a := c0) (c := c1) (i := 8) (by simp; omega) (by simp; omega)
 have z2 := afw (a := 256 * c1 + c0) (c := c2) (i := 16) (by simp; omega) (by simp; omega)
 have z3 := afw (a := 65536 * c2 + (256 * c1 + c0)) (c := c3) (i := 24) (by simp; omega) (by simp; omega)
 simp only [Nat.mul_zero, Nat.pow_zero, Nat.one_mul, Nat.add_zero, Nat.mul_one] at z0 z1 z2 z3 ⊢
 rw [show ((0 : Int)) = ((0 : Nat) : Int) from rfl, z0, z1]
 rw [show 2 ^ 8 * c1 + c0 = 256 * c1 + c0 from rfl, show 8 * 2 = 16 from rfl, z2, show 2 ^ 16 * c2 + (256 * c1 + c0) = 65536 * c2 + (256 * c1 + c0) from rfl, show 8 * 3 = 24 from rfl, z3]
 congr 1
 show 16777216 * c3 + (65536 * c2 + (256 * c1 + c0)) = n
 omega
theorem ala {n : Nat} (hn : n < 18446744073709551616) (r : List Int) : lw (ke (n : Int) ++ r) = n := by
 have hb : ∀ k, k < 8 → (ke (n : Int) ++ r).getD k 0 = ((n / 2 ^ (56 - 8 * k) % 256 : Nat) : Int) := fun k hk => by
  rw [List.getD_eq_getElem?_getD, List.getElem?_append_left (by rw [pf]; exact hk)]
  unfold ke
  rw [List.getElem?_map, List.getElem?_range hk]
  show b8 ((n : Int).fdiv (2 ^ min (56 - 8 * k) IntKind.u64.bits)) = _
  have hm : min (56 - 8 * k) IntKind.u64.bits = 56 - 8 * k := Nat.min_eq_left (by show 56 - 8 * k ≤ 64; omega)
  rw [hm, aji, aeh]
 have key : ∀ i, i ≤ 8 → yo (ke (n : Int) ++ r) i = ((n / 2 ^ (64 - 8 * i) : Nat) : Int) := by
  intro i
  induction i with
  | zero => intro _; show (0 : Int) = _; simp; omega
  | succ i ih =>
   intro hi
   show orL (IntKind.u64.wrap (yo (ke (n : Int) ++ r) i * 2 ^ 8)) (IntKind.u64.wrap ((ke (n : Int) ++ r).getD i 0)) = _
   rw [ih (by omega), hb i (by omega)]
   have e1 : n / 2 ^ (64 - 8 * i) = n / 2 ^ (56 - 8 * i) / 256 := by
    rw [Nat.div_div_eq_div_mul]
    congr 1
    rw [show (256 : Nat) = 2 ^ 8 from rfl, ← Nat.pow_add]
    congr 1; omega
   have e2 : 64 - 8 * (i + 1) = 56 - 8 * i := by omega
   rw [e1, e2]
   have hlt : n / 2 ^ (56 - 8 * i) ≤ n := Nat.div_le_self _ _
   generalize n / 2 ^ (56 - 8 * i) = m at *
   have e3 : ((m / 256 : Nat) : Int) * 2 ^ 8 = ((256 * (m / 256) : Nat) : Int) := by rw [Int.mul_comm]; simp
   rw [e3, wo (by omega), wo (by omega), baf (by omega) (by omega)]
   congr 1; omega
 show yo _ 8 = _
 rw [key 8 (by omega)]; simp
theorem agf (z : Int) : ∃ n : Nat, IntKind.u32.wrap z = (n : Int) ∧ n < 4294967296 := by
 have : IntKind.u32.wrap z = z % 4294967296 := by
  show (if (false && decide (z % 4294967296 ≥ 2147483648)) = true then z % 4294967296 - 4294967296 else z % 4294967296) = _
  simp
 exact ⟨(z % 4294967296).toNat, by rw [this]; omega, by omega⟩
theorem amd (l : List Int) : ∃ n : Nat, yg l = (n : Int) ∧ n < 4294967296 := by
 unfold yg
 rw [ago, anl]
 exact agf _
end
end Go.Proofs.YtfnhoaemapheoaaGreat
set_option maxRecDepth 100000
namespace Go.Eng
section
variable {P : Program}
theorem axu {t : TypeId} (h : li P t = true) {a : Option Addr} {len cap : Nat} {k1 k2 k3 : IntKind} {i j m : Nat} (h0 : i ≤ j) (h1 : j ≤ m) (h2 : m ≤ cap) (w : World) (K : KV) :
  slT P t (.slice a len cap) (some (.int k1 (i : Int))) (some (.int k2 (j : Int))) (some (.int k3 (m : Int))) w K = K (.slice (if m = i then a else a.map (·.add (i * szE P t))) (j - i) (m - i)) w := by
 obtain ⟨hu, inf, hi, hs⟩ := uf h
 have h3 : i ≤ m := by omega
 simp [slT, ia, Instr.sliceAt, Instr.slice, Instr.sliceBounds, Instr.sliceBound, asIntOf, Sem.run_bind, ib hu, Result.andThen, Sem.run_pure, wj hi, hs, h0, h1, h2, h3]
theorem Sl.azu {α : Type} {enc : α → List Value} {sz : Nat} {w : World} {v : Value} {l : List α} {i j : Nat} (hs : Sl w sz enc v l) {t : TypeId} (h : li P t = true) (hz : szE P t = sz) {k1 k2 k3 : IntKind} (h0 : i ≤ j) (h1 : j ≤ l.length) :
  ∃ v', Sl w sz enc v' ((l.drop i).take (j - i)) ∧ (∀ b, v'.ownBlock = some b → v.ownBlock = some b) ∧ ∀ w1 K, slT P t v (some (.int k1 (i : Int))) (some (.int k2 (j : Int))) (some (.int k3 (j : Int))) w1 K = K v' w1 := by
 obtain ⟨a, cap, rfl, g1, g2, g3⟩ := hs
 refine ⟨_, ?_, ?_, fun w1 K => axu h h0 (Nat.le_refl _) (by omega) w1 K⟩
 ·have hlen : ((l.drop i).take (j - i)).length = j - i := by simp; omega
  refine ⟨_, _, by rw [hlen], by omega, by omega, fun k x hk => ?_⟩
  have hk' : k < j - i := by have := (List.getElem?_eq_some_iff.1 hk).1; omega
  rw [List.getElem?_take_of_lt hk', List.getElem?_drop] at hk
  obtain ⟨b, o, rfl, hb, hr⟩ := g3 (i + k) x hk
  rw [if_neg (by omega)]
  refine ⟨b, o + i * sz, by simp [Addr.add, hz], hb, ?_⟩
  rw [Nat.add_assoc, ← Nat.add_mul]; exact hr
 ·intro b hb
  cases a with
  | none => split at hb <;> simp [Value.ownBlock] at hb
  | some a =>
   have : ∀ k, (a.add k).block = a.block := fun k => by unfold Addr.add; split <;> rfl
   split at hb <;> simp_all [Value.ownBlock]
theorem aqw {t : TypeId} {v v1 v2 : Value} {lo hi mx : Option Value} (h1 : ∀ w1 K, slT P t v lo hi mx w1 K = K v1 w1) (h2 : ∀ w1 K, slT P t v lo hi mx w1 K = K v2 w1) (w : World) : v1 = v2 := by
 have h := (h1 w fun x _ => x = v1).symm.trans (h2 w fun x _ => x = v1)
 exact (h.mp rfl).symm
end
end Go.Eng
namespace Go.Proofs.YtfnhoaemapheoaaGreat
open Go.Eng Go.Proofs.YtfnhoaemapheoaaGreat.Sint
section
variable {w0 w : World} {R : List Asn} {v : Value} {l : List Int}
theorem yd (S : St w0 w R) (hs : SlB w v l) (hlen : l.length ≤ 100000000) {K : KV} (h : ∀ w' v', St w0 w' (jh v' l :: R) → K v' w') : fg P F.q [v] w K := by
 rw [M.ci.fcall]
 apply M.ci.calls
 unfold M.ci
 simp only [fj]
 have hs' := hs
 obtain ⟨a, cap, rfl, _⟩ := hs'
 cases a with
 | none =>
  simp
  have hz : l = [] := by
   obtain ⟨a', cap', hv, _, _, h3⟩ := hs
   cases l with
   | nil => rfl
   | cons x l =>
    obtain ⟨b, o, ha, _⟩ := h3 0 x rfl
    injection hv with h1 _ _
    rw [← h1] at ha; cases ha
  subst hz
  exact h w _ (Eng.qi S)
 | some a =>
  simp
  have S1 : St w0 (w.alloc (.cells #[] T.ap)) (jh (.slice (some ⟨w.heap.size, 0, none⟩) 0 0) [] :: R) := St.abx (l := ([] : List Int)) S ip rfl (by simp)
  refine Go.Eng.wg et.d ip vx S1 (hs.fr ((Fr.refl (fun _ => False) w).alloc _) fun _ _ _ h => h) (by simp; omega) (by decide) fun w2 v2 S2 => ?_
  exact h w2 v2 S2
theorem amm {v1 v2 : Value} {l1 l2 : List Int} (S : St w0 w R) (s1 : SlB w v1 l1) (s2 : SlB w v2 l2) (hl : l1.length + l2.length ≤ 100000000) {K : KV} (h : ∀ w' v', St w0 w' (jh v' (l1 ++ l2) :: R) → K v' w') :
  bsT P T.j 2 #[(0, v1), (1, v2)] w fun t w => fg P F.l [t] w K := by
 obtain ⟨a1, k1, hv1, _⟩ := id s1
 obtain ⟨a2, k2, hv2, _⟩ := id s2
 have hbs : ∀ K', bsT P T.j 2 #[(0, v1), (1, v2)] w K' = K' (.slice (some ⟨w.heap.size, 0, none⟩) 2 2) (w.alloc (.cells #[v1, v2] T.d)) := fun K' => by rw [hv1, hv2]; simp
 rw [hbs]
 have f1 : Fr (fun _ => False) w (w.alloc (.cells #[v1, v2] T.d)) := (Fr.refl _ w).alloc _
 have hn : (w.alloc (.cells #[v1, v2] T.d)).heap[w.heap.size]? = some (.cells (([(v1, l1), (v2, l2)] : List (Value × List Int)).map (·.1)).toArray T.d (0, 0)) := by
  rw [gc, if_pos rfl]; rfl
 rw [M.u.fcall]
 refine CB.yh (L := [(v1, l1), (v2, l2)]) hn (fun p hp => ?_) (by simp [CB.tot]; omega) (by simp) fun w' v o f2 => ?_
 ·simp at hp
  rcases hp with rfl | rfl
  ·exact s1.fr f1 fun _ _ _ h => h
  ·exact s2.fr f1 fun _ _ _ h => h
 ·have hs : w.heap.size ≤ (w.alloc (.cells #[v1, v2] T.d)).heap.size := f1.size
  refine h w' v (S.add (a := jh v (l1 ++ l2)) (f1.trans f2) (B := fun b => v.ownBlock = some b) ⟨?_, fun b hb => hb⟩ fun b hb => ?_)
  ·simpa using o.mono (Nat.zero_le _)
  ·have := o.lt hb
   exact ⟨by omega, this.2⟩
def sx (d : List Int) : List Int := tc (d.length : Int) ++ d
def gx (d : List Int) : List Int := sx d ++ tc (yg (sx d))
theorem lb (d : List Int) : (gx d).length = d.length + 8 := by unfold gx sx; simp [pt]; omega
theorem aqe {dv : Value} {d : List Int} {v0 : Value} {l0 : List Int} (S : St w0 w R) (h0 : ∀ w' L, St w0 w' (L ++ R) → SlB w' v0 l0) (hd : ∀ w' L, St w0 w' (L ++ R) → SlB w' dv d) (hl0 : l0.length ≤ 10000000) (hl : d.length ≤ 1000000000) {K : KV}
  (h : ∀ w' v', St w0 w' (jh v' (if 8192 < d.length then [] else l0 ++ gx d) :: R) → K (.tuple #[v', .int .i64 (if 8192 < d.length then 4 else 0)]) w') : fg P F.dx [v0, dv] w K := by
 rw [M.dx.fcall]
 apply M.dx.calls
 unfold M.dx
 rw [fj, (hd w [] S).ij (by kernel_rfl)]
 by_cases hbig : 8192 < d.length
 ·have hbig' : (8192 : Int) < d.length := by omega
  rw [if_pos hbig] at h
  simp only [if_pos hbig] at h
  simp [hbig']
  exact h w _ (Eng.qi S)
 ·have hbig' : ¬ (8192 : Int) < d.length := by omega
  rw [if_neg hbig] at h
  simp only [if_neg hbig] at h
  simp [hbig']
  unfold M.dx.j0
  rw [(hd w [] S).ij (by kernel_rfl), kr (ks := .i64) (kd := .u32) (by kernel_rfl) (by kernel_rfl), alv (by omega)]
  refine amv (Eng.qi S) (by simp) _ fun w1 v1 S1 => ?_
  rw [List.nil_append] at S1
  refine Go.Eng.wg et.d ip vx S1 (hd w1 [_] S1) (by simp [pt]; omega) (by decide) fun w2 v2 S2 => ?_
  have S2' : St w0 w2 (jh v2 (sx d) :: R) := S2
  have hbl : (sx d).length = d.length + 4 := by unfold sx; simp [pt]; omega
  refine awb (S2'.row ip) (by omega) ?_
  refine amv S2' (by omega) _ fun w3 v3 S3 => ?_
  have S3' : St w0 w3 (jh v3 (gx d) :: R) := S3
  have hfl := lb d
  refine amm S3' (h0 w3 [_] S3') (S3'.row ip) (by omega) fun w4 v4 S4 => ?_
  exact h w4 v4 S4.swap.drop
def vy (l : List Int) : Option (List Int) × Int :=
 if l.length < 4 then (none, 3) else if 8192 < vh l then (none, 2) else if (l.length : Int) - 4 < 4 + vh l then (none, 3)
 else if yg (l.take (4 + (vh l).toNat)) ≠ vh (l.drop (4 + (vh l).toNat)) then (none, 2) else (some ((l.drop 4).take (vh l).toNat), 0)
theorem aik (l : List Int) : ∃ n : Nat, vh l = (n : Int) ∧ n < 4294967296 := by
 show ∃ n : Nat, yr l 4 = _ ∧ _
 rw [yr, orE]
 exact agf _
theorem bak (S : St w0 w R) (hs : ∀ w' L, St w0 w' (L ++ R) → SlB w' v l) (hl : l.length ≤ 10000000) {K : KV}
  (h : ∀ w' dv rv, St w0 w' (jh dv ((vy l).1.getD []) :: R) → K (.tuple #[dv, rv, .int .i64 (vy l).2]) w') : fg P F.eg [v] w K := by
 rw [M.dy.fcall]
 apply M.dy.calls
 unfold M.dy
 have s0 := hs w [] S
 have hlen : ∀ w' K', biT P .len #[T.d] T.a [false] [v] w' K' = K' (.int .i64 l.length) w' := fun w' K' => s0.ij (by kernel_rfl) [false]
 rw [fj, hlen]
 unfold vy at h
 by_cases c1 : l.length < 4
 ·have c1' : (l.length : Int) < 4 := by omega
  simp only [if_pos c1] at h
  simp [c1']
  exact h w _ _ (Eng.qi S)
 ·have c1' : ¬ (l.length : Int) < 4 := by omega
  simp only [if_neg c1] at h
  simp [c1']
  unfold M.dy.j0
  refine atj s0 (by omega) ?_
  obtain ⟨n, hn, hn2⟩ := aik l
  rw [hn] at h ⊢
  have hw1 : IntKind.i64.wrap (n : Int) = n := ait (by omega)
  have hw2 : IntKind.i64.wrap (4 + (n : Int)) = ((4 + n : Nat) : Int) := by rw [fm (by omega) (by omega)]; omega
  rw [kr (ks := .u32) (kd := .i64) (by kernel_rfl) (by kernel_rfl), hw1, iz, hw2, nv]
  by_cases c2 : (8192 : Int) < n
  ·simp only [if_pos c2] at h
   rw [decide_eq_true c2, Eng.cond_true]
   exact h w _ _ (Eng.qi S)
  ·simp only [if_neg c2] at h
   rw [decide_eq_false c2, Eng.cond_false, hlen, je, fm (by omega) (by omega), kc]
   by_cases c3 : (l.length : Int) - 4 < 4 + (n : Int)
   ·simp only [if_pos c3] at h
    rw [decide_eq_true (by omega), Eng.cond_true]
    exact h w _ _ (Eng.qi S)
   ·simp only [if_neg c3] at h
    rw [decide_eq_false (by omega), Eng.cond_false]
    rw [Int.toNat_natCast] at h
    obtain ⟨va, sa, pa, ra⟩ := s0.sub (P := P) (t := T.d) (lo := none) (hi := some (.int .i64 ((4 + n : Nat) : Int))) (i := 0) (j := 4 + n) (by kernel_rfl) (by kernel_rfl) (.inl ⟨rfl, rfl⟩) (.inr ⟨_, rfl⟩) (Nat.zero_le _) (by omega)
    obtain ⟨vb, sb, pb, rb⟩ := s0.sub (P := P) (t := T.d) (lo := some (.int .i64 ((4 + n : Nat) : Int))) (hi := none) (i := 4 + n) (j := l.length) (by kernel_rfl) (by kernel_rfl) (.inr ⟨_, rfl⟩) (.inl ⟨rfl, rfl⟩) (by omega) (Nat.le_refl _)
    have ea : List.take (4 + n - 0) (List.drop 0 l) = l.take (4 + n) := by simp
    have eb : List.take (l.length - (4 + n)) (List.drop (4 + n) l) = l.drop (4 + n) := List.take_of_length_le (by simp)
    rw [ea] at sa
    rw [eb] at sb
    have fd : Fr (fun _ => False) w (Eng.dr w 1) := (Fr.refl _ w).dr 1
    simp only [og, mq, ra, rb, vw, true_and, and_true]
    have Sd := S.iq fd
    have hlt : (l.take (4 + n)).length = 4 + n := by simp; omega
    have hld : (l.drop (4 + n)).length = l.length - (4 + n) := by simp
    refine awb (sa.fr fd fun _ _ _ h => h) (by omega) ?_
    refine atj (sb.fr fd fun _ _ _ h => h) (by omega) ?_
    rw [ajq]
    by_cases c4 : yg (l.take (4 + n)) = vh (l.drop (4 + n))
    ·simp only [if_neg (show ¬ yg (l.take (4 + n)) ≠ vh (l.drop (4 + n)) from fun h => h c4)] at h
     refine ⟨rfl, ?_⟩
     rw [decide_eq_false (fun h => h c4), Eng.cond_false]
     obtain ⟨vc, sc, pc, rc⟩ := Eng.Sl.azu (P := P) (t := T.d) (k1 := .i64) (k2 := .i64) (k3 := .i64) (i := 4) (j := 4 + n) s0 (by kernel_rfl) (by kernel_rfl) (by omega) (by omega)
     have rc' : ∀ w1 K, slT P T.d v (some (.int .i64 4)) (some (.int .i64 ((4 + n : Nat) : Int))) (some (.int .i64 ((4 + n : Nat) : Int))) w1 K = K vc w1 := rc
     have ec : List.take (4 + n - 4) (List.drop 4 l) = (l.drop 4).take n := by congr 1; omega
     rw [ec] at sc
     have hw3 : IntKind.i64.wrap (((4 + n : Nat) : Int) + 4) = ((8 + n : Nat) : Int) := by rw [fm (by omega) (by omega)]; omega
     obtain ⟨ve, se, pe, re⟩ := s0.sub (P := P) (t := T.d) (lo := some (.int .i64 ((8 + n : Nat) : Int))) (hi := none) (i := 8 + n) (j := l.length) (by kernel_rfl) (by kernel_rfl) (.inr ⟨_, rfl⟩) (.inl ⟨rfl, rfl⟩) (by omega) (Nat.le_refl _)
     have fd2 : Fr (fun _ => False) w (Eng.dr (Eng.dr w 1) 1) := fd.dr 1
     simp only [rc', iz, hw3, re, vw, true_and, and_true]
     have S2 := Sd.iq ((Fr.refl (fun _ => False) (Eng.dr w 1)).dr 1)
     refine yd S2 (sc.fr fd2 fun _ _ _ h => h) (by simp; omega) fun w2 dv S3 => ?_
     obtain ⟨vf, sf, _, rf⟩ := (hs w2 [_] S3).sub (P := P) (t := T.d) (lo := some (.int .i64 ((8 + n : Nat) : Int))) (hi := none) (i := 8 + n) (j := l.length) (by kernel_rfl) (by kernel_rfl) (.inr ⟨_, rfl⟩) (.inl ⟨rfl, rfl⟩) (by omega) (Nat.le_refl _)
     have hvf : ve = vf := aqw re rf w2
     rw [← hvf] at sf
     refine yd S3 sf (by simp; omega) fun w3 rv S4 => ?_
     exact h w3 dv rv S4.drop
    ·simp only [if_pos c4] at h
     refine ⟨rfl, ?_⟩
     rw [decide_eq_true c4, Eng.cond_true]
     exact h _ _ _ (Eng.qi Sd)
end
set_option maxRecDepth 100000
open Go.Eng Go.Proofs.YtfnhoaemapheoaaGreat.Sint
structure SV where
 a : Option Addr
 n : Nat
 c : Nat
def SV.v (s : SV) : Value := .slice s.a s.n s.c
def mr (s : SV) : List Value := [s.v]
theorem qq (s : SV) : (mr s).length = 1 := rfl
theorem avc (s : SV) : ∀ u ∈ mr s, jn u = true := fun u hu => by simp [mr] at hu; subst hu; rfl
def me (vs : List SV) (ls : List (List Int)) : List Asn := List.zipWith (fun s l => jh s.v l) vs ls
def ath (v : Value) (vs : List SV) (ls : List (List Int)) : List Asn := [Eng.jf T.d 1 mr v vs, oe (me vs ls)]
def jj (v : Value) (ls : List (List Int)) : Asn where
 ok w B := ∃ vs, vs.length = ls.length ∧ Rs (ath v vs ls) w B
 jd := by
  rintro w w' B S ⟨vs, h1, h2⟩ hf hn
  exact ⟨vs, h1, h2.jd hf hn⟩
section
variable {w0 w : World} {R : List Asn} {v : Value} {ls : List (List Int)} {vs : List SV}
theorem aby (S : St w0 w (jj v ls :: R)) : ∃ vs, vs.length = ls.length ∧ St w0 w (Eng.jf T.d 1 mr v vs :: oe (me vs ls) :: R) := by
 obtain ⟨B, ⟨vs, h1, h2⟩, _, cl⟩ := S.open
 exact ⟨vs, h1, cl w (ath v vs ls) (Fr.refl _ _) (h2.mono fun b hb => .inl hb)⟩
theorem ahw (h : vs.length = ls.length) (S : St w0 w (Eng.jf T.d 1 mr v vs :: oe (me vs ls) :: R)) : St w0 w (jj v ls :: R) := by
 obtain ⟨U, h1, _, g⟩ := St.zj (L := ath v vs ls) (R := R) S
 exact g w [jj v ls] (Fr.refl _ _) ⟨U, ⟨vs, h, h1⟩, fun b hb => .inl hb, trivial⟩
theorem ajv (S : St w0 w R) : St w0 w (jj (.slice none 0 0) [] :: R) := ahw (vs := []) rfl (aqy (St.all.2 S))
theorem xq (S : St w0 w (jj v ls :: R)) (w' : World) (K : KV) : biT P .len #[T.j] T.a [false] [v] w' K = K (.int .i64 ls.length) w' := by
 obtain ⟨vs, h, S1⟩ := aby S
 rw [(S1.jf qq).ij (by kernel_rfl), h]
theorem auf (S : St w0 w (jj v ls :: R)) : ∃ a cap, v = .slice a ls.length cap := by
 obtain ⟨vs, h, S1⟩ := aby S
 obtain ⟨a, cap, hv, _⟩ := S1.jf qq
 exact ⟨a, cap, by rw [hv, h]⟩
theorem abw (S : St w0 w (jj v ls :: R)) {i : Nat} (hi : i < ls.length) : ∃ b o s, (∀ w' K, iaT P T.j v (.int .i64 (i : Nat)) w' K = K (.pointer (some ⟨b, o, none⟩)) w') ∧ (∀ {w1 : World} {R1 : List Asn}, St w0 w1 (jj v ls :: R1) → fo w b o = some (SV.v s)) ∧ fo w b o = some (SV.v s) ∧ SlB w (SV.v s) ls[i] := by
 obtain ⟨vs, h, S1⟩ := aby S
 have hi' : i < vs.length := by omega
 obtain ⟨b, o, cap, hv, _, _, hc⟩ := (S1.jf qq : Sl w 1 mr v vs).at hi'
 have c0 := hc 0 _ rfl
 simp only [Nat.mul_one, Nat.add_zero] at c0
 have S2 := St.aou (j := i) (L := me vs ls) (by simp [me]; omega) S1.swap
 unfold me at S2
 rw [List.getElem_zipWith] at S2
 exact ⟨b, o + i, vs[i], fun w' K => by rw [hv]; simp [hi'], fun _ => c0, c0, S2.row ip⟩
theorem abe {s : SV} {d : List Int} (S : St w0 w (jh s.v d :: jj v ls :: R)) (hl : ls.length ≤ 1000000) {cs : List Bool} {ty : TypeId} {K : KV} (h : ∀ w' v', St w0 w' (jj v' (ls ++ [d]) :: R) → K v' w') :
  bsT P T.j 1 #[(0, s.v)] w fun t w => biT P .append #[T.j, T.j] ty cs [v, t] w K := by
 have hbs : ∀ K', bsT P T.j 1 #[(0, s.v)] w K' = K' (.slice (some ⟨w.heap.size, 0, none⟩) 1 1) (w.alloc (.cells #[s.v] T.d)) := fun K' => by unfold SV.v; simp
 rw [hbs]
 obtain ⟨vs, h1, S1⟩ := aby S.swap
 have S2 : St w0 (w.alloc (.cells #[s.v] T.d)) (pd T.d 1 mr (.slice (some ⟨w.heap.size, 0, none⟩) 1 1) [s] :: Eng.jf T.d 1 mr v vs :: oe (me vs ls) :: jh s.v d :: R) := St.abx (l := [s]) S1 qq rfl (by unfold maxLen; simp)
 refine anv et.j qq avc S2.swap (S2.row qq) (by simp; omega) (by decide) fun w2 v2 S3 => ?_
 have S4 : St w0 w2 (Eng.jf T.d 1 mr v2 (vs ++ [s]) :: oe (me vs ls) :: jh s.v d :: R) := S3.swap.drop
 refine h w2 v2 (ahw (vs := vs ++ [s]) (by simp [h1]) ?_)
 have S5 := St.all.1 S4.swap
 have e : me (vs ++ [s]) (ls ++ [d]) = me vs ls ++ [jh s.v d] := by unfold me; rw [List.zipWith_append h1]; rfl
 have S6 : St w0 w2 (oe (me (vs ++ [s]) (ls ++ [d])) :: Eng.jf T.d 1 mr v2 (vs ++ [s]) :: R) := by
  refine St.all.2 ?_
  rw [e, List.append_assoc]
  refine S5.perm (List.Perm.append_left _ ?_)
  exact List.Perm.swap _ _ _
 exact S6.swap
theorem awc {d : List Int} (S : St w0 w (jj v (d :: ls) :: R)) {k : IntKind} : ∃ v', St w0 w (jj v' ls :: R) ∧ ∀ w1 K, slT P T.j v (some (.int k 1)) none none w1 K = K v' w1 := by
 obtain ⟨vs, h1, S1⟩ := aby S
 cases vs with
 | nil => simp at h1
 | cons s vs =>
  obtain ⟨v', S2, hv⟩ := S1.bck (P := P) (t := T.j) qq (by kernel_rfl) (by kernel_rfl) (i := 1) (by simp) (k := k)
  refine ⟨v', ahw (vs := vs) (by simpa using h1) ?_, hv⟩
  have S3 : St w0 w (Eng.jf T.d 1 mr v' vs :: oe (me (s :: vs) (d :: ls)) :: R) := S2
  have S4 := St.all.1 S3.swap
  have S5 : St w0 w (jh s.v d :: (me vs ls ++ Eng.jf T.d 1 mr v' vs :: R)) := S4
  exact (St.all.2 S5.drop).swap
end
def ww (l : List Int) : Nat → Nat → List (List Int) × Nat
 | 0, gp => ([], gp)
 | f + 1, gp => if gp < l.length then match (vy ((l.drop gp).take 8200)).1 with
   | none => ([], gp)
   | some d => (d :: (ww l f (gp + d.length + 8)).1, (ww l f (gp + d.length + 8)).2)
  else ([], gp)
def si (l : List Int) : List (List Int) × Nat := ww l (l.length + 1) 0
theorem avo (l : List Int) : ((vy l).2 = 0 ∧ ∃ d, (vy l).1 = some d ∧ d.length + 8 ≤ l.length) ∨ ((vy l).2 ≠ 0 ∧ (vy l).1 = none) := by
 unfold vy
 split
 ·exact .inr ⟨by simp, rfl⟩
 ·split
  ·exact .inr ⟨by simp, rfl⟩
  ·split
   ·exact .inr ⟨by simp, rfl⟩
   ·split
    ·exact .inr ⟨by simp, rfl⟩
    ·rename_i h1 h2 h3 h4
     refine .inl ⟨rfl, _, rfl, ?_⟩
     obtain ⟨n, hn, _⟩ := aik l
     rw [hn] at h2 h3 ⊢
     rw [Int.toNat_natCast, List.length_take, List.length_drop]
     omega
section
variable {w0 w : World} {R : List Asn} {v : Value} {l : List Int}
def AlI (w0 : World) (l : List Int) (R : List Asn) : KL := fun x w1 => ∃ (u0 u1 u2 u5 v : Value) (acc : List (List Int)) (gp f : Nat), x = [u0, u1, u2, v, .int .i64 (gp : Nat), u5] ∧ gp ≤ l.length ∧ l.length < f + gp ∧ 8 * acc.length ≤ gp ∧ si l = (acc ++ (ww l f gp).1, (ww l f gp).2) ∧ St w0 w1 (jj v acc :: R)
theorem bao (S : St w0 w R) (hs : ∀ w' L, St w0 w' (L ++ R) → SlB w' v l) (hl : l.length ≤ 5000000) {K : KV}
  (h : ∀ w' lv k, St w0 w' (jj lv (si l).1 :: R) → K (.tuple #[lv, .int .i64 ((si l).2 : Nat), .int .i64 k]) w') : fg P F.ef [v] w K := by
 rw [M.cn.fcall]
 apply M.cn.calls
 unfold M.cn
 rw [fj]
 have h0 : AlI w0 l R [undef, undef, undef, .slice none 0 0, .int .i64 ((0 : Nat) : Int), .int .i64 0] w := by
  refine ⟨_, _, _, _, _, [], 0, l.length + 1, rfl, Nat.zero_le _, by omega, by simp, ?_, ajv S⟩
  rw [List.nil_append]
  exact (Prod.eta _).symm
 refine ⟨AlI w0 l R, fun x _ => l.length - ms x 4, h0, ?_⟩
 rintro x w1 ⟨u0, u1, u2, u5, lv, acc, gp, f, rfl, hu, hf, ha, heq, S1⟩
 have q3 : gv [u0, u1, u2, lv, .int .i64 (gp : Nat), u5] 3 = lv := rfl
 have q4 : gv [u0, u1, u2, lv, .int .i64 (gp : Nat), u5] 4 = .int .i64 (gp : Nat) := rfl
 have q5 : gv [u0, u1, u2, lv, .int .i64 (gp : Nat), u5] 5 = u5 := rfl
 have s1 := hs w1 [_] S1
 have hlen : ∀ w' K', biT P .len #[T.d] T.a [false] [v] w' K' = K' (.int .i64 l.length) w' := fun w' K' => s1.ij (by kernel_rfl) [false]
 unfold M.cn.j1
 simp only [fj, q4, hlen, kc]
 cases f with
 | zero => omega
 | succ f =>
  by_cases hul : gp < l.length
  ·rw [decide_eq_true (show (gp : Int) < l.length by omega), Eng.cond_true]
   unfold M.cn.j2
   have hw1 : IntKind.i64.wrap ((gp : Int) + 8192) = ((gp + 8192 : Nat) : Int) := by rw [fm (by omega) (by omega)]; omega
   have hw2 : IntKind.i64.wrap (((gp + 8192 : Nat) : Int) + 8) = ((gp + 8200 : Nat) : Int) := by rw [fm (by omega) (by omega)]; omega
   simp only [fj, q3, q4, q5, hlen, iz, hw1, hw2, agk]
   obtain ⟨e, he⟩ : ∃ e : Nat, min (l.length : Int) ((gp + 8200 : Nat) : Int) = (e : Int) ∧ gp ≤ e ∧ e ≤ l.length ∧ (l.drop gp).take (e - gp) = (l.drop gp).take 8200 := by
    by_cases hm : l.length ≤ gp + 8200
    ·refine ⟨l.length, by omega, by omega, Nat.le_refl _, ?_⟩
     rw [List.take_of_length_le (by simp), List.take_of_length_le (by simp; omega)]
    ·exact ⟨gp + 8200, by omega, by omega, by omega, by rw [Nat.add_sub_cancel_left]⟩
   obtain ⟨he1, he2, he3, he4⟩ := he
   rw [he1]
   obtain ⟨va, sa, pa, ra⟩ := s1.sub (P := P) (t := T.d) (lo := some (.int .i64 (gp : Nat))) (hi := some (.int .i64 (e : Nat))) (i := gp) (j := e) (by kernel_rfl) (by kernel_rfl) (.inr ⟨_, rfl⟩) (.inr ⟨_, rfl⟩) he2 he3
   rw [ra]
   have hrd : ∀ w' L, St w0 w' (L ++ (jj lv acc :: R)) → SlB w' va ((l.drop gp).take 8200) := fun w' L S' => by
    obtain ⟨vb, sb, _, rb⟩ := (hs w' (L ++ [jj lv acc]) (by simpa using S')).sub (P := P) (t := T.d) (lo := some (.int .i64 (gp : Nat))) (hi := some (.int .i64 (e : Nat))) (i := gp) (j := e) (by kernel_rfl) (by kernel_rfl) (.inr ⟨_, rfl⟩) (.inr ⟨_, rfl⟩) he2 he3
    rw [aqw ra rb w', ← he4]; exact sb
   refine bak S1 hrd (by simp; omega) fun w2 dv rv S2 => ?_
   simp only [aut, avh, ava, ajq]
   have hG : ww l (f + 1) gp = match (vy ((l.drop gp).take 8200)).1 with
    | none => ([], gp)
    | some d => (d :: (ww l f (gp + d.length + 8)).1, (ww l f (gp + d.length + 8)).2) := by rw [ww, if_pos hul]
   have hck := avo ((l.drop gp).take 8200)
   generalize vy ((l.drop gp).take 8200) = c at *
   obtain ⟨co, ck⟩ := c
   rcases hck with ⟨k0, d, hd, hdl⟩ | ⟨k0, hd⟩
   ·simp only at k0 hd hG S2
    subst k0 hd
    simp only [Option.getD_some] at S2 hG
    have hdl' : d.length + 8 ≤ l.length - gp := by simp at hdl; omega
    obtain ⟨da, dc, hdv, _⟩ : SlB w2 dv d := S2.row ip
    simp
    unfold M.cn.j3
    have hsv : dv = SV.v ⟨da, d.length, dc⟩ := hdv
    have hdlen : ∀ w' K', biT P .len #[T.d] T.a [false] [dv] w' K' = K' (.int .i64 d.length) w' := fun w' K' => (S2.row ip : SlB w2 dv d).ij (by kernel_rfl) [false]
    have r3 : gv [lv, .int .i64 (gp : Nat), u5] 0 = lv := rfl
    have r4 : gv [lv, .int .i64 (gp : Nat), u5] 1 = .int .i64 (gp : Nat) := rfl
    have r5 : gv [lv, .int .i64 (gp : Nat), u5] 2 = u5 := rfl
    have hw3 : IntKind.i64.wrap ((d.length : Int) + 8) = ((d.length + 8 : Nat) : Int) := by rw [fm (by omega) (by omega)]; omega
    have hw4 : IntKind.i64.wrap ((gp : Int) + ((d.length + 8 : Nat) : Int)) = ((gp + d.length + 8 : Nat) : Int) := by rw [fm (by omega) (by omega)]; omega
    simp only [r3, r4, r5, hdlen, iz, hw3, hw4]
    rw [hsv] at S2 ⊢
    refine abe S2 (by omega) fun w3 v3 S3 => ?_
    refine ⟨⟨_, _, _, _, v3, acc ++ [d], gp + d.length + 8, f, rfl, by omega, by omega, by simp; omega, ?_, S3⟩, ?_⟩
    ·rw [heq, hG]; simp
    ·simp [ms, gv]; omega
   ·simp only at k0 hd hG S2
    subst hd
    rw [heq, hG, List.append_nil] at h
    rw [decide_eq_true k0, Eng.cond_true]
    exact h w2 lv ck S2.drop
  ·rw [decide_eq_false (show ¬ (gp : Int) < l.length by omega), Eng.cond_false]
   have hG : ww l (f + 1) gp = ([], gp) := by rw [ww, if_neg hul]
   rw [heq, hG, List.append_nil] at h
   exact h w1 lv 0 S1
end
def cat (ds : List (List Int)) : List Int := ds.flatMap gx
theorem aud {n : Nat} (hn : n < 4294967296) (r : List Int) (k : Nat) (hk : 4 ≤ k) : vh ((tc (n : Int) ++ r).take k) = n := by
 have e : (tc (n : Int) ++ r).take k = tc (n : Int) ++ r.take (k - 4) := by
  rw [List.take_append, List.take_of_length_le (by rw [pt]; omega), pt]
 rw [e, aet hn]
theorem avv {d : List Int} (hd : d.length ≤ 8192) (r : List Int) : vy (gx d ++ r) = (some d, 0) := by
 have hl := lb d
 have hb : (sx d).length = 4 + d.length := by unfold sx; simp [pt]
 have hu : vh (gx d ++ r) = (d.length : Int) := by
  unfold gx sx
  rw [List.append_assoc, List.append_assoc]
  exact aet (by omega) _
 unfold vy
 rw [hu, if_neg (by simp; omega), if_neg (by omega), if_neg (by simp; omega), Int.toNat_natCast]
 have e1 : (gx d ++ r).take (4 + d.length) = sx d := by
  unfold gx
  rw [List.append_assoc, List.take_left' hb]
 have e2 : vh ((gx d ++ r).drop (4 + d.length)) = yg (sx d) := by
  unfold gx
  rw [List.append_assoc, List.drop_left' hb]
  obtain ⟨n, hn, hn2⟩ := amd (sx d)
  rw [hn]; exact aet hn2 r
 have e3 : ((gx d ++ r).drop 4).take d.length = d := by
  unfold gx sx
  rw [List.append_assoc, List.append_assoc, List.drop_left' (pt _), List.take_left' rfl]
 rw [e1, e2, if_neg (by simp), e3]
theorem axw {d : List Int} (hd : d.length ≤ 8192) {k : Nat} (hk : k < (gx d).length) : (vy ((gx d).take k)).1 = none := by
 have hl := lb d
 unfold vy
 by_cases h4 : k < 4
 ·rw [if_pos (by simp; omega)]
 ·have hu : vh ((gx d).take k) = (d.length : Int) := by
   unfold gx sx
   rw [List.append_assoc]
   exact aud (by omega) _ k (by omega)
  rw [if_neg (by simp; omega), hu, if_neg (by omega), if_pos (by simp; omega)]
def afg (p : List Int) : Prop := ∃ (d : List Int) (k : Nat), d.length ≤ 8192 ∧ k < (gx d).length ∧ p = (gx d).take k
theorem ank : afg [] := ⟨[], 0, by simp, by rw [lb]; simp, by simp⟩
theorem awr {ds : List (List Int)} (hd : ∀ d ∈ ds, d.length ≤ 8192) {p : List Int} (hp : afg p) : ∀ (a : List Int) (f : Nat), (a ++ cat ds ++ p).length < f + a.length → ww (a ++ cat ds ++ p) f a.length = (ds, (a ++ cat ds).length) := by
 induction ds with
 | nil =>
  intro a f hf
  simp only [cat, List.flatMap_nil, List.append_nil]
  cases f with
  | zero => simp [cat] at hf; omega
  | succ f =>
   rw [ww]
   by_cases hlt : a.length < (a ++ p).length
   ·rw [if_pos hlt, List.drop_left' rfl]
    obtain ⟨d, k, h1, h2, rfl⟩ := hp
    have hl := lb d
    rw [List.take_take, axw h1 (by omega)]
   ·rw [if_neg hlt]
 | cons d ds ih =>
  intro a f hf
  have hdd := hd d (by simp)
  have hl := lb d
  have e0 : cat (d :: ds) = gx d ++ cat ds := by simp [cat]
  rw [e0] at hf ⊢
  cases f with
  | zero => simp at hf; omega
  | succ f =>
   rw [ww, if_pos (by simp; omega)]
   have e1 : ((a ++ (gx d ++ cat ds) ++ p).drop a.length).take 8200 = gx d ++ (cat ds ++ p).take (8200 - (gx d).length) := by
    rw [List.append_assoc, List.drop_left' rfl, List.append_assoc, List.take_append, List.take_of_length_le (by omega)]
   rw [e1, avv hdd]
   have e2 : a ++ (gx d ++ cat ds) ++ p = (a ++ gx d) ++ cat ds ++ p := by simp
   have e3 : a.length + d.length + 8 = (a ++ gx d).length := by simp; omega
   have := ih (fun x hx => hd x (by simp [hx])) (a ++ gx d) f (by rw [e2] at hf; simp at hf ⊢; omega)
   simp only
   rw [e2, e3, this]
   simp [cat]
theorem apj {ds : List (List Int)} (hd : ∀ d ∈ ds, d.length ≤ 8192) {p : List Int} (hp : afg p) : si (cat ds ++ p) = (ds, (cat ds).length) := by
 have := awr hd hp [] ((cat ds ++ p).length + 1) (by simp)
 simpa [si] using this
set_option maxRecDepth 100000
open Go.Eng
def lz (p : Nat) : List Value := [.pointer (some ⟨p, 0, none⟩)]
theorem qu (p : Nat) : (lz p).length = 1 := rfl
theorem ayj (p : Nat) : ∀ u ∈ lz p, jn u = true := fun u hu => by simp [lz] at hu; subst hu; rfl
open Go.Eng Go.Proofs.YtfnhoaemapheoaaGreat.Sint
structure Prt where
 no : Int
 first : Int
 fq : List (List Int)
 size : Int
structure Lg where
 ge : Int
 fk : List Prt
def qr (q : Prt) (v : Value) : Array Value := #[.int .i64 q.no, .int .i64 q.first, v, .int .i64 q.size]
def aye (p : Nat) (v : Value) (q : Prt) : List Asn := [fu p (qr q v) T.ad, jj v q.fq]
def lj (p : Nat) (q : Prt) : Asn where
 ok w B := ∃ v, Rs (aye p v q) w B
 jd := by
  rintro w w' B S ⟨v, h⟩ hf hn
  exact ⟨v, h.jd hf hn⟩
def ik (p : Nat) : Value := .pointer (some ⟨p, 0, none⟩)
def lx (hb : Nat) (ge : Int) (v : Value) : Array Value := #[.pointer (some ⟨hb, 0, none⟩), .int .i64 ge, v]
def ayi (p hb : Nat) (v : Value) (ps : List Nat) (L : Lg) : List Asn := [fu p (lx hb L.ge v) T.y, Eng.jf T.aa 1 lz v ps, pp lj ps L.fk]
def kb (p hb : Nat) (L : Lg) : Asn where
 ok w B := ∃ v ps, ps.length = L.fk.length ∧ Rs (ayi p hb v ps L) w B
 jd := by
  rintro w w' B S ⟨v, ps, h1, h2⟩ hf hn
  exact ⟨v, ps, h1, h2.jd hf hn⟩
def Lg.next (L : Lg) : Int := match L.fk.getLast? with
 | none => 0
 | some q => IntKind.i64.wrap (q.first + q.fq.length)
section
variable {w0 w : World} {R : List Asn} {p hb : Nat} {v : Value} {ps : List Nat} {L : Lg} {q : Prt}
theorem sk (S : St w0 w (lj p q :: R)) : ∃ v, St w0 w (fu p (qr q v) T.ad :: jj v q.fq :: R) := by
 obtain ⟨B, ⟨v, h⟩, _, cl⟩ := S.open
 exact ⟨v, cl w (aye p v q) (Fr.refl _ _) (h.mono fun b hb => .inl hb)⟩
theorem ahx (S : St w0 w (fu p (qr q v) T.ad :: jj v q.fq :: R)) : St w0 w (lj p q :: R) := by
 obtain ⟨U, h1, _, g⟩ := St.zj (L := aye p v q) (R := R) S
 exact g w [lj p q] (Fr.refl _ _) ⟨U, ⟨v, h1⟩, fun b hb => .inl hb, trivial⟩
theorem agb (S : St w0 w (kb p hb L :: R)) : ∃ v ps, ps.length = L.fk.length ∧ St w0 w (fu p (lx hb L.ge v) T.y :: Eng.jf T.aa 1 lz v ps :: pp lj ps L.fk :: R) := by
 obtain ⟨B, ⟨v, ps, h1, h2⟩, _, cl⟩ := S.open
 exact ⟨v, ps, h1, cl w (ayi p hb v ps L) (Fr.refl _ _) (h2.mono fun b hb => .inl hb)⟩
theorem xd (h : ps.length = L.fk.length) (S : St w0 w (fu p (lx hb L.ge v) T.y :: Eng.jf T.aa 1 lz v ps :: pp lj ps L.fk :: R)) : St w0 w (kb p hb L :: R) := by
 obtain ⟨U, h1, _, g⟩ := St.zj (L := ayi p hb v ps L) (R := R) S
 exact g w [kb p hb L] (Fr.refl _ _) ⟨U, ⟨v, ps, h, h1⟩, fun b hb => .inl hb, trivial⟩
theorem ko {ge : Int} (h : w.heap[p]? = some (.cells (lx hb ge v) T.y (0, 0))) : fo w p 0 = some (.pointer (some ⟨hb, 0, none⟩)) ∧ fo w p 1 = some (.int .i64 ge) ∧ fo w p 2 = some v ∧ ∀ i, nt w p i = false :=
 ⟨by rw [fp h]; rfl, by rw [fp h]; rfl, by rw [fp h]; rfl, lc h⟩
theorem jp (h : w.heap[p]? = some (.cells (qr q v) T.ad (0, 0))) : fo w p 0 = some (.int .i64 q.no) ∧ fo w p 1 = some (.int .i64 q.first) ∧ fo w p 2 = some v ∧ fo w p 3 = some (.int .i64 q.size) ∧ ∀ i, nt w p i = false :=
 ⟨by rw [fp h]; rfl, by rw [fp h]; rfl, by rw [fp h]; rfl, by rw [fp h]; rfl, lc h⟩
theorem aae (S : St w0 w (Eng.jf T.aa 1 lz v ps :: R)) {j : Nat} (hj : j < ps.length) : ∃ b o, (∀ w' K, iaT P T.l v (.int .i64 (j : Nat)) w' K = K (.pointer (some ⟨b, o, none⟩)) w') ∧ ∀ {w1 : World} {R1 : List Asn}, St w0 w1 (Eng.jf T.aa 1 lz v ps :: R1) → fo w1 b o = some (ik ps[j]) := by
 obtain ⟨b, o, cap, hv, _, _, hc⟩ := (S.jf qu : Sl w 1 lz v ps).at hj
 refine ⟨b, o + j, fun w' K => by rw [hv]; simp [hj], fun {w1 R1} S1 => ?_⟩
 obtain ⟨b', o', cap', hv', _, _, hc'⟩ := (S1.jf qu : Sl w1 1 lz v ps).at hj
 have hx := hv.symm.trans hv'
 cases hx
 have c0 := hc' 0 _ rfl
 simp only [Nat.mul_one, Nat.add_zero] at c0
 exact c0
theorem wh (S : St w0 w (Eng.jf T.aa 1 lz v ps :: R)) (w' : World) (K : KV) : biT P .len #[T.l] T.a [false] [v] w' K = K (.int .i64 ps.length) w' := by rw [(S.jf qu : Sl w 1 lz v ps).ij (by kernel_rfl)]
theorem aau (hl : ps.length = L.fk.length) (S : St w0 w (fu p (lx hb L.ge v) T.y :: Eng.jf T.aa 1 lz v ps :: R)) (hfew : ps.length ≤ 1000000) {K : KV} (h0 : ps = [] → K (.pointer none) w) (h1 : ∀ (hp : 0 < ps.length) w', Fr (fun _ => False) w w' → K (ik (ps[ps.length - 1]'(by omega))) w') : fg P F.bp [ik p] w K := by
 rw [M.cv.fcall]
 apply M.cv.calls
 unfold M.cv ik
 obtain ⟨c0, c1, c2, _⟩ := ko S.blk
 have hlen := fun w' K => wh S.swap w' K
 by_cases hz : ps.length = 0
 ·simp [c2, hlen, hz]
  exact h0 (List.length_eq_zero_iff.1 hz)
 ·have hp : 0 < ps.length := by omega
  have hz' : ¬ ps = [] := fun h => hz (by rw [h]; rfl)
  obtain ⟨b, o, hia, hc⟩ := aae S.swap (j := ps.length - 1) (by omega)
  have cc : fo w b o = some (ik (ps[ps.length - 1]'(by omega))) := hc S.swap
  have hw : IntKind.i64.wrap ((ps.length : Int) - 1) = ((ps.length - 1 : Nat) : Int) := by rw [fm (by omega) (by omega)]; omega
  simp [c2, hlen, hz']
  unfold M.cv.j0
  simp [c2, hlen, hw, hia, cc]
  exact h1 hp _ ((Fr.refl _ w).dr 1)
theorem abj {qs : List Prt} (h : 0 < qs.length) : qs.getLast? = some (qs[qs.length - 1]'(by omega)) := by
 rw [List.getLast?_eq_getElem?, List.getElem?_eq_getElem (by omega)]
theorem agp (hl : ps.length = L.fk.length) (S : St w0 w (fu p (lx hb L.ge v) T.y :: Eng.jf T.aa 1 lz v ps :: pp lj ps L.fk :: R)) (hfew : ps.length ≤ 1000000) {K : KV} (h : ∀ w', Fr (fun _ => False) w w' → K (.int .i64 L.next) w') : fg P F.ci [ik p] w K := by
 rw [M.cu.fcall]
 apply M.cu.calls
 unfold M.cu
 refine aau hl S hfew (fun hz => ?_) fun hp w1 f1 => ?_
 ·have : L.fk = [] := List.length_eq_zero_iff.1 (by rw [← hl, hz]; rfl)
  have hn : L.next = 0 := by unfold Lg.next; rw [this]; rfl
  rw [hn] at h
  simp
  exact h w (Fr.refl _ _)
 ·have hj : ps.length - 1 < L.fk.length := by omega
  have S1 := S.iq f1
  obtain ⟨v', S2⟩ := sk (um hl hj S1.up2)
  obtain ⟨_, d1, d2, _, _⟩ := jp S2.blk
  have hn : L.next = IntKind.i64.wrap ((L.fk[ps.length - 1]).first + (L.fk[ps.length - 1]).fq.length) := by
   unfold Lg.next
   rw [abj (by omega)]
   simp only [hl]
  rw [hn] at h
  generalize L.fk[ps.length - 1] = q at *
  have hlen := fun w' K => xq S2.swap w' K
  simp only [ik]
  simp
  unfold M.cu.j0
  simp [d1, d2, hlen]
  exact h _ (f1.dr 1)
def Lg.ji (L : Lg) : Int := match L.fk with
 | [] => 0
 | q :: _ => q.first
theorem azf (S : St w0 w (kb p hb L :: R)) {K : KV} (h : K (.int .i64 L.ji) w) : fg P F.dl [ik p] w K := by
 obtain ⟨v, ps, hl, S1⟩ := agb S
 rw [M.cp.fcall]
 apply M.cp.calls
 unfold M.cp ik
 obtain ⟨c0, c1, c2, _⟩ := ko S1.blk
 have hlen := fun w' K => wh S1.swap w' K
 unfold Lg.ji at h
 cases hq : L.fk with
 | nil =>
  rw [hq] at h hl
  have hz : ps = [] := List.length_eq_zero_iff.1 hl
  subst hz
  simp [c2, hlen]
  exact h
 | cons q qs =>
  rw [hq] at h hl S1
  have hz : 0 < ps.length := by rw [hl]; simp
  have hz' : ¬ ps = [] := fun h => by rw [h] at hz; simp at hz
  obtain ⟨b, o, hia, hc⟩ := aae S1.swap (j := 0) hz
  have hia0 : ∀ w' K, iaT P T.l v (.int .i64 0) w' K = K (.pointer (some ⟨b, o, none⟩)) w' := hia
  have cc : fo w b o = some (.pointer (some ⟨ps[0], 0, none⟩)) := hc S1.swap
  obtain ⟨v', S2⟩ := sk (um (j := 0) hl (by simp) S1.up2)
  obtain ⟨_, d1, _⟩ := jp S2.blk
  simp only [List.getElem_cons_zero] at d1
  simp [c2, hlen, hz']
  unfold M.cp.j0
  simp [c2, hia0, cc, d1]
  exact h
def Lg.lh (L : Lg) (D : Dk) : Dk × Int := if D.ga then (D, 10) else match L.fk.getLast? with
 | none => (D, 0)
 | some q => D.lh q.no
theorem amk {D : Dk} (S : St w0 w (kb p hb L :: fy hb D :: R)) (hfew : L.fk.length ≤ 1000000) {K : KV} (h : ∀ w', St w0 w' (kb p hb L :: fy hb (L.lh D).1 :: R) → K (.int .i64 (L.lh D).2) w') : fg P F.db [ik p] w K := by
 obtain ⟨v, ps, hl, S1⟩ := agb S
 rw [M.ct.fcall]
 apply M.ct.calls
 unfold M.ct
 obtain ⟨c0, c1, c2, _⟩ := ko S1.blk
 simp only [ik]
 simp [c0]
 refine act S1.up3 ?_
 unfold Lg.lh at h
 cases hd : D.ga with
 | true =>
  rw [hd] at h
  simp
  exact h w S
 | false =>
  rw [hd] at h
  simp only [Bool.false_eq_true, if_false] at h
  simp
  refine aau hl S1 (by omega) (fun hz => ?_) fun hp w1 f1 => ?_
  ·have : L.fk = [] := List.length_eq_zero_iff.1 (by rw [← hl, hz]; rfl)
   rw [this] at h
   simp
   exact h w S
  ·simp only [ik]
   simp
   unfold M.ct.j0
   have S2 := S1.iq f1
   obtain ⟨e0, _, _, _⟩ := ko S2.blk
   have S3 := S2.iq ((Fr.refl _ w1).dr 1)
   simp [e0]
   refine aau hl S3 (by omega) (fun hz => by rw [hz] at hp; simp at hp) fun hp w2 f2 => ?_
   have S4 := S3.iq f2
   obtain ⟨g0, _, _, _⟩ := ko S4.blk
   have hj : ps.length - 1 < L.fk.length := by omega
   obtain ⟨v', S5⟩ := sk (um hl hj S4.up2)
   obtain ⟨d0, _, _, _, _⟩ := jp S5.blk
   have hgl : L.fk.getLast? = some (L.fk[ps.length - 1]) := by rw [abj (by omega)]; simp only [hl]
   rw [hgl] at h
   simp only at h
   simp [ik, g0, d0]
   refine arc S4.up3 _ fun w3 S6 => ?_
   exact h w3 (xd hl S6.dn3)
end
set_option maxRecDepth 100000
open Go.Eng Go.Proofs.YtfnhoaemapheoaaGreat.Sint
def Lg.all (L : Lg) : List (List Int) := L.fk.flatMap Prt.fq
section
variable {w0 w : World} {R : List Asn} {p hb : Nat} {v : Value} {ps : List Nat} {L : Lg} {q : Prt}
theorem aex {l : List Int} (S : St w0 w (jh v l :: R)) : ∃ s : SV, v = s.v := by
 obtain ⟨a, c, hv, _⟩ : SlB w v l := S.row ip
 exact ⟨⟨a, l.length, c⟩, hv⟩
def RiI (w0 : World) (rv : Value) (acc ls : List (List Int)) (R : List Asn) : KL := fun x w1 => ∃ (u0 av : Value) (j : Nat), x = [u0, av, .int .i64 (j : Nat)] ∧ j ≤ ls.length ∧ St w0 w1 (jj av (acc ++ ls.take j) :: jj rv ls :: R)
def RoI (w0 : World) (p hb : Nat) (L : Lg) (v : Value) (ps : List Nat) (R : List Asn) : KL := fun x w1 => ∃ (u0 u1 u2 u3 u4 av : Value) (i : Nat), x = [u0, u1, u2, u3, u4, av, .int .i64 (i : Nat)] ∧ i ≤ L.fk.length ∧
 St w0 w1 (jj av ((L.fk.take i).flatMap Prt.fq) :: fu p (lx hb L.ge v) T.y :: Eng.jf T.aa 1 lz v ps :: pp lj ps L.fk :: R)
theorem bbq {qs : List Prt} {i : Nat} (hi : i < qs.length) (j : Nat) : ((qs.take i).flatMap Prt.fq ++ (qs[i].fq).take j).length ≤ (qs.flatMap Prt.fq).length := by
 have e : qs.flatMap Prt.fq = (qs.take i).flatMap Prt.fq ++ (qs[i].fq ++ (qs.drop (i + 1)).flatMap Prt.fq) := by
  conv => lhs; rw [← List.take_append_drop i qs, List.drop_eq_getElem_cons hi]
  rw [List.flatMap_append, List.flatMap_cons]
 rw [e]
 simp only [List.length_append, List.length_take]
 omega
theorem bbo (S : St w0 w (kb p hb L :: R)) (hfew : L.fk.length ≤ 1000000) (hall : L.all.length ≤ 1000000) (hrec : ∀ q ∈ L.fk, ∀ d ∈ q.fq, d.length ≤ 100000000) {K : KV} (h : ∀ w' v', St w0 w' (jj v' L.all :: kb p hb L :: R) → K v' w') : fg P F.bw [ik p] w K := by
 obtain ⟨v, ps, hl, S1⟩ := agb S
 rw [M.au.fcall]
 apply M.au.calls
 unfold M.au ik
 obtain ⟨c0, c1, c2, _⟩ := ko S1.blk
 have hlen := fun w' K => wh S1.swap w' K
 simp
 unfold M.au.j0
 simp [c2, hlen]
 have S2 := ajv S1
 refine ⟨RoI w0 p hb L v ps R, fun x _ => L.fk.length - ms x 6, ⟨_, _, _, _, _, _, 0, rfl, Nat.zero_le _, S2⟩, ?_⟩
 rintro x w1 ⟨u0, u1, u2, u3, u4, av, i, rfl, hi, S3⟩
 by_cases hlt : i < L.fk.length
 ·have hltp : i < ps.length := by omega
  have hlti : (i : Int) < (ps.length : Int) := by omega
  obtain ⟨b, o, hia, hc⟩ := aae S3.up2 (j := i) hltp
  have cc : fo w1 b o = some (ik ps[i]) := hc S3.up2
  simp [hlti]
  unfold M.au.j3
  obtain ⟨rv, S4⟩ := sk (um hl hlt S3.up3)
  obtain ⟨_, _, d2, _, _⟩ := jp S4.blk
  have hq2 := hrec _ (List.getElem_mem hlt : L.fk[i] ∈ L.fk)
  have hrl : ∀ j, ((L.fk.take i).flatMap Prt.fq ++ (L.fk[i].fq).take j).length ≤ 1000000 := fun j => Nat.le_trans (bbq hlt j) hall
  have hnext : (L.fk.take i).flatMap Prt.fq ++ L.fk[i].fq = (L.fk.take (i + 1)).flatMap Prt.fq := by rw [List.take_succ_eq_append_getElem hlt, List.flatMap_append]; simp
  have S5 : St w0 w1 (jj av ((L.fk.take i).flatMap Prt.fq) :: jj rv L.fk[i].fq :: fu ps[i] (qr L.fk[i] rv) T.ad :: ahh lj ps L.fk i :: fu p (lx hb L.ge v) T.y :: Eng.jf T.aa 1 lz v ps :: R) := S4.up3.perm (.cons _ (.swap _ _ _))
  have hback : ∀ {w2 : World} {av' : Value} {A : List (List Int)}, St w0 w2 (jj av' A :: jj rv L.fk[i].fq :: fu ps[i] (qr L.fk[i] rv) T.ad :: ahh lj ps L.fk i :: fu p (lx hb L.ge v) T.y :: Eng.jf T.aa 1 lz v ps :: R) → St w0 w2 (jj av' A :: fu p (lx hb L.ge v) T.y :: Eng.jf T.aa 1 lz v ps :: pp lj ps L.fk :: R) := fun T => (awu hl hlt (ahx (St.dn3 (T.perm (.cons _ (.swap _ _ _)))))).dn3
  generalize (L.fk.take i).flatMap Prt.fq = A at *
  generalize hrs : L.fk[i].fq = rs at *
  generalize fu ps[i] (qr L.fk[i] rv) T.ad :: ahh lj ps L.fk i :: fu p (lx hb L.ge v) T.y :: Eng.jf T.aa 1 lz v ps :: R = R' at S5 hback
  have hlen2 := fun w' K => xq S5.swap w' K
  simp only [ik] at cc d2
  simp [ik, hia, cc, d2, hlen2]
  have h0 : RiI w0 rv A rs R' [gv [u0, u1, u2, u3, u4, av, .int .i64 (i : Nat)] 4, gv [u0, u1, u2, u3, u4, av, .int .i64 (i : Nat)] 5, .int .i64 ((0 : Nat) : Int)] w1 := ⟨_, _, 0, rfl, Nat.zero_le _, by rw [List.take_zero, List.append_nil]; exact S5⟩
  refine ⟨RiI w0 rv A rs R', fun x _ => rs.length - ms x 2, h0, ?_⟩
  rintro x w2 ⟨t0, bv, j, rfl, hj, S6⟩
  by_cases hltj : j < rs.length
  ·have hltji : (j : Int) < (rs.length : Int) := by omega
   obtain ⟨b2, o2, s, hia2, _, hc2, hs2⟩ := abw S6.swap hltj
   simp [hltji]
   unfold M.au.j6
   simp only [SV.v] at hc2
   simp [hia2, hc2]
   refine yd S6 hs2 (hq2 _ (List.getElem_mem hltj)) fun w3 v3 S7 => ?_
   obtain ⟨s3, rfl⟩ := aex S7
   refine abe S7 (Nat.le_trans (by simp) (hrl j)) fun w4 v4 S8 => ?_
   rw [List.append_assoc, ← List.take_succ_eq_append_getElem hltj] at S8
   have hw : IntKind.i64.wrap ((j : Int) + 1) = ((j + 1 : Nat) : Int) := by have := hrl rs.length; simp at this; rw [fm (by omega) (by omega)]; omega
   try simp
   rw [hw]
   refine ⟨⟨_, _, j + 1, rfl, hltj, S8⟩, ?_⟩
   simp [ms, gv]; omega
  ·have hge : ¬ (j : Int) < (rs.length : Int) := by omega
   simp [hge]
   have hw : IntKind.i64.wrap ((i : Int) + 1) = ((i + 1 : Nat) : Int) := by rw [fm (by omega) (by omega)]; omega
   rw [hw]
   rw [List.take_of_length_le (by omega), hnext] at S6
   refine ⟨⟨_, _, _, _, _, _, i + 1, rfl, hlt, hback S6⟩, ?_⟩
   simp [ms, gv]; omega
 ·have hge : ¬ (i : Int) < (ps.length : Int) := by omega
  simp [hge]
  have he : (L.fk.take i).flatMap Prt.fq = L.all := by rw [List.take_of_length_le (by omega)]; rfl
  rw [he] at S3
  exact h w1 av (xd hl S3.dn3).swap
end
set_option maxRecDepth 100000
open Go.Eng Go.Proofs.YtfnhoaemapheoaaGreat.Sint
def ka (n : Int) : List Prt → Dk → (List Prt × Dk) × Int
 | q :: q2 :: r, D => if q2.first ≤ n then (if (D.na q.no).2 = 0 then ka n (q2 :: r) (D.na q.no).1 else ((q :: q2 :: r, (D.na q.no).1), (D.na q.no).2)) else ((q :: q2 :: r, D), 0)
 | qs, D => ((qs, D), 0)
def Lg.drop (L : Lg) (D : Dk) (n : Int) : (Lg × Dk) × Int := if n < 0 ∨ L.next < n then ((L, D), 1) else if D.ga then ((L, D), 10) else (({ L with fk := (ka n L.fk D).1.1 }, (ka n L.fk D).1.2), (ka n L.fk D).2)
section
variable {w0 w : World} {R : List Asn} {p hb : Nat} {v : Value} {ps : List Nat} {L : Lg} {q : Prt} {D : Dk}
theorem zm {cs cs' : Array Value} {e : TypeId} {b i : Nat} {u : Value} (S : St w0 w (fu b cs e :: R)) (hc : cs.setIfInBounds i u = cs') : St w0 (w.setCell ⟨b, i, none⟩ u) (fu b cs' e :: R) :=
 S.kf ((Fr.refl (fun x => x = b) w).setCell (.inl rfl) _ _) ((jw S.blk).trans (by rw [hc]))
def amw (p : Nat) (w : World) : Nat := match fo w p 2 with
 | some (.slice _ n _) => n
 | _ => 0
def dkL (p hb : Nat) (ge : Int) (v : Value) (ps : List Nat) (qs : List Prt) (D : Dk) (R : List Asn) : List Asn := fu p (lx hb ge v) T.y :: Eng.jf T.aa 1 lz v ps :: pp lj ps qs :: fy hb D :: R
theorem aqd {ge : Int} {qs : List Prt} (hl : ps.length = qs.length) (S : St w0 w (dkL p hb ge v ps qs D R)) : amw p w = qs.length := by
 unfold dkL at S
 obtain ⟨_, _, c2, _⟩ := ko S.blk
 obtain ⟨a, c, hv, _⟩ := (S.swap.jf qu : Sl w 1 lz v ps)
 unfold amw
 rw [c2, hv]
 exact hl
def DpI (w0 : World) (p hb : Nat) (n : Int) (L : Lg) (D : Dk) (R : List Asn) : KL := fun x w1 => ∃ (u0 u1 v : Value) (ps : List Nat) (qs : List Prt) (D' : Dk), x = [u0, u1] ∧ ps.length = qs.length ∧ qs.length ≤ 1000000 ∧ ka n L.fk D = ka n qs D' ∧ St w0 w1 (dkL p hb L.ge v ps qs D' R)
theorem aua {n : Int} {qs : List Prt} (h : ∀ (h1 : 1 < qs.length), n < qs[1].first) : ka n qs D = ((qs, D), 0) := by
 match qs with
 | [] => rfl
 | [q] => rfl
 | q :: q2 :: r =>
  have := h (by simp)
  simp only [List.getElem_cons_succ, List.getElem_cons_zero] at this
  rw [ka, if_neg (by omega)]
theorem avl (S : St w0 w (dkL p hb L.ge v ps L.fk D R)) (hl : ps.length = L.fk.length) (hfew : L.fk.length ≤ 1000000) (n : Int) {u0 u1 : Value} {K : KV}
  (h : ∀ w' v' ps', ps'.length = (ka n L.fk D).1.1.length → St w0 w' (dkL p hb L.ge v' ps' (ka n L.fk D).1.1 (ka n L.fk D).1.2 R) → K (.int .i64 (ka n L.fk D).2) w') :
  gt [u0, u1] w fun K2 x2 w => M.bg.j2 (ik p) (.int .i64 n) (fun _ w => K (.int .i64 0) w) x2 K2 w K := by
 refine ⟨DpI w0 p hb n L D R, fun _ w => amw p w, ⟨_, _, v, ps, L.fk, D, rfl, hl, hfew, rfl, S⟩, ?_⟩
 rintro x w1 ⟨t0, t1, v, ps, qs, D', rfl, hl, hfew, hdr, S1⟩
 have hmeas := aqd hl S1
 unfold dkL at S1
 unfold M.bg.j2
 obtain ⟨c0, c1, c2, _⟩ := ko S1.blk
 have hlen := fun w' K => wh S1.swap w' K
 simp only [ik]
 have fw : (∀ (h1 : 1 < qs.length), n < qs[1].first) → K (.int .i64 0) w1 := fun hst => by
  have e := aua (D := D') hst
  rw [hdr, e] at h
  exact h w1 v ps hl S1
 by_cases h1 : 1 < qs.length
 ·have h1' : 1 < ps.length := by omega
  have h1i : (1 : Int) < (ps.length : Int) := by omega
  obtain ⟨b, o, hia, hc⟩ := aae S1.swap (j := 1) h1'
  have hia1 : ∀ w' K, iaT P T.l v (.int .i64 1) w' K = K (.pointer (some ⟨b, o, none⟩)) w' := hia
  have cc : fo w1 b o = some (ik ps[1]) := hc S1.swap
  obtain ⟨rv, S2⟩ := sk (um (j := 1) hl h1 S1.up2)
  obtain ⟨_, d1, _⟩ := jp S2.blk
  simp only [ik] at cc
  simp [c2, hlen, h1i, hia1, cc, d1]
  by_cases hle : qs[1].first ≤ n
  ·simp [hle]
   unfold M.bg.j3
   obtain ⟨q, q2, r, rfl⟩ : ∃ q q2 r, qs = q :: q2 :: r := by
    match qs, h1 with
    | q :: q2 :: r, _ => exact ⟨q, q2, r, rfl⟩
   obtain ⟨b', o', hia', hc'⟩ := aae S1.swap (j := 0) (by omega)
   have hia0 : ∀ w' K, iaT P T.l v (.int .i64 0) w' K = K (.pointer (some ⟨b', o', none⟩)) w' := hia'
   have cc0 : fo w1 b' o' = some (ik ps[0]) := hc' S1.swap
   obtain ⟨rv0, S3⟩ := sk (um (j := 0) hl (by simp) S1.up2)
   obtain ⟨e0, _⟩ := jp S3.blk
   simp only [List.getElem_cons_zero] at e0
   simp only [ik] at cc0
   simp [c0, c2, hia0, cc0, e0]
   refine ali (S1.iq ((Fr.refl _ w1).dr 1)).up3 q.no fun w2 S4 => ?_
   have S5 := S4.dn3
   have hle' : q2.first ≤ n := hle
   rw [ka, if_pos hle'] at hdr
   by_cases hk : (D'.na q.no).2 = 0
   ·rw [if_pos hk] at hdr
    rw [hk]
    simp
    unfold M.bg.j4
    obtain ⟨g0, g1, g2, gz⟩ := ko S5.blk
    cases ps with
    | nil => simp at h1'
    | cons p0 ps =>
     obtain ⟨v', S6, hsl⟩ := S5.swap.bck (P := P) (t := T.l) qu (by kernel_rfl) (by kernel_rfl) (i := 1) (by simp) (k := .i64)
     have hsl1 : ∀ w1 K, slT P T.l v (some (.int .i64 1)) none none w1 K = K v' w1 := hsl
     have S7 : St w0 w2 (Eng.jf T.aa 1 lz v' ps :: pp lj ps (q2 :: r) :: fu p (lx hb L.ge v) T.y :: fy hb (D'.na q.no).1 :: R) := (ayp S6.up2).swap
     obtain ⟨a', cap', hv', _⟩ := (S7.jf qu : Sl w2 1 lz v' ps)
     generalize ps.length = n1 at hv'
     subst hv'
     have S8 : St w0 (w2.setCell ⟨p, 2, none⟩ (.slice a' n1 cap')) (fu p (lx hb L.ge (.slice a' n1 cap')) T.y :: _) := zm S7.up2 (cs' := lx hb L.ge (.slice a' n1 cap')) rfl
     simp [g2, hsl1, gz]
     have hnew : St w0 (w2.setCell ⟨p, 2, none⟩ (.slice a' n1 cap')) (dkL p hb L.ge (.slice a' n1 cap') ps (q2 :: r) (D'.na q.no).1 R) := S8
     refine ⟨⟨_, _, _, ps, q2 :: r, _, rfl, by simpa using hl, by simp at hfew ⊢; omega, hdr, hnew⟩, ?_⟩
     rw [hmeas, aqd (by simpa using hl) hnew]
     simp
   ·rw [if_neg hk] at hdr
    have hkd : decide ((D'.na q.no).2 = 0) = false := decide_eq_false hk
    rw [hdr] at h
    simp [hk]
    exact h w2 v ps hl S5
  ·simp [hle]
   exact fw fun _ => by omega
 ·have h1i : ¬ (1 : Int) < (ps.length : Int) := by omega
  simp [c2, hlen, h1i]
  exact fw fun hx => (h1 hx).elim
theorem baj (S : St w0 w (kb p hb L :: fy hb D :: R)) (hfew : L.fk.length ≤ 1000000) (n : Int) {K : KV} (h : ∀ w', St w0 w' (kb p hb (L.drop D n).1.1 :: fy hb (L.drop D n).1.2 :: R) → K (.int .i64 (L.drop D n).2) w') : fg P F.dr [ik p, .int .i64 n] w K := by
 obtain ⟨v, ps, hl, S1⟩ := agb S
 rw [M.bg.fcall]
 apply M.bg.calls
 unfold M.bg
 simp only [ik]
 unfold Lg.drop at h
 by_cases hn : n < 0
 ·rw [if_pos (.inl hn)] at h
  simp [hn]
  exact h w S
 ·simp [hn]
  refine agp hl S1 (by omega) fun w1 f1 => ?_
  have S2 := S1.iq f1
  by_cases hx : L.next < n
  ·rw [if_pos (.inr hx)] at h
   simp [hx]
   exact h w1 (S.iq f1)
  ·rw [if_neg (by omega)] at h
   simp [hx]
   obtain ⟨c0, _⟩ := ko S2.blk
   simp [c0]
   refine act S2.up3 ?_
   cases hd : D.ga with
   | true =>
    rw [hd] at h
    simp
    exact h w1 (S.iq f1)
   | false =>
    rw [hd] at h
    simp
    exact avl S2 hl hfew n fun w2 v' ps' hl' S3 => h w2 (xd (L := { L with fk := (ka n L.fk D).1.1 }) hl' S3)
end
set_option maxRecDepth 100000
open Go.Eng Go.Proofs.YtfnhoaemapheoaaGreat.Sint
def lf (n : Int) : List Int := gx (ke (IntKind.u64.wrap n))
theorem aek (n : Int) : (lf n).length = 16 := by unfold lf; rw [lb, pf]
def Lg.yk (L : Lg) (D : Dk) (rec : List Int) (no : Int) : (Lg × Dk) × Int :=
 if (D.append no (lf L.next ++ gx rec)).2 = 0 then (({ L with fk := L.fk ++ [⟨no, L.next, [rec], (lf L.next ++ gx rec).length⟩] }, (D.append no (lf L.next ++ gx rec)).1), 0)
 else ((L, (D.append no (lf L.next ++ gx rec)).1), (D.append no (lf L.next ++ gx rec)).2)
def Lg.xu (L : Lg) (D : Dk) (rec : List Int) : (Lg × Dk) × Int := match L.fk.getLast? with
 | none => L.yk D rec 0
 | some q => if 63 ≤ L.fk.length then ((L, D), 9) else if (D.lh q.no).2 = 0 then L.yk (D.lh q.no).1 rec ((q.no + 1) % 64) else ((L, (D.lh q.no).1), (D.lh q.no).2)
def Prt.qe (q : Prt) (rec : List Int) : Prt := { q with fq := q.fq ++ [rec], size := q.size + (gx rec).length }
def Lg.append (L : Lg) (D : Dk) (rec : List Int) : (Lg × Dk) × Int :=
 if 8192 < rec.length then ((L, D), 4) else match L.fk.getLast? with
 | none => L.xu D rec
 | some q => if L.ge ≤ q.size then L.xu D rec else if (D.append q.no (gx rec)).2 = 0 then (({ L with fk := L.fk.set (L.fk.length - 1) (q.qe rec) }, (D.append q.no (gx rec)).1), 0)
  else ((L, (D.append q.no (gx rec)).1), (D.append q.no (gx rec)).2)
structure LgB (L : Lg) : Prop where
 few : L.fk.length ≤ 64
 rng : ∀ q ∈ L.fk, 0 ≤ q.no ∧ q.no < 64
 fq : ∀ q ∈ L.fk, q.fq.length ≤ 1000000
 size : ∀ q ∈ L.fk, 0 ≤ q.size ∧ q.size ≤ 10000000
section
variable {w0 w : World} {R : List Asn} {p hb np : Nat} {v lv fv : Value} {ps : List Nat} {L : Lg} {q : Prt} {D : Dk} {rec : List Int} {no : Int}
theorem up5 {a b c d e f : Asn} (h : St w0 w (a :: b :: c :: d :: e :: f :: R)) : St w0 w (f :: a :: b :: c :: d :: e :: R) := h.perm (List.perm_middle (l₁ := [a, b, c, d, e]))
theorem dn5 {a b c d e f : Asn} (h : St w0 w (f :: a :: b :: c :: d :: e :: R)) : St w0 w (a :: b :: c :: d :: e :: f :: R) := h.perm (List.perm_middle (l₁ := [a, b, c, d, e])).symm
theorem up6 {a b c d e f g : Asn} (h : St w0 w (a :: b :: c :: d :: e :: f :: g :: R)) : St w0 w (g :: a :: b :: c :: d :: e :: f :: R) := h.perm (List.perm_middle (l₁ := [a, b, c, d, e, f]))
theorem dn6 {a b c d e f g : Asn} (h : St w0 w (g :: a :: b :: c :: d :: e :: f :: R)) : St w0 w (a :: b :: c :: d :: e :: f :: g :: R) := h.perm (List.perm_middle (l₁ := [a, b, c, d, e, f])).symm
theorem ack (S : St w0 w R) (cs : Array Value) (e : TypeId) : St w0 (w.alloc (.cells cs e)) (fu w.heap.size cs e :: R) := S.add ((Fr.refl _ w).alloc _) (B := fun x => x = w.heap.size) ⟨by rw [gc, if_pos rfl], rfl⟩ fun x hx => by subst hx; rw [ii]; omega
theorem aoa {s : SV} {d : List Int} (S : St w0 w (jh s.v d :: R)) {K : KV} (h : ∀ w' s', St w0 w' (jj (SV.v s') [d] :: R) → K s'.v w') : bsT P T.j 1 #[(0, s.v)] w K := by
 have hbs : ∀ K', bsT P T.j 1 #[(0, s.v)] w K' = K' (.slice (some ⟨w.heap.size, 0, none⟩) 1 1) (w.alloc (.cells #[s.v] T.d)) := fun K' => by unfold SV.v; simp
 rw [hbs]
 have S2 : St w0 (w.alloc (.cells #[s.v] T.d)) (pd T.d 1 mr (.slice (some ⟨w.heap.size, 0, none⟩) 1 1) [s] :: jh s.v d :: R) := St.abx (l := [s]) S qq rfl (by unfold maxLen; simp)
 have T1 : St w0 (w.alloc (.cells #[s.v] T.d)) (oe (me [s] [d]) :: Eng.jf T.d 1 mr (.slice (some ⟨w.heap.size, 0, none⟩) 1 1) [s] :: R) := St.all.2 S2.off.swap
 exact h _ ⟨some ⟨w.heap.size, 0, none⟩, 1, 1⟩ (ahw (vs := [s]) rfl T1.swap)
theorem arf {ls : List (List Int)} (S : St w0 w (jj lv ls :: R)) : ∃ s : SV, lv = s.v := by
 obtain ⟨a, c, hv⟩ := auf S
 exact ⟨⟨a, _, c⟩, hv⟩
theorem aan {l : List Int} (S : St w0 w (jh v l :: R)) (w' : World) (K : KV) : biT P .len #[T.d] T.a [false] [v] w' K = K (.int .i64 l.length) w' := (S.row ip : SlB w v l).ij (by kernel_rfl) [false]
def bgL (np p hb : Nat) (lv : Value) (no : Int) (rec : List Int) (v : Value) (ps : List Nat) (L : Lg) (D : Dk) (R : List Asn) : List Asn :=
 fu np (qr ⟨no, L.next, [rec], 0⟩ lv) T.ad :: jj lv [rec] :: fu p (lx hb L.ge v) T.y :: Eng.jf T.aa 1 lz v ps :: pp lj ps L.fk :: fy hb D :: R
theorem akx (hl : ps.length = L.fk.length) (hb64 : L.fk.length ≤ 1000000) (S : St w0 w (lj np q :: fu p (lx hb L.ge v) T.y :: Eng.jf T.aa 1 lz v ps :: pp lj ps L.fk :: R)) {Q : World → Prop} (h : ∀ w', St w0 w' (kb p hb { L with fk := L.fk ++ [q] } :: R) → Q w') :
  ld1 P p 2 w fun t87 w => biT P .append #[T.l, T.l] T.l [false, false] [t87, .slice (some ⟨w.heap.size, 0, none⟩) 1 1] (w.alloc (.cells #[.pointer (some ⟨np, 0, none⟩)] T.aa)) fun t90 w => stT P T.l (.pointer (some ⟨p, 2, none⟩)) t90 w fun _ w => Q w := by
 obtain ⟨_, _, c2, _⟩ := ko S.swap.blk
 have S1 := (axr hl S.up3.swap).up2
 simp [c2]
 have S2 : St w0 (w.alloc (.cells #[.pointer (some ⟨np, 0, none⟩)] T.aa)) (pd T.aa 1 lz (.slice (some ⟨w.heap.size, 0, none⟩) 1 1) [np] :: _) := St.abx (l := [np]) S1 qu rfl (by unfold maxLen; simp)
 refine anv et.l qu ayj S2.swap (S2.row qu) (by simp; omega) (by decide) fun w2 v2 S3 => ?_
 have S4 := S3.swap.drop
 obtain ⟨a', cap', hv', _⟩ := (S4.jf qu : Sl w2 1 lz v2 (ps ++ [np]))
 generalize hln : (ps ++ [np]).length = n1 at hv'
 subst hv'
 obtain ⟨_, _, g2, gz⟩ := ko S4.up2.blk
 simp [gz, g2]
 have S5 := zm (cs' := lx hb L.ge (.slice a' n1 cap')) (i := 2) (u := .slice a' n1 cap') S4.up2 rfl
 exact h _ (xd (L := { L with fk := L.fk ++ [q] }) (by simp [hl]) S5)
theorem akp (S : St w0 w (bgL np p hb lv no rec v ps L D R)) (hl : ps.length = L.fk.length) (hb64 : L.fk.length ≤ 1000000) (hrec : rec.length ≤ 8192) (hfs : ∀ w' L', St w0 w' (L' ++ R) → SlB w' fv (gx rec)) {x0 : List Value} {K : KV}
  (h : ∀ w', St w0 w' (kb p hb (L.yk D rec no).1.1 :: fy hb (L.yk D rec no).1.2 :: R) → K (.int .i64 (L.yk D rec no).2) w') : M.aq.j0 (ik np) fv (ik p) x0 w K := by
 unfold bgL at S
 unfold M.aq.j0
 obtain ⟨d0, d1, d2, d3, dz⟩ := jp S.blk
 simp only [ik]
 simp [d1]
 refine ami (qi S) (by simp) _ fun w1 v1 S1 => ?_
 refine aqe S1 (v0 := .slice none 0 0) (l0 := []) (fun _ _ _ => Sl.nil) (fun w' L' S' => (S'.perm List.perm_middle).row ip) (by simp) (by simp [pf]) fun w2 v2 S2 => ?_
 have e : (if 8192 < ([] ++ ke (IntKind.u64.wrap L.next)).length then [] else [] ++ gx ([] ++ ke (IntKind.u64.wrap L.next))) = lf L.next := by
  rw [List.nil_append, List.nil_append, pf, if_neg (by decide)]; rfl
 rw [e] at S2
 simp
 have hF : SlB w2 fv (gx rec) := hfs w2 (jh v2 (lf L.next) :: jh v1 ([] ++ ke (IntKind.u64.wrap L.next)) :: [_, _, _, _, _, _]) S2
 refine amm S2 (S2.row ip) hF (by rw [aek, lb]; omega) fun w3 v3 S3 => ?_
 have S4 := S3.swap.drop.swap.drop
 unfold Lg.yk at h
 have hcl : (lf L.next ++ gx rec).length ≤ 1000000 := by rw [List.length_append, aek, lb]; omega
 generalize lf L.next ++ gx rec = ct at *
 obtain ⟨c0, c1, c2, cz⟩ := ko S4.up3.blk
 obtain ⟨d0, d1, d2, d3, dz⟩ := jp S4.swap.blk
 simp [c0, d0]
 refine ako (up6 (S4.iq ((Fr.refl _ w3).dr 1))) no (l := ct) (fun w' L' S' => (S'.perm List.perm_middle).row ip) (by omega) fun w4 S5 => ?_
 have S6 := dn6 S5
 by_cases hk : (D.append no ct).2 = 0
 ·rw [if_pos hk] at h
  rw [hk]
  simp
  unfold M.aq.j3
  have hlen := fun w' K => aan S6 w' K
  obtain ⟨e0, e1, e2, e3, ez⟩ := jp S6.swap.blk
  simp [hlen, ez, e3]
  have S7 := (zm (cs' := qr ⟨no, L.next, [rec], ct.length⟩ lv) (i := 3) (u := .int .i64 ct.length) S6.swap rfl).swap.drop
  exact akx hl hb64 (ahx S7) h
 ·rw [if_neg hk] at h
  simp [hk]
  exact h w4 (xd hl S6.drop.drop.drop)
end
set_option maxRecDepth 100000
open Go.Eng Go.Proofs.YtfnhoaemapheoaaGreat.Sint
section
variable {w0 w : World} {R : List Asn} {p hb np : Nat} {v lv fv av : Value} {ps : List Nat} {L : Lg} {q : Prt} {D : Dk} {rec : List Int} {no : Int}
theorem awf (hl : ps.length = L.fk.length) (hp : 0 < ps.length) : L.fk.getLast? = some (L.fk[ps.length - 1]'(by omega)) := by rw [abj (by omega)]; simp only [hl]
theorem aph (S : St w0 w (fu p (lx hb L.ge v) T.y :: Eng.jf T.aa 1 lz v ps :: pp lj ps L.fk :: fy hb D :: R)) (hl : ps.length = L.fk.length) (hB : LgB L) (hrec : rec.length ≤ 8192) (hbs : ∀ w' L', St w0 w' (L' ++ R) → SlB w' av rec) (hfs : ∀ w' L', St w0 w' (L' ++ R) → SlB w' fv (gx rec)) {K : KV}
  (h : ∀ w', St w0 w' (kb p hb (L.xu D rec).1.1 :: fy hb (L.xu D rec).1.2 :: R) → K (.int .i64 (L.xu D rec).2) w') : fg P F.dp [ik p, av, fv] w K := by
 rw [M.aq.fcall]
 apply M.aq.calls
 unfold M.aq
 have hfew := hB.few
 refine agp hl S (by omega) fun w1 f1 => ?_
 have S1 := S.iq f1
 refine yd S1 (hbs w1 [_, _, _, _] S1) (by omega) fun w2 v2 S2 => ?_
 obtain ⟨s, rfl⟩ := aex S2
 refine aoa S2 fun w3 s3 S3 => ?_
 simp only [SV.v]
 simp
 have S4 : St w0 _ (bgL w3.heap.size p hb s3.v 0 rec v ps L D R) := ack S3 (qr ⟨0, L.next, [rec], 0⟩ s3.v) T.ad
 generalize hnp : w3.heap.size = np at *
 simp only [qr, SV.v] at S4
 generalize w3.alloc (.cells #[.int .i64 0, .int .i64 L.next, .slice s3.a s3.n s3.c, .int .i64 0] T.ad) = w4 at *
 have S5 : St w0 w4 (fu p (lx hb L.ge v) T.y :: Eng.jf T.aa 1 lz v ps :: fu np (qr ⟨0, L.next, [rec], 0⟩ s3.v) T.ad :: jj s3.v [rec] :: pp lj ps L.fk :: fy hb D :: R) := St.up3 (St.up3 S4)
 refine aau hl S5 (by omega) (fun hz => ?_) fun hp w5 f5 => ?_
 ·simp
  have : L.fk = [] := List.length_eq_zero_iff.1 (by rw [← hl, hz]; rfl)
  unfold Lg.xu at h
  rw [this] at h
  exact akp S4 hl (by omega) hrec hfs h
 ·simp only [ik]
  simp
  have S6 := S5.iq f5
  obtain ⟨c0, c1, c2, cz⟩ := ko S6.blk
  have hlen := fun w' K => wh S6.swap w' K
  have hgl := awf hl hp
  have hj : ps.length - 1 < L.fk.length := by omega
  have hqr := hB.rng _ (List.getElem_mem hj)
  unfold Lg.xu at h
  rw [hgl] at h
  simp only at h
  simp [c2, hlen]
  by_cases h63 : 63 ≤ L.fk.length
  ·have h63i : (63 : Int) ≤ (ps.length : Int) := by omega
   rw [if_pos h63] at h
   simp [h63i]
   exact h w5 (xd hl S6.up2.drop.up2.drop)
  ·have h63i : ¬ (63 : Int) ≤ (ps.length : Int) := by omega
   rw [if_neg h63] at h
   simp [h63i]
   unfold M.aq.j1
   obtain ⟨rv, T1⟩ := sk (um hl hj S6.up4)
   obtain ⟨d0, _⟩ := jp T1.blk
   simp [c0, d0]
   refine arc (up5 (S6.iq ((Fr.refl _ w5).dr 1))) _ fun w6 S7 => ?_
   have S8 := dn5 S7
   generalize hqq : L.fk[ps.length - 1] = q at *
   by_cases hk : (D.lh q.no).2 = 0
   ·rw [if_pos hk] at h
    rw [hk]
    simp
    unfold M.aq.j2
    obtain ⟨rv2, T2⟩ := sk (um hl hj S8.up4)
    rw [hqq] at T2
    obtain ⟨e0, _⟩ := jp T2.blk
    obtain ⟨_, _, _, _, nz⟩ := jp S8.up2.blk
    obtain ⟨n0, _⟩ := jp S8.up2.blk
    have hw : IntKind.i64.wrap (q.no + 1) = q.no + 1 := fm (by omega) (by omega)
    simp [e0, hw, aqj, nz, n0]
    have S9 := zm (cs' := qr ⟨(q.no + 1) % 64, L.next, [rec], 0⟩ s3.v) (i := 0) (u := .int .i64 ((q.no + 1) % 64)) S8.up2 rfl
    have et : (q.no + 1).tmod 64 = (q.no + 1) % 64 := by rw [Int.tmod_eq_emod_of_nonneg (by omega)]
    rw [et]
    exact akp (St.swap S9.up3) hl (by omega) hrec hfs h
   ·rw [if_neg hk] at h
    simp [hk]
    exact h w6 (xd hl S8.up2.drop.up2.drop)
theorem asu {s : SV} {d : List Int} {ls : List (List Int)} (S : St w0 w (jh s.v d :: jj v ls :: R)) (hl : ls.length ≤ 1000000) {cs : List Bool} {ty : TypeId} {K : KV} (h : ∀ w' v', St w0 w' (jj v' (ls ++ [d]) :: R) → K v' w') :
  biT P .append #[T.j, T.j] ty cs [v, .slice (some ⟨w.heap.size, 0, none⟩) 1 1] (w.alloc (.cells #[s.v] T.d)) K := by
 have hbs : ∀ K', bsT P T.j 1 #[(0, s.v)] w K' = K' (.slice (some ⟨w.heap.size, 0, none⟩) 1 1) (w.alloc (.cells #[s.v] T.d)) := fun K' => by unfold SV.v; simp
 have := abe S hl (cs := cs) (ty := ty) h
 rwa [hbs] at this
theorem arj (S : St w0 w (kb p hb L :: fy hb D :: R)) (hB : LgB L) (hrl : rec.length ≤ 1000000) (hbs : ∀ w' L', St w0 w' (L' ++ R) → SlB w' av rec) {K : KV}
  (h : ∀ w', St w0 w' (kb p hb (L.append D rec).1.1 :: fy hb (L.append D rec).1.2 :: R) → K (.int .i64 (L.append D rec).2) w') : fg P F.dh [ik p, av] w K := by
 obtain ⟨v, ps, hl, S1⟩ := agb S
 rw [M.ap.fcall]
 apply M.ap.calls
 unfold M.ap
 have hfew := hB.few
 simp only [ik]
 simp
 unfold M.ap.j0
 refine aqe S1 (v0 := .slice none 0 0) (l0 := []) (fun _ _ _ => Sl.nil) (fun w' L' S' => hbs w' (L' ++ [_, _, _, _]) (by simpa using S')) (by simp) (by omega) fun w2 v2 S2 => ?_
 unfold Lg.append at h
 by_cases hbig : 8192 < rec.length
 ·rw [if_pos hbig] at h
  simp [hbig]
  exact h w2 (xd hl S2.drop)
 ·rw [if_neg hbig, List.nil_append] at S2
  rw [if_neg hbig] at h
  simp [hbig]
  unfold M.ap.j1
  have S3 : St w0 w2 (fu p (lx hb L.ge v) T.y :: Eng.jf T.aa 1 lz v ps :: pp lj ps L.fk :: fy hb D :: jh v2 (gx rec) :: R) := S2.dn4
  have hbs3 : ∀ w' L', St w0 w' (L' ++ jh v2 (gx rec) :: R) → SlB w' av rec := fun w' L' S' => hbs w' (L' ++ [jh v2 (gx rec)]) (by simpa using S')
  have hfs3 : ∀ w' L', St w0 w' (L' ++ jh v2 (gx rec) :: R) → SlB w' v2 (gx rec) := fun w' L' S' => (S'.perm List.perm_middle).row ip
  refine aau hl S3 (by omega) (fun hz => ?_) fun hp w3 f3 => ?_
  ·have : L.fk = [] := List.length_eq_zero_iff.1 (by rw [← hl, hz]; rfl)
   rw [this] at h
   simp
   exact aph (S3.iq ((Fr.refl _ w2).dr 1)) hl hB (by omega) hbs3 hfs3 fun w4 S4 => h w4 S4.up2.drop
  ·simp only [ik]
   have S4 := S3.iq f3
   have hgl := awf hl hp
   have hj : ps.length - 1 < L.fk.length := by omega
   have hqs := hB.size _ (List.getElem_mem hj)
   have hqr := hB.fq _ (List.getElem_mem hj)
   rw [hgl] at h
   simp only at h
   obtain ⟨c0, c1, c2, cz⟩ := ko S4.blk
   obtain ⟨rv, T1⟩ := sk (um hl hj S4.up2)
   obtain ⟨d0, d1, d2, d3, dz⟩ := jp T1.blk
   simp [c1, d3]
   by_cases hm : L.ge ≤ L.fk[ps.length - 1].size
   ·rw [if_pos hm] at h
    simp [hm]
    exact aph (S4.iq ((Fr.refl _ w3).dr 1)) hl hB (by omega) hbs3 hfs3 fun w4 S5 => h w4 S5.up2.drop
   ·rw [if_neg hm] at h
    simp [hm]
    unfold M.ap.j2
    simp [c0, d0]
    refine ako (S4.iq (((Fr.refl _ w3).dr 1).dr 1)).up3 _ (fun w' L' S' => hfs3 w' (L' ++ [_, _, _]) (by simpa using S')) (by rw [lb]; omega) fun w4 S5 => ?_
    have S6 := S5.dn3
    generalize hqq : L.fk[ps.length - 1] = q at *
    by_cases hk : (D.append q.no (gx rec)).2 = 0
    ·rw [if_pos hk] at h
     rw [hk]
     simp
     unfold M.ap.j3
     obtain ⟨rv2, T2⟩ := sk (um hl hj S6.up2)
     rw [hqq] at T2
     obtain ⟨e0, e1, e2, e3, ez⟩ := jp T2.blk
     have hlen := fun w' K => aan (v := v2) (l := gx rec) (T2.perm (List.perm_middle (l₁ := [_, _, _, _, _, _]))) w' K
     simp [e2, e3, hlen]
     have hbs4 : SlB (dr w4 1) av rec := hbs3 _ (fu ps[ps.length - 1] (qr q rv2) T.ad :: jj rv2 q.fq :: ahh lj ps L.fk (ps.length - 1) :: fu p (lx hb L.ge v) T.y :: Eng.jf T.aa 1 lz v ps :: [fy hb (D.append q.no (gx rec)).1]) (T2.iq ((Fr.refl _ w4).dr 1))
     refine yd (T2.iq ((Fr.refl _ w4).dr 1)) hbs4 (by omega) fun w5 v5 T3 => ?_
     obtain ⟨s, rfl⟩ := aex T3
     obtain ⟨_, _, e2, e3, _⟩ := jp T3.swap.blk
     have T4 := T3.iq ((Fr.refl _ w5).alloc (.cells #[s.v] T.d))
     obtain ⟨_, _, g2, g3, _⟩ := jp T4.swap.blk
     refine ⟨by simp [e3], by simp [e2], ?_⟩
     have hbs5 : ∀ K', bsT P T.j 1 #[(0, s.v)] w5 K' = K' (.slice (some ⟨w5.heap.size, 0, none⟩) 1 1) (w5.alloc (.cells #[s.v] T.d)) := fun K' => by unfold SV.v; simp
     rw [hbs5]
     refine ⟨by simp [g3], by simp [g2], ?_⟩
     refine asu (T3.perm (.cons _ (.swap _ _ _))) (by omega) fun w6 v6 T5 => ?_
     obtain ⟨s6, rfl⟩ := arf T5
     obtain ⟨_, _, m2, m3, mz⟩ := jp T5.swap.blk
     refine ⟨by simp [m3], ?_⟩
     have T6 := zm (cs' := qr { q with fq := q.fq ++ [rec] } s6.v) (i := 2) (u := s6.v) T5.swap rfl
     obtain ⟨_, _, n2, n3, nz⟩ := jp T6.blk
     have T7 := zm (cs' := qr (q.qe rec) s6.v) (i := 3) (u := .int .i64 (q.size + (gx rec).length)) T6 rfl
     have hw : IntKind.i64.wrap (q.size + ((gx rec).length : Int)) = q.size + (gx rec).length := fm (by omega) (by rw [lb]; omega)
     simp only [SV.v] at *
     simp [hw, m2, mz, n3, nz]
     have T8 := aqn hl hj (ahx (q := q.qe rec) T7)
     have hl' : ps.length = (L.fk.set (ps.length - 1) (q.qe rec)).length := by simpa using hl
     have T9 := xd (L := { L with fk := L.fk.set (ps.length - 1) (q.qe rec) }) hl' T8.dn2
     have hl3 : L.fk.length - 1 = ps.length - 1 := by omega
     rw [hl3] at h
     exact h _ T9.up2.drop
    ·rw [if_neg hk] at h
     simp [hk]
     exact h w4 (xd hl S6).up2.drop
end
end Go.Proofs.YtfnhoaemapheoaaGreat
