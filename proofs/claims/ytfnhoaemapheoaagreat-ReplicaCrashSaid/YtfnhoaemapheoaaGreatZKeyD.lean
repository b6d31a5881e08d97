/-
  slices.Sorted(maps.Keys(m)) at the map type map_int_p_disk_file. No condition.
-/
import Derived.Test.YtfnhoaemapheoaaGreatZSpn0
import Derived.Test.YtfnhoaemapheoaaGreatZEngSl
set_option maxRecDepth 100000
namespace Go.Proofs.YtfnhoaemapheoaaGreat.KeyD
open Go.Eng Go.Sort Go.Proofs.YtfnhoaemapheoaaGreat.Sint
def KI (w W : World) (U : Nat → Prop) (r : Nat) (m : MP) (J : List Int → Asn) : KL := fun x w1 => ∃ (done : List Int) (U1 : Nat → Prop), x.length = 1 ∧ ye w1 W.heap.size r .i64 m done ∧ (J done.reverse).ok w1 U1 ∧ (∀ b, U1 b → w.heap.size ≤ b ∧ b < w1.heap.size ∧ b ≠ W.heap.size) ∧ Fr (fun b => w.heap.size ≤ b) W w1
theorem abi {w : World} {it r : Nat} {k : IntKind} {m : MP} {done : List Int} (h : ye w it r k m done) : done.Nodup ∧ ∀ x ∈ done, x ∈ jg m := by
 obtain ⟨es, clk, since, c0, im, _, _, _, _, _, _, _, _, _, h1, h2⟩ := h
 exact ⟨h1, h2⟩
theorem aiw {w : World} {r Bm : Nat} {m : MP} {e : TypeId} (hm : ph w r .i64 m) (hn : (jg m).Nodup) (hB : w.heap[Bm]? = some (.cells #[.map (some r)] e (0, 0))) (hl : m.length < 60000) :
  ail P F.b [.pointer (some ⟨Bm, 0, none⟩)] abr (fun xs => xs.Perm (jg m)) 60000 w := by
 intro l J W U K hf hJ hU hround hend
 apply M.ah.calls
 unfold M.ah
 have hBm : W.heap[Bm]? = some (.cells #[.map (some r)] e (0, 0)) := hf.heap hB fun h => h
 have c0 := fy hBm 0
 simp only [List.size_toArray, List.getElem?_toArray, List.getElem?_cons_zero] at c0
 have hm' : ph W r .i64 m := hm.yz (hf.jj r hm.lt fun h => h)
 have hrw := hm.lt
 simp [c0]
 refine axp mt.t hm' fun w1 hi f1 => ?_
 have hWs := hf.size
 have hWlt := (hi.lt).1
 refine ⟨KI w W U r m J, fun _ w1 => vh w1 W.heap.size m.length, ⟨[], U, rfl, hi, (J []).jj hJ f1 fun _ _ h => h, fun b hb => ?_, f1.mono fun _ _ h => h.elim⟩, ?_⟩
 ·have := hU b hb
  have := f1.size
  exact ⟨by omega, by omega, by omega⟩
 rintro x w2 ⟨done, U1, hx1, hi2, hJ2, hU2, f2⟩
 unfold M.ah.j0
 refine ays hi2 hn T.bg (fun hall => ?_) fun y v w3 hy hyd hc3 f3 hlt => ?_
 ·have e0 : ∀ w K, exT P (.tuple #[.bool false]) 0 w K = K (.bool false) w := fun _ _ => rfl
  simp [e0]
  obtain ⟨h1, h2⟩ := abi hi2
  refine hend _ w2 done.reverse U1 ?_ hJ2 f2
  refine (List.reverse_perm done).trans ?_
  refine (List.perm_ext_iff_of_nodup h1 hn).2 fun z => ⟨h2 z, fun hz => ?_⟩
  obtain ⟨p, hp, rfl⟩ := List.mem_map.1 hz
  exact hall p hp
 ·simp
  rw [axh hc3]
  simp
  have hnit : ∀ b, U1 b → ¬ b = W.heap.size := fun b hb => (hU2 b hb).2.2
  have hJ3 := (J done.reverse).jj hJ2 f3 hnit
  have hlen : done.length < m.length := by
   obtain ⟨h1, h2⟩ := abi hi2
   have := uh (l := y :: done) (l' := jg m) (List.nodup_cons.2 ⟨hyd, h1⟩) fun z hz => by
    rcases List.mem_cons.1 hz with rfl | hz
    ·exact List.mem_map_of_mem hy
    ·exact h2 z hz
   simp only [jg, List.length_map, List.length_cons] at this
   omega
  have hs3 := f3.size
  refine hround done.reverse y w3 U1 _ hJ3 (fun b hb => ⟨(hU2 b hb).1, by have := (hU2 b hb).2.1; omega⟩) (by simp; omega) fun w4 U4 hJ4 hU4 f4 => ?_
  simp
  have hit : ¬ U1 W.heap.size := fun h => hnit _ h rfl
  have hr1 : ¬ U1 r := fun h => by have := (hU2 r h).1; omega
  have hi3 : ye w3 W.heap.size r .i64 m (y :: done) := hc3.1
  have hi4 := hi3.jj (f4.jj _ hi3.lt.1 hit) (f4.jj _ hi3.lt.2 hr1)
  refine ⟨⟨y :: done, U4, rfl, hi4, by simpa using hJ4, fun b hb => ?_, ?_⟩, ?_⟩
  ·rcases hU4 b hb with h | h
   ·have := hU2 b h
    have := f4.size
    exact ⟨by omega, by omega, by omega⟩
   ·have := hi3.lt.1
    have := f2.size
    exact ⟨by omega, by omega, by omega⟩
  ·refine (f2.jq f3 fun b hb he => by omega).jq f4 fun b hb he => (hU2 b he).1
  ·have : vh w4 W.heap.size m.length = vh w3 W.heap.size m.length := by
    unfold vh
    rw [f4.jj _ hi3.lt.1 hit]
   rw [this]; exact hlt
theorem alw {w : World} {r : Nat} {m : MP} (hm : ph w r .i64 m) (hn : (jg m).Nodup) (hl : m.length < 60000) {K : KV}
  (h : ∀ w' v, OwN w' w.heap.size v (oe (jg m)) → Fr (fun _ => False) w w' → K v w') :
  fk P F.l [.map (some r)] w fun t w => fk P F.bo [t] w K := by
 rw [M.au.fcall]
 apply M.au.calls
 unfold M.au
 rw [wo, arf]
 show fk P F.bo _ _ K
 rw [M.dr.fcall]
 have f1 : Fr (fun _ => False) w (w.alloc (.cells #[.map (some r)] T.t)) := (Fr.refl _ w).alloc _
 have hB : (w.alloc (.cells #[.map (some r)] T.t)).heap[w.heap.size]? = some (.cells #[.map (some r)] T.t (0, 0)) := by rw [gm, if_pos rfl]
 have hsz : w.heap.size ≤ (w.alloc (.cells #[.map (some r)] T.t)).heap.size := by simp
 refine aha (ks := jg m) FN.b.at (by kernel_rfl) (by kernel_rfl) (by simpa [jg] using hl) (aiw (hm.yz (f1.jj r hm.lt fun h => h)) hn hB hl) fun w2 v o2 f2 => ?_
 exact h w2 v (o2.mono hsz) (f1.trans f2)
end Go.Proofs.YtfnhoaemapheoaaGreat.KeyD
set_option maxRecDepth 100000
namespace Go.Proofs.YtfnhoaemapheoaaGreat
open Go.Eng Go.Proofs.YtfnhoaemapheoaaGreat.Sint
structure Fil where
 n : Int
 jl : List Int
 il : List Int
structure Dk where
 ie : Int
 left : Int
 ir : Bool
 gr : Bool
 fs : List Fil
structure FE where
 n : Int
 p : Nat
 fv : Value
 lv : Value
 jl : List Int
 il : List Int
def FE.abs (e : FE) : Fil := ⟨e.n, e.jl, e.il⟩
def FE.ptr (e : FE) : Value := .pointer (some ⟨e.p, 0, none⟩)
def Fil.len (f : Fil) : Nat := f.jl.length + f.il.length
def Dk.ib (D : Dk) : Nat := (D.fs.map Fil.len).sum
abbrev jt (v : Value) (l : List Int) : Asn := uf T.an 1 ael v l
abbrev SlB (w : World) (v : Value) (l : List Int) : Prop := Sl w 1 ael v l
def bhm (e : FE) : List Asn := [gc e.p #[e.fv, e.lv] T.aj, jt e.fv e.jl, jt e.lv e.il]
def xc (e : FE) : Asn := pu (bhm e)
def avn (hb r : Nat) (D : Dk) : Asn := gc hb #[.int .i64 D.ie, .map (some r), .int .i64 D.left, .bool D.ir, .bool D.gr] T.ah
structure mr (m : MP) (es : List FE) (D : Dk) : Prop where
 fs : D.fs = es.map FE.abs
 ml : m.length = es.length
 mg : ∀ e ∈ es, ly m e.n = some e.ptr
 mz : ∀ k, (∀ e ∈ es, e.n ≠ k) → ly m k = none
 tn : (es.map FE.n).Nodup
 kp : (jg m).Perm (es.map FE.n)
 ie : D.ie ≤ 1048576
 ib : (D.ib : Int) ≤ D.ie
 rng : ∀ e ∈ es, 0 ≤ e.n ∧ e.n < 64
 arm : D.ir = true → 0 ≤ D.left ∧ D.left < 9223372036854775808
def lq (hb r : Nat) (m : MP) (es : List FE) (D : Dk) : List Asn := avn hb r D :: ku r .i64 m :: es.map xc
def gk (hb : Nat) (D : Dk) : Asn where
 ok w B := ∃ r m es, mr m es D ∧ Rs (lq hb r m es D) w B
 jj := by
  rintro w w' B S ⟨r, m, es, h1, h2⟩ hf hn
  exact ⟨r, m, es, h1, h2.jj hf hn⟩
section
variable {w0 w : World} {hb r : Nat} {m : MP} {es : List FE} {D : Dk} {R : List Asn} {e : FE}
theorem xj (S : St w0 w (gk hb D :: R)) : ∃ r m es, mr m es D ∧ St w0 w (lq hb r m es D ++ R) := by
 obtain ⟨B, ⟨r, m, es, h1, h2⟩, _, cl⟩ := S.open
 exact ⟨r, m, es, h1, cl w _ (Fr.refl _ _) (h2.mono fun b hb => .inl hb)⟩
theorem yv (h : mr m es D) (S : St w0 w (lq hb r m es D ++ R)) : St w0 w (gk hb D :: R) := by
 obtain ⟨U, h1, _, g⟩ := S.aau
 exact g w [gk hb D] (Fr.refl _ _) ⟨U, ⟨r, m, es, h, h1⟩, fun b hb => .inl hb, trivial⟩
theorem nu (hb r : Nat) (m : MP) (a b : List FE) (e : FE) (D : Dk) (R : List Asn) : (lq hb r m (a ++ e :: b) D ++ R).Perm (xc e :: (lq hb r m (a ++ b) D ++ R)) := by
 unfold lq
 simp only [List.map_append, List.map_cons, List.cons_append, List.append_assoc]
 refine (List.Perm.cons _ (List.Perm.cons _ ?_)).trans ((List.Perm.cons _ (.swap _ _ _)).trans (.swap _ _ _))
 exact List.perm_middle
theorem wu (S : St w0 w (xc e :: R)) : St w0 w (gc e.p #[e.fv, e.lv] T.aj :: jt e.fv e.jl :: jt e.lv e.il :: R) := St.all.1 S
theorem aqq (S : St w0 w (gc e.p #[e.fv, e.lv] T.aj :: jt e.fv e.jl :: jt e.lv e.il :: R)) : St w0 w (xc e :: R) := St.all.2 S
theorem rz (S : St w0 w (lq hb r m es D ++ R)) : w.heap[hb]? = some (.cells #[.int .i64 D.ie, .map (some r), .int .i64 D.left, .bool D.ir, .bool D.gr] T.ah (0, 0)) := St.blk S
theorem afc (S : St w0 w (lq hb r m es D ++ R)) : ph w r .i64 m ∧ (jg m).Nodup := by
 obtain ⟨B, h1, _⟩ := (St.swap S).open
 exact h1.1
theorem ol (h : w.heap[hb]? = some (.cells #[.int .i64 D.ie, .map (some r), .int .i64 D.left, .bool D.ir, .bool D.gr] T.ah (0, 0))) :
  fx w hb 0 = some (.int .i64 D.ie) ∧ fx w hb 1 = some (.map (some r)) ∧ fx w hb 2 = some (.int .i64 D.left) ∧ fx w hb 3 = some (.bool D.ir) ∧ fx w hb 4 = some (.bool D.gr) ∧ ∀ i, pm w hb i = false :=
 ⟨by rw [fy h]; rfl, by rw [fy h]; rfl, by rw [fy h]; rfl, by rw [fy h]; rfl, by rw [fy h]; rfl, mj h⟩
theorem mr.bfj (h : mr m es D) (k : Int) : (ly m k = none ∧ ∀ e ∈ es, e.n ≠ k) ∨ ∃ a e b, es = a ++ e :: b ∧ e.n = k ∧ ly m k = some e.ptr := by
 by_cases hx : ∃ e ∈ es, e.n = k
 ·obtain ⟨e, he, rfl⟩ := hx
  obtain ⟨a, b, hab⟩ := List.append_of_mem he
  exact .inr ⟨a, e, b, hab, rfl, h.mg e he⟩
 ·exact .inl ⟨h.mz k fun e he hk => hx ⟨e, he, hk⟩, fun e he hk => hx ⟨e, he, hk⟩⟩
theorem aon (hh : w.heap[hb]? = some (.cells #[.int .i64 D.ie, .map (some r), .int .i64 D.left, .bool D.ir, .bool D.gr] T.ah (0, 0))) {K : KV} (h : K (.int .i64 (if D.gr then 10 else 0)) w) : fk P F.bf [.pointer (some ⟨hb, 0, none⟩)] w K := by
 rw [M.dx.fcall]
 apply M.dx.calls
 unfold M.dx
 obtain ⟨_, _, _, _, c4, _⟩ := ol hh
 cases hd : D.gr with
 | true => rw [hd] at h c4; simp [c4]; simpa using h
 | false => rw [hd] at h c4; simp [c4]; simpa using h
theorem aho (hk : mr m es D) (S : St w0 w (lq hb r m es D ++ R)) (k : Int) {K : KV} (h0 : D.gr = true → K (.tuple #[.pointer none, .int .i64 10]) w) (h1 : D.gr = false → (∀ e ∈ es, e.n ≠ k) → K (.tuple #[.pointer none, .int .i64 11]) w)
  (h2 : D.gr = false → ∀ a e b, es = a ++ e :: b → e.n = k → K (.tuple #[e.ptr, .int .i64 0]) w) : fk P F.bl [.pointer (some ⟨hb, 0, none⟩), .int .i64 k] w K := by
 rw [M.dc.fcall]
 apply M.dc.calls
 unfold M.dc
 rw [fo]
 refine aon (rz S) ?_
 obtain ⟨_, c1, _, _, c4, _⟩ := ol (rz S)
 cases hd : D.gr with
 | true => simp; exact h0 hd
 | false =>
  simp
  unfold M.dc.j0
  simp [c1]
  rw [aan mt.t (afc S).1]
  rcases hk.bfj k with ⟨hn, hall⟩ | ⟨a, e, b, he, hek, hg⟩
  ·rw [hn]
   simp
   exact h1 hd hall
  ·rw [hg]
   simp [FE.ptr]
   exact h2 hd a e b he hek
theorem ari (S : St w0 w (xc e :: R)) (hl : e.jl.length + e.il.length ≤ 10000000) {K : KV} (h : ∀ w' v, St w0 w' (jt v (e.jl ++ e.il) :: xc e :: R) → K v w') : fk P F.cg [e.ptr] w K := by
 rw [M.ei.fcall]
 apply M.ei.calls
 unfold M.ei
 have hb := (wu S).blk
 have c0 : fx w e.p 0 = some e.fv := by rw [fy hb]; rfl
 have c1 : fx w e.p 1 = some e.lv := by rw [fy hb]; rfl
 have s1 : SlB w e.fv e.jl := (wu S).swap.row je
 have s2 : SlB w e.lv e.il := (wu S).aal.row je
 obtain ⟨a1, k1, hv1, _⟩ := id s1
 obtain ⟨a2, k2, hv2, _⟩ := id s2
 rw [hv1] at c0
 rw [hv2] at c1
 simp [FE.ptr, c0, c1]
 rw [← hv1, ← hv2]
 have hcell : w.heap.size < (Eng.dr w 1).heap.size + 1 := by simp
 have hn : ((Eng.dr w 1).alloc (.cells #[e.fv, e.lv] T.e)).heap[w.heap.size]? = some (.cells (([(e.fv, e.jl), (e.lv, e.il)] : List (Value × List Int)).map (·.1)).toArray T.e (0, 0)) := by
  rw [gm, if_pos (by simp)]; rfl
 have f1 : Fr (fun _ => False) w ((Eng.dr w 1).alloc (.cells #[e.fv, e.lv] T.e)) := ((Fr.refl _ w).dr 1).alloc _
 rw [M.v.fcall]
 refine CB.zt (L := [(e.fv, e.jl), (e.lv, e.il)]) hn (fun p hp => ?_) (by simp [CB.tot]; omega) (by simp) fun w' v o f2 => ?_
 ·simp at hp
  rcases hp with rfl | rfl
  ·exact s1.fr f1 fun _ _ _ h => h
  ·exact s2.fr f1 fun _ _ _ h => h
 ·have hs : w.heap.size ≤ ((Eng.dr w 1).alloc (.cells #[e.fv, e.lv] T.e)).heap.size := f1.size
  refine h w' v (S.add (a := jt v (e.jl ++ e.il)) (f1.trans f2) (B := fun b => v.ownBlock = some b) ⟨?_, fun b hb => hb⟩ fun b hb => ?_)
  ·simpa using o.mono (Nat.zero_le _)
  ·have := o.lt hb
   exact ⟨by omega, this.2⟩
end
set_option maxRecDepth 100000
open Go.Eng Go.Proofs.YtfnhoaemapheoaaGreat.Sint
def Dk.get (D : Dk) (k : Int) : Option Fil := D.fs.find? fun f => decide (f.n = k)
def Dk.pk (D : Dk) : List Int := D.fs.map Fil.n
def Dk.ig (D : Dk) : List Int := oe D.pk
abbrev qk (v : Value) (l : List Int) : Asn := uf T.b 1 qm v l
theorem uy (x : Int) : (qm x).length = 1 := rfl
section
variable {w0 w : World} {hb r : Nat} {m : MP} {es a b : List FE} {D : Dk} {R : List Asn} {e e' : FE}
theorem mr.pk (h : mr m es D) : D.pk = es.map FE.n := by
 unfold Dk.pk
 rw [h.fs, List.map_map]; rfl
theorem mr.nd (h : mr m es D) : (jg m).Nodup := h.kp.nodup_iff.2 h.tn
theorem mr.few (h : mr m es D) : es.length ≤ 64 := by
 have := uh (l := es.map FE.n) (l' := (List.range 64).map Int.ofNat) h.tn fun x hx => by
  obtain ⟨e, he, rfl⟩ := List.mem_map.1 hx
  have := h.rng e he
  exact List.mem_map.2 ⟨e.n.toNat, List.mem_range.2 (by omega), by simp; omega⟩
 simpa using this
theorem mr.vj (h : mr m (a ++ e :: b) D) : D.get e.n = some e.abs := by
 unfold Dk.get
 rw [h.fs]
 have hn := h.tn
 rw [List.map_append, List.map_cons, List.nodup_append] at hn
 rw [List.map_append, List.find?_append]
 have : (a.map FE.abs).find? (fun f => decide (f.n = e.n)) = none := by
  rw [List.find?_eq_none]
  intro f hf
  obtain ⟨x, hx, rfl⟩ := List.mem_map.1 hf
  have := hn.2.2 x.n (List.mem_map_of_mem hx) e.n (List.mem_cons_self ..)
  simp [FE.abs]
  exact decide_eq_false this
 rw [this]
 simp [FE.abs]
theorem mr.abn (h : mr m es D) {k : Int} (hk : ∀ e ∈ es, e.n ≠ k) : D.get k = none := by
 unfold Dk.get
 rw [h.fs, List.find?_eq_none]
 intro f hf
 obtain ⟨x, hx, rfl⟩ := List.mem_map.1 hf
 simp [FE.abs]
 exact decide_eq_false (hk x hx)
theorem awk (S : St w0 w (lq hb r m (a ++ e :: b) D ++ R)) : w.heap[e.p]? = some (.cells #[e.fv, e.lv] T.aj (0, 0)) ∧ SlB w e.fv e.jl ∧ SlB w e.lv e.il := by
 have S' := wu (S.perm (nu hb r m a b e D R))
 exact ⟨S'.blk, S'.swap.row je, S'.aal.row je⟩
theorem asp (S : St w0 w R) (ie : Int) {K : KV} (h0 : (ie < 1 ∨ 1048576 < ie) → K (.tuple #[.pointer none, .int .i64 1]) w)
  (h1 : 1 ≤ ie → ie ≤ 1048576 → ∀ w' hb, St w0 w' (gk hb ⟨ie, 0, false, false, []⟩ :: R) → K (.tuple #[.pointer (some ⟨hb, 0, none⟩), .int .i64 0]) w') : fk P F.ew [.int .i64 ie] w K := by
 rw [M.fc.fcall]
 apply M.fc.calls
 unfold M.fc
 by_cases hx : ie < 1
 ·simp [hx]; exact h0 (.inl hx)
 by_cases hy : 1048576 < ie
 ·simp [hx, hy]; exact h0 (.inr hy)
 simp [hx, hy]
 rw [aox]
 simp
 have hm := ahc w .i64
 refine h1 (by omega) (by omega) _ (w.heap.size + 1) (yv (m := []) (es := []) (r := w.heap.size) ⟨rfl, rfl, fun e he => by (cases he), fun _ _ => rfl, by simp, by simp [jg], by (show ie ≤ 1048576; omega), by (show ((0 : Nat) : Int) ≤ ie; omega), fun e he => by (cases he), fun h => by (cases h)⟩ ?_)
 have f : Fr (fun _ => False) w ((w.alloc (.map #[] 0)).alloc (.cells #[.int .i64 ie, .map (some w.heap.size), .int .i64 0, .bool false, .bool false] T.ah)) := ((Fr.refl _ w).alloc _).alloc _
 obtain ⟨U, _, _, g⟩ := S.aau (L := [])
 refine g _ (lq (w.heap.size + 1) w.heap.size [] [] ⟨ie, 0, false, false, []⟩) (f.mono fun _ _ h => h.elim) ⟨fun b => b = w.heap.size + 1, ⟨?_, rfl⟩, fun b hb => .inr (by simp at hb ⊢; omega), fun b => b = w.heap.size, ⟨⟨hm.yz (by rw [gm, if_neg (by simp)]), by simp [jg]⟩, rfl⟩, fun b hb => ⟨.inr (by simp at hb ⊢; omega), by simp at hb ⊢; omega⟩, trivial⟩
 rw [gm, if_pos (by simp)]
theorem ajk (hk : mr m es D) (S : St w0 w (lq hb r m es D ++ R)) {K : KV} (h : ∀ w' v, St w0 w' (qk v D.ig :: (lq hb r m es D ++ R)) → K v w') : fk P F.be [.pointer (some ⟨hb, 0, none⟩)] w K := by
 rw [M.dw.fcall]
 apply M.dw.calls
 unfold M.dw
 obtain ⟨_, c1, _⟩ := ol (rz S)
 simp [c1]
 have hf := hk.few
 refine KeyD.alw (afc S).1 hk.nd (by rw [hk.ml]; omega) fun w' v o f => ?_
 have hd : oe (jg m) = D.ig := by
  unfold Dk.ig
  rw [hk.pk]
  exact vp hk.kp
 rw [hd] at o
 refine h w' v (S.add (a := qk v D.ig) f (B := fun b => v.ownBlock = some b) ⟨o.mono (Nat.zero_le _), fun b hb => hb⟩ fun b hb => ⟨(o.lt hb).1, (o.lt hb).2⟩)
def lenOf (D : Dk) (k : Int) : Nat := ((D.get k).map Fil.len).getD 0
theorem baf {l l' : List Nat} (h : l.Perm l') : l.sum = l'.sum := by
 induction h with
 | nil => rfl
 | cons x _ ih => simp [ih]
 | swap x y l => simp; omega
 | trans _ _ h1 h2 => exact h1.trans h2
theorem bcj (hk : mr m es D) : (D.ig.map (lenOf D)).sum = D.ib := by
 have h1 : (D.ig.map (lenOf D)).Perm (D.pk.map (lenOf D)) := (nw _).map _
 rw [baf h1]
 unfold Dk.ib Dk.pk
 rw [List.map_map]
 congr 1
 apply List.map_congr_left
 intro f hf
 rw [hk.fs] at hf
 obtain ⟨x, hx, rfl⟩ := List.mem_map.1 hf
 obtain ⟨a, b, hab⟩ := List.append_of_mem hx
 subst hab
 show lenOf D x.n = x.abs.len
 unfold lenOf
 rw [hk.vj]; rfl
theorem afa {l : List Nat} {x : Nat} (h : x ∈ l) : x ≤ l.sum := by
 induction l with
 | nil => cases h
 | cons y l ih =>
  rcases List.mem_cons.1 h with rfl | h
  ·simp
  ·have := ih h; simp; omega
def act (D : Dk) (i : Nat) : Nat := ((D.ig.take i).map (lenOf D)).sum
def UsI (w0 : World) (hb r : Nat) (m : MP) (es : List FE) (D : Dk) (R : List Asn) (v : Value) : KL := fun x w1 => ∃ (u : Value) (i : Nat), x = [u, .int .i64 (act D i : Nat), .int .i64 (i : Nat)] ∧ i ≤ D.ig.length ∧ St w0 w1 (qk v D.ig :: (lq hb r m es D ++ R))
theorem bet (hk : mr m es D) (S : St w0 w (lq hb r m es D ++ R)) {K : KV} (h : ∀ w', St w0 w' (lq hb r m es D ++ R) → K (.int .i64 (D.ib : Nat)) w') : fk P F.ec [.pointer (some ⟨hb, 0, none⟩)] w K := by
 rw [M.dd.fcall]
 apply M.dd.calls
 unfold M.dd
 rw [fo]
 refine ajk hk S fun w1 v S1 => ?_
 have hsl : ∀ {w}, St w0 w (qk v D.ig :: (lq hb r m es D ++ R)) → Sl w 1 qm v D.ig := fun S => S.row uy
 rw [(hsl S1).ip (by simp)]
 refine ⟨UsI w0 hb r m es D R v, fun x _ => D.ig.length - ms x 2, ⟨_, 0, rfl, Nat.zero_le _, S1⟩, ?_⟩
 rintro x w2 ⟨u, i, rfl, hi, S2⟩
 have q0 : ∀ a b c : Value, gv [a, b, c] 0 = a := fun _ _ _ => rfl
 have q1 : ∀ a b c : Value, gv [a, b, c] 1 = b := fun _ _ _ => rfl
 have q2 : ∀ a b c : Value, gv [a, b, c] 2 = c := fun _ _ _ => rfl
 have q4 : ∀ a b c d e : Value, gv [a, b, c, d, e] 4 = e := fun _ _ _ _ _ => rfl
 have hus := bcj hk
 have hu := hk.ib
 have hr := hk.ie
 have hfl : D.ig.length = es.length := by unfold Dk.ig; rw [(nw _).length_eq, hk.pk, List.length_map]
 have hfew := hk.few
 simp only [q0, q1, q2, kf, fo]
 by_cases hil : i < D.ig.length
 ·have hil' : (i : Int) < D.ig.length := by omega
  simp only [hil', decide_true, Eng.cond_true]
  unfold M.dd.j2
  obtain ⟨bb, o, cap, hv, hbb, _, hc⟩ := (hsl S2).at hil
  have c0 := hc 0 _ rfl
  simp only [Nat.mul_one, Nat.add_zero] at c0
  have hmem : D.ig[i] ∈ D.ig := List.getElem_mem hil
  have htk : act D (i + 1) = act D i + lenOf D D.ig[i] := by
   unfold act
   rw [List.take_succ_eq_append_getElem hil, List.map_append, List.sum_append]; simp
  have htot : act D (i + 1) ≤ D.ib := by
   rw [← hus]
   unfold act
   conv => rhs; rw [← List.take_append_drop (i + 1) D.ig, List.map_append, List.sum_append]
   omega
  generalize hki : D.ig[i] = k at *
  have hmem' : k ∈ es.map FE.n := by
   rw [← hk.pk]; exact (nw _).mem_iff.1 hmem
  obtain ⟨e, he, hek⟩ := List.mem_map.1 hmem'
  obtain ⟨a, b, hab⟩ := List.append_of_mem he
  subst hab
  obtain ⟨hbk, s1, s2⟩ := awk (a := a) (e := e) (b := b) S2.drop
  obtain ⟨_, c1, _⟩ := ol (rz S2.drop)
  have hg := hk.mg e (by simp)
  have d0 : fx w2 e.p 0 = some e.fv := by rw [fy hbk]; rfl
  have d1 : fx w2 e.p 1 = some e.lv := by rw [fy hbk]; rfl
  obtain ⟨a1, k1, hv1, _⟩ := s1
  obtain ⟨a2, k2, hv2, _⟩ := s2
  rw [hv1] at d0
  rw [hv2] at d1
  have hlu : ∀ K, luT P T.t (.map (some r)) (.int .i64 k) false (Eng.dr w2 1) K = K (.pointer (some ⟨e.p, 0, none⟩)) (Eng.dr w2 1) := fun K => by
   rw [aan mt.t (ph.yz (w' := Eng.dr w2 1) (afc S2.drop).1 rfl), ← hek, hg]; rfl
  have hlen : lenOf D k = e.jl.length + e.il.length := by
   unfold lenOf
   rw [← hek, hk.vj]; rfl
  have hw1 : IntKind.i64.wrap ((e.jl.length : Int) + (e.il.length : Int)) = ((e.jl.length + e.il.length : Nat) : Int) := by rw [ft (by omega) (by omega)]; omega
  have hw2 : IntKind.i64.wrap ((act D i : Int) + ((e.jl.length + e.il.length : Nat) : Int)) = ((act D (i + 1) : Nat) : Int) := by
   rw [ft (by omega) (by omega)]; omega
  have hwi : IntKind.i64.wrap ((i : Int) + 1) = ((i + 1 : Nat) : Int) := by rw [ft (by omega) (by omega)]; rfl
  rw [hv]
  simp [q0, q1, q2, hil, c0, c1, hlu, d0, d1, hw1, hw2, hwi, -Int.natCast_add]
  rw [← hv]
  refine ⟨⟨_, i + 1, rfl, by omega, S2.iu ((Fr.refl _ w2).dr 1)⟩, ?_⟩
  simp only [ms, q2]
  simp; omega
 ·have hil' : ¬ (i : Int) < D.ig.length := by omega
  simp only [hil', decide_false, Eng.cond_false, q4]
  have : act D i = D.ib := by
   unfold act
   rw [List.take_of_length_le (by omega), hus]
  rw [this]
  exact h w2 S2.drop
theorem bfl (hk : mr m es D) (S : St w0 w (lq hb r m es D ++ R)) {n : Int} (hn : n < 9223372036854775808) {K : KV} (h : ∀ w', mr m es { D with ir := decide (0 ≤ n), left := n } → St w0 w' (lq hb r m es { D with ir := decide (0 ≤ n), left := n } ++ R) → K (.tuple #[]) w') : fk P F.dh [.pointer (some ⟨hb, 0, none⟩), .int .i64 n] w K := by
 rw [M.eh.fcall]
 apply M.eh.calls
 unfold M.eh
 have hh := rz S
 obtain ⟨_, _, c2, c3, _, f⟩ := ol hh
 simp [c2, c3, f, gx, ic]
 refine h _ { hk with arm := fun h => ⟨by simpa using h, hn⟩ } (St.lg (cs' := #[.int .i64 D.ie, .map (some r), .int .i64 n, .bool (decide (0 ≤ n)), .bool D.gr]) (e' := T.ah) S (((Fr.refl (fun x => x = hb) w).setCell (.inl rfl) _ _).setCell (.inl rfl) _ _) ?_)
 rw [kt (kt hh)]; rfl
theorem azw (S : St w0 w (lq hb r m es D ++ R)) {K : KV} (h : K (.bool D.gr) w) : fk P F.ao [.pointer (some ⟨hb, 0, none⟩)] w K := by
 rw [M.dy.fcall]
 apply M.dy.calls
 unfold M.dy
 obtain ⟨_, _, _, _, c4, _⟩ := ol (rz S)
 simp [c4]
 exact h
def Dk.kj (D : Dk) (k : Int) : List Int × Int := if D.gr then ([], 10) else match D.get k with
 | none => ([], 11)
 | some f => (f.jl ++ f.il, 0)
theorem ww (hk : mr m (a ++ e :: b) D) : e.jl.length + e.il.length ≤ D.ib := by
 have : e.abs.len ∈ D.fs.map Fil.len := by
  rw [hk.fs]
  exact List.mem_map_of_mem (List.mem_map_of_mem (by simp))
 exact afa this
theorem bej (hk : mr m es D) (S : St w0 w (lq hb r m es D ++ R)) (k : Int) {K : KV} (h : ∀ w' v, St w0 w' (jt v (D.kj k).1 :: (lq hb r m es D ++ R)) → K (.tuple #[v, .int .i64 (D.kj k).2]) w') : fk P F.cw [.pointer (some ⟨hb, 0, none⟩), .int .i64 k] w K := by
 rw [M.ea.fcall]
 apply M.ea.calls
 unfold M.ea
 unfold Dk.kj at h
 have Snil : St w0 w (jt (.slice none 0 0) [] :: (lq hb r m es D ++ R)) := S.add (a := jt (.slice none 0 0) []) (Fr.refl _ w) (B := fun _ => False) ⟨Ow.none, fun b hb => by simp [Value.ownBlock] at hb⟩ fun b hb => hb.elim
 refine aho hk S k (fun hd => ?_) (fun hd hn => ?_) fun hd a e b he hek => ?_
 ·simp [hd] at h ⊢
  exact h w _ Snil
 ·rw [hk.abn hn] at h
  simp [hd] at h ⊢
  exact h w _ Snil
 ·subst he
  have hl := ww hk
  have hu := hk.ib
  have hr := hk.ie
  rw [← hek, hk.vj] at h
  simp [hd] at h ⊢
  refine ari (S.perm (nu hb r m a b e D R)) (by omega) fun w' v S' => ?_
  exact h w' v (S'.tail (nu hb r m a b e D R).symm)
end
set_option maxRecDepth 100000
open Go.Eng Go.Proofs.YtfnhoaemapheoaaGreat.Sint
def Dk.my (D : Dk) (k : Int) (fa lo : List Int) : Dk := { D with fs := D.fs.map fun f => if f.n = k then ⟨k, fa, lo⟩ else f }
def Dk.rem (D : Dk) (k : Int) : Dk := { D with fs := D.fs.filter fun f => decide (f.n ≠ k) }
section
variable {w0 w : World} {hb r : Nat} {m : MP} {es a b : List FE} {D : Dk} {R : List Asn} {e e' : FE}
theorem mr.aol (h : mr m (a ++ e :: b) D) : ∀ x, x ∈ a ∨ x ∈ b → x.n ≠ e.n := by
 have hn := h.tn
 rw [List.map_append, List.map_cons, List.nodup_append, List.nodup_cons] at hn
 rintro x (hx | hx) he
 ·exact hn.2.2 x.n (List.mem_map_of_mem hx) e.n (List.mem_cons_self ..) he
 ·exact hn.2.1.1 (he ▸ List.mem_map_of_mem hx)
theorem atn (h : mr m (a ++ e :: b) D) (fa lo : List Int) : (D.my e.n fa lo).fs = a.map FE.abs ++ ⟨e.n, fa, lo⟩ :: b.map FE.abs := by
 unfold Dk.my
 simp only [h.fs, List.map_append, List.map_cons, List.map_map]
 have hx : ∀ x : FE, x ∈ a ∨ x ∈ b → ((fun f : Fil => if f.n = e.n then (⟨e.n, fa, lo⟩ : Fil) else f) ∘ FE.abs) x = x.abs := fun x hx => by
  show (if x.n = e.n then _ else x.abs) = _
  rw [if_neg (h.aol x hx)]
 rw [List.map_congr_left fun x hxa => hx x (.inl hxa), List.map_congr_left (l := b) fun x hxb => hx x (.inr hxb)]
 simp [FE.abs]
theorem aco (h : mr m (a ++ e :: b) D) (fa lo : List Int) : (D.my e.n fa lo).ib + (e.jl.length + e.il.length) = D.ib + (fa.length + lo.length) := by
 unfold Dk.ib
 rw [atn h, h.fs]
 simp [FE.abs, Fil.len]
 omega
theorem mr.my (h : mr m (a ++ e :: b) D) (hn : e'.n = e.n) (hp : e'.p = e.p) (hu : ((D.my e.n e'.jl e'.il).ib : Int) ≤ D.ie) : mr m (a ++ e' :: b) (D.my e.n e'.jl e'.il) where
 fs := by rw [atn h, ← hn]; simp [FE.abs]
 ml := by rw [h.ml]; simp
 mg x hx := by
  rcases List.mem_append.1 hx with hx | hx
  ·exact h.mg x (by simp [hx])
  ·rcases List.mem_cons.1 hx with rfl | hx
   ·rw [hn, h.mg e (by simp)]; simp [FE.ptr, hp]
   ·exact h.mg x (by simp [hx])
 mz k hk := h.mz k fun x hx => by
  rcases List.mem_append.1 hx with hx | hx
  ·exact hk x (by simp [hx])
  ·rcases List.mem_cons.1 hx with rfl | hx
   ·rw [← hn]; exact hk e' (by simp)
   ·exact hk x (by simp [hx])
 tn := by have := h.tn; simp only [List.map_append, List.map_cons] at *; rw [hn]; exact this
 kp := by have := h.kp; simp only [List.map_append, List.map_cons] at *; rw [hn]; exact this
 ie := h.ie
 ib := hu
 rng x hx := by
  rcases List.mem_append.1 hx with hx | hx
  ·exact h.rng x (by simp [hx])
  ·rcases List.mem_cons.1 hx with rfl | hx
   ·rw [hn]; exact h.rng e (by simp)
   ·exact h.rng x (by simp [hx])
 arm := h.arm
theorem mr.rem (h : mr m (a ++ e :: b) D) : mr (xo m e.n) (a ++ b) (D.rem e.n) where
 fs := by
  unfold Dk.rem
  simp only [h.fs, List.map_append, List.map_cons, List.filter_append]
  have hx : ∀ l : List FE, (∀ x ∈ l, x.n ≠ e.n) → (l.map FE.abs).filter (fun f => decide (f.n ≠ e.n)) = l.map FE.abs := fun l hl => List.filter_eq_self.2 fun f hf => by
   obtain ⟨x, hx, rfl⟩ := List.mem_map.1 hf
   exact decide_eq_true (hl x hx)
  rw [List.filter_cons, hx a fun x h' => h.aol x (.inl h'), hx b fun x h' => h.aol x (.inr h')]
  simp [FE.abs]
 ml := by
  have h1 := aaq m e.n
  have h2 : (jg (xo m e.n)).length = (jg m).length - 1 := by
   rw [h1, List.length_erase_of_mem]
   exact h.kp.mem_iff.2 (List.mem_map_of_mem (by simp))
  simp only [jg, List.length_map] at h2
  rw [h2, h.ml]
  simp
 mg x hx := by
  rw [agh _ _ _ fun he => h.aol x (List.mem_append.1 hx) he.symm]
  exact h.mg x (by rcases List.mem_append.1 hx with h | h <;> simp [h])
 mz k hk := by
  by_cases hek : e.n = k
  ·subst hek; exact ame _ _ h.nd
  ·rw [agh _ _ _ hek]
   refine h.mz k fun x hx => ?_
   rcases List.mem_append.1 hx with hx | hx
   ·exact hk x (by simp [hx])
   ·rcases List.mem_cons.1 hx with rfl | hx
    ·exact hek
    ·exact hk x (by simp [hx])
 tn := by
  have := h.tn
  rw [(List.Perm.map FE.n (List.perm_middle (l₁ := a) (a := e) (l₂ := b))).nodup_iff] at this
  exact (List.nodup_cons.1 this).2
 kp := by
  rw [aaq]
  have h1 := (h.kp.trans (List.Perm.map FE.n (List.perm_middle (l₁ := a) (a := e) (l₂ := b)))).erase e.n
  rw [List.map_cons, List.erase_cons_head] at h1
  exact h1
 ie := h.ie
 ib := by
  have h1 := h.ib
  have h2 : (D.rem e.n).ib ≤ D.ib := by
   unfold Dk.rem Dk.ib
   have : ∀ l : List Fil, ((l.filter fun f => decide (f.n ≠ e.n)).map Fil.len).sum ≤ (l.map Fil.len).sum := fun l => by
    induction l with
    | nil => simp
    | cons f l ih =>
     rw [List.filter_cons]
     split
     ·rw [List.map_cons, List.map_cons, List.sum_cons, List.sum_cons]; omega
     ·rw [List.map_cons, List.sum_cons]; omega
   exact this D.fs
  show ((D.rem e.n).ib : Int) ≤ D.ie
  omega
 rng x hx := h.rng x (by rcases List.mem_append.1 hx with h | h <;> simp [h])
 arm := h.arm
theorem qz (S : St w0 w R) : St w0 w (jt (.slice none 0 0) [] :: R) := S.add (a := jt (.slice none 0 0) []) (Fr.refl _ w) (B := fun _ => False) ⟨Ow.none, fun b hb => by simp [Value.ownBlock] at hb⟩ fun b hb => hb.elim
theorem amk {v : Value} {l : List Int} (S : St w0 w (jt v l :: xc e :: R)) : St w0 ((w.setCell ⟨e.p, 0, none⟩ v).setCell ⟨e.p, 1, none⟩ (.slice none 0 0)) (xc { e with fv := v, lv := .slice none 0 0, jl := l, il := [] } :: R) := by
 have S1 := wu S.swap
 have S2 : St w0 w (gc e.p #[e.fv, e.lv] T.aj :: jt v l :: R) := (S1.swap.drop.swap.drop : St w0 w _)
 have hh := S2.blk
 have S3 := S2.lg (cs' := #[v, .slice none 0 0]) (e' := T.aj) (w' := (w.setCell ⟨e.p, 0, none⟩ v).setCell ⟨e.p, 1, none⟩ (.slice none 0 0)) (((Fr.refl (fun x => x = e.p) w).setCell (.inl rfl) _ _).setCell (.inl rfl) _ _) (by rw [kt (kt hh)]; rfl)
 exact aqq (e := { e with fv := v, lv := .slice none 0 0, jl := l, il := [] }) ((qz S3).perm ((List.Perm.swap _ _ _).trans (List.Perm.cons _ (List.Perm.swap _ _ _))))
theorem Ow.take {α : Type} {enc : α → List Value} {base : Nat} {et : TypeId} {v : Value} {l : List α} {t : TypeId} (he : ∀ x, (enc x).length = 1) (h : Ow w base et 1 enc v l) (ht : mq P t = true) (hz : szE P t = 1) {n : Nat} (hn : n ≤ l.length) {k : IntKind} :
  ∃ v', Ow w base et 1 enc v' (l.take n) ∧ (∀ g, v'.ownBlock = some g → v.ownBlock = some g) ∧ ∀ w1 K, slT P t v none (some (.int k (n : Int))) none w1 K = K v' w1 := by
 have h' := h
 obtain ⟨h1, h2⟩ := h
 have hlen : (l.take n).length = n := by rw [List.length_take]; omega
 have hfl : (l.take n).flatMap enc = (l.flatMap enc).take (n * 1) := by
  clear h' h1 h2 hlen
  induction l generalizing n with
  | nil => simp
  | cons x l ih =>
   cases n with
   | zero => simp
   | succ n =>
    have := ih (n := n) (by simpa using hn)
    rw [List.take_succ_cons, List.flatMap_cons, this, List.flatMap_cons, List.take_append, he]
    have hx := he x
    have e : (n + 1) * 1 - 1 = n * 1 := by omega
    rw [e, List.take_of_length_le (l := enc x) (by rw [hx]; omega)]
 rcases h2 with ⟨rfl, h0⟩ | ⟨g, cap, cur, rfl, hb0, hb, hc, hr⟩
 ·have : n = 0 := by omega
  subst this
  refine ⟨.slice none 0 0, ?_, fun g hg => hg, fun w1 K => by rw [yo ht (.inl ⟨rfl, rfl⟩) (.inr ⟨k, rfl⟩) (Nat.le_refl _) (Nat.le_refl _)]; simp⟩
  rw [List.take_zero]; exact Ow.none
 ·refine ⟨.slice (some ⟨g, 0, none⟩) n cap, ?_, fun g hg => hg, fun w1 K => ?_⟩
  ·unfold Ow
   rw [hlen, hfl]
   exact bbw h' hn
  ·rw [yo ht (.inl ⟨rfl, rfl⟩) (.inr ⟨k, rfl⟩) (Nat.zero_le _) (by omega)]
   simp [Addr.add]
theorem bgp {v : Value} {l : List Int} (S : St w0 w (jt v l :: R)) {n : Nat} (hn : n ≤ l.length) : ∃ v', (∀ w1 K, slT P T.e v none (some (.int .i64 (n : Int))) none w1 K = K v' w1) ∧ St w0 w (jt v' (l.take n) :: R) := by
 obtain ⟨B, ⟨h1, h2⟩, hB, cl⟩ := S.open
 obtain ⟨v', o, g, f⟩ := Ow.take je h1 (t := T.e) (by kernel_rfl) (by kernel_rfl) hn (k := .i64)
 exact ⟨v', f, cl w [jt v' (l.take n)] (Fr.refl _ _) (Rs.one (B := B) ⟨o, fun b hb => h2 b (g b hb)⟩ fun b hb => .inl hb)⟩
def Dk.mu (D : Dk) (k : Int) : Dk × Int := if D.gr then (D, 10) else match D.get k with
 | none => (D, 11)
 | some f => (D.my k (f.jl ++ f.il) [], 0)
def Dk.cut (D : Dk) (k n : Int) : Dk × Int := if D.gr then (D, 10) else match D.get k with
 | none => (D, 11)
 | some f => if n < 0 ∨ (f.jl.length + f.il.length : Nat) < n then (D, 1) else (D.my k ((f.jl ++ f.il).take n.toNat) [], 0)
def Dk.oc (D : Dk) (k : Int) : Dk × Int := if D.gr then (D, 10) else match D.get k with
 | none => (D, 11)
 | some _ => (D.rem k, 0)
theorem adq (S : St w0 w (gc e.p #[e.fv, e.lv] T.aj :: R)) : fx w e.p 0 = some e.fv ∧ fx w e.p 1 = some e.lv ∧ ∀ i, pm w e.p i = false := by
 have hh := S.blk
 exact ⟨by rw [fy hh]; rfl, by rw [fy hh]; rfl, mj hh⟩
theorem atu (S : St w0 w (gk hb D :: R)) (k : Int) {K : KV} (h : ∀ w', St w0 w' (gk hb (D.mu k).1 :: R) → K (.int .i64 (D.mu k).2) w') : fk P F.cv [.pointer (some ⟨hb, 0, none⟩), .int .i64 k] w K := by
 obtain ⟨r, m, es, hk, S'⟩ := xj S
 rw [M.dz.fcall]
 apply M.dz.calls
 unfold M.dz
 unfold Dk.mu at h
 refine aho hk S' k (fun hd => ?_) (fun hd hn => ?_) fun hd a e b he hek => ?_
 ·simp [hd] at h ⊢
  exact h w S
 ·rw [hk.abn hn] at h
  simp [hd] at h ⊢
  exact h w S
 ·subst he
  have hl := ww hk
  have hu := hk.ib
  have hr := hk.ie
  rw [← hek, hk.vj] at h
  simp [hd, FE.abs] at h ⊢
  refine ari (S'.perm (nu hb r m a b e D R)) (by omega) fun w' v S2 => ?_
  have S3 := amk S2
  obtain ⟨x1, x2, hv, _⟩ := S2.row je
  generalize (e.jl ++ e.il).length = L at hv
  subst hv
  obtain ⟨c0, c1, fz⟩ := adq (wu S2.swap)
  simp [FE.ptr, c0, c1, fz, gx, ic]
  refine h _ (yv (m := m) (r := r) (es := a ++ { e with fv := .slice x1 L x2, lv := .slice none 0 0, jl := e.jl ++ e.il, il := [] } :: b) (hk.my (e' := { e with fv := .slice x1 L x2, lv := .slice none 0 0, jl := e.jl ++ e.il, il := [] }) rfl rfl ?_) (S3.perm (nu hb r m a b _ _ R).symm))
  have := aco hk (e.jl ++ e.il) []
  simp at this ⊢
  omega
theorem bgv (S : St w0 w (gk hb D :: R)) (k n : Int) {K : KV} (h : ∀ w', St w0 w' (gk hb (D.cut k n).1 :: R) → K (.int .i64 (D.cut k n).2) w') : fk P F.eg [.pointer (some ⟨hb, 0, none⟩), .int .i64 k, .int .i64 n] w K := by
 obtain ⟨r, m, es, hk, S'⟩ := xj S
 rw [M.cg.fcall]
 apply M.cg.calls
 unfold M.cg
 unfold Dk.cut at h
 refine aho hk S' k (fun hd => ?_) (fun hd hn => ?_) fun hd a e b he hek => ?_
 ·simp [hd] at h ⊢
  exact h w S
 ·rw [hk.abn hn] at h
  simp [hd] at h ⊢
  exact h w S
 ·subst he
  have hl := ww hk
  have hu := hk.ib
  have hr := hk.ie
  rw [← hek, hk.vj] at h
  simp [hd, FE.abs] at h ⊢
  unfold M.cg.j0
  refine ari (S'.perm (nu hb r m a b e D R)) (by omega) fun w' v S2 => ?_
  have hlen := fun K => (S2.row je).ip (P := P) (t := T.e) (ty := T.b) (w := w') (by kernel_rfl) [false] (K := K)
  have hback : St w0 w' (gk hb D :: R) := yv hk (S2.drop.perm (nu hb r m a b e D R).symm)
  by_cases h0 : n < 0
  ·simp [h0] at h ⊢
   exact h w' hback
  ·by_cases h1 : ((e.jl.length : Int) + e.il.length) < n
   ·simp [h0, h1, hlen] at h ⊢
    exact h w' hback
   ·simp [h0, h1, hlen] at h ⊢
    unfold M.cg.j1
    obtain ⟨v', hs, S3⟩ := bgp (n := n.toNat) S2 (by simp; omega)
    have hn : ((n.toNat : Nat) : Int) = n := by omega
    rw [hn] at hs
    rw [hs]
    have S4 := amk S3
    obtain ⟨x1, x2, hv, _⟩ := S3.row je
    generalize (List.take n.toNat (e.jl ++ e.il)).length = L at hv
    subst hv
    obtain ⟨c0, c1, fz⟩ := adq (wu S3.swap)
    simp [FE.ptr, c0, c1, fz, gx, ic]
    refine h _ (yv (m := m) (r := r) (es := a ++ { e with fv := .slice x1 L x2, lv := .slice none 0 0, jl := (e.jl ++ e.il).take n.toNat, il := [] } :: b) ?_ (S4.perm (nu hb r m a b _ _ R).symm))
    have := aco hk ((e.jl ++ e.il).take n.toNat) []
    simp [List.take_append] at this ⊢
    have hh := hk.my (e' := { e with fv := .slice x1 L x2, lv := .slice none 0 0, jl := (e.jl ++ e.il).take n.toNat, il := [] }) rfl rfl (by
     simp [List.take_append]
     omega)
    simpa [List.take_append] using hh
theorem anh (S : St w0 w (gk hb D :: R)) (k : Int) {K : KV} (h : ∀ w', St w0 w' (gk hb (D.oc k).1 :: R) → K (.int .i64 (D.oc k).2) w') : fk P F.ce [.pointer (some ⟨hb, 0, none⟩), .int .i64 k] w K := by
 obtain ⟨r, m, es, hk, S'⟩ := xj S
 rw [M.ds.fcall]
 apply M.ds.calls
 unfold M.ds
 unfold Dk.oc at h
 refine aho hk S' k (fun hd => ?_) (fun hd hn => ?_) fun hd a e b he hek => ?_
 ·simp [hd] at h ⊢
  exact h w S
 ·rw [hk.abn hn] at h
  simp [hd] at h ⊢
  exact h w S
 ·subst he
  rw [← hek, hk.vj] at h
  obtain ⟨_, c1, _⟩ := ol (rz S')
  simp [hd, c1] at h ⊢
  refine bgq mt.t (afc S').1 k _ _ _ fun o hm => ?_
  refine h _ (yv (m := xo m e.n) (r := r) (es := a ++ b) hk.rem ?_)
  have S2 : St w0 w (ku r .i64 m :: avn hb r (D.rem e.n) :: ((a ++ b).map xc ++ R)) := ((S'.perm (nu hb r m a b e D R)).drop : St w0 w (avn hb r D :: ku r .i64 m :: ((a ++ b).map xc ++ R))).swap
  obtain ⟨B, ⟨h1, h2⟩, hB, cl⟩ := S2.open
  refine (cl (World.setObj w r o) [ku r .i64 (xo m e.n)] ((Fr.refl B w).setObj (.inl h2) o) (Rs.one (B := B) ⟨⟨?_, ?_⟩, h2⟩ fun b hb => .inl hb)).swap
  ·rw [hek]; exact hm
  ·rw [aaq]; exact h1.2.erase _
end
set_option maxRecDepth 100000
open Go.Eng Go.Proofs.YtfnhoaemapheoaaGreat.Sint
def Dk.acv (D : Dk) (k : Int) : Dk := { D with fs := D.fs ++ [⟨k, [], []⟩] }
def Dk.oy (D : Dk) (l : List Int) : List Int := if D.ir then l.take (min (l.length : Int) D.left).toNat else l
def Dk.after (D : Dk) (l : List Int) : Dk := if D.ir then { D with gr := decide (D.left < l.length), left := D.left - (min (l.length : Int) D.left).toNat } else D
def Dk.put (D : Dk) (k : Int) (l : List Int) : Dk := match D.get k with
 | none => ((D.acv k).my k [] (D.oy l)).after l
 | some f => (D.my k f.jl (f.il ++ D.oy l)).after l
def Dk.append (D : Dk) (k : Int) (l : List Int) : Dk × Int :=
 if D.gr then (D, 10) else if k < 0 ∨ 64 ≤ k then (D, 1) else if D.ie < D.ib + l.length then (D, 9) else (D.put k l, if (D.put k l).gr then 10 else 0)
section
variable {w0 w : World} {hb r : Nat} {m : MP} {es a b : List FE} {D : Dk} {R : List Asn} {e e' : FE}
theorem xw {v v2 : Value} {l l2 : List Int} (S : St w0 w (jt v l :: R)) (hs : SlB w v2 l2) (hl : l.length + l2.length ≤ 1000000000) {cs : List Bool} {ty : TypeId} {K : KV} (h : ∀ w' v', St w0 w' (jt v' (l ++ l2) :: R) → K v' w') :
  biT P .append #[T.e, T.e] ty cs [v, v2] w K := by
 obtain ⟨B, ⟨h1, h2⟩, hB, cl⟩ := S.open
 refine qd et.e je xq h1 hs hl (by decide) (Nat.zero_le _) cs fun v' w' o f g => ?_
 refine h w' v' (cl w' [jt v' (l ++ l2)] (f.mono fun x _ hx => h2 x hx) (Rs.one (B := fun x => v'.ownBlock = some x) ⟨o, fun b hb => hb⟩ fun x hx => ?_))
 rcases g with g | ⟨y, g1, g2⟩
 ·exact .inl (h2 x (by rw [← g]; exact hx))
 ·rw [hx] at g1; cases g1
  exact .inr ⟨g2, (o.lt hx).2⟩
theorem aqv (S : St w0 w (gk hb D :: R)) {K : KV} (h : K (.int .i64 (if D.gr then 10 else 0)) w) : fk P F.bf [.pointer (some ⟨hb, 0, none⟩)] w K := by
 obtain ⟨r, m, es, hk, S'⟩ := xj S
 exact aon (rz S') h
theorem bdg (hk : mr m (a ++ e :: b) D) (S : St w0 w (lq hb r m (a ++ e :: b) D ++ R)) {v2 : Value} {l2 : List Int} (hs : SlB w v2 l2) (hu : ((D.ib + l2.length : Nat) : Int) ≤ D.ie) {K : KV}
  (h : ∀ w', St w0 w' (gk hb (D.my e.n e.jl (e.il ++ l2)) :: R) → K (.int .i64 (if D.gr then 10 else 0)) w') : M.ap.j2 [e.ptr] [v2] (.pointer (some ⟨hb, 0, none⟩)) w K := by
 unfold M.ap.j2
 have hl := ww hk
 have hr := hk.ie
 have S1 := wu (S.perm (nu hb r m a b e D R))
 obtain ⟨c0, c1, fz⟩ := adq S1
 obtain ⟨x1, x2, hv, _⟩ := S1.aal.row je
 have c1' := c1
 rw [hv] at c1'
 simp [FE.ptr, c1']
 rw [← hv]
 refine xw S1.aal hs (by omega) fun w1 v' S2 => ?_
 have S3 := S2.aal.tail (List.Perm.refl _)
 have S4 : St w0 w1 (gc e.p #[e.fv, e.lv] T.aj :: jt v' (e.il ++ l2) :: jt e.fv e.jl :: (lq hb r m (a ++ b) D ++ R)) := S2.swap
 obtain ⟨d0, d1, fz1⟩ := adq S4
 have hcell : ∃ x y z, v' = .slice x y z := by
  obtain ⟨x, z, hv, _⟩ := S2.row je
  exact ⟨x, _, z, hv⟩
 obtain ⟨y1, y2, y3, rfl⟩ := hcell
 have hh := S4.blk
 have S5 := S4.lg (cs' := #[e.fv, .slice y1 y2 y3]) (e' := T.aj) (w' := w1.setCell ⟨e.p, 1, none⟩ (.slice y1 y2 y3)) ((Fr.refl (fun x => x = e.p) w1).setCell (.inl rfl) _ _) (by rw [kt hh]; rfl)
 simp [d1, fz1]
 have S6 := aqq (e := { e with lv := .slice y1 y2 y3, il := e.il ++ l2 }) (S5.tail (.swap _ _ _))
 have hk' := hk.my (e' := { e with lv := .slice y1 y2 y3, il := e.il ++ l2 }) rfl rfl (by
  have := aco hk e.jl (e.il ++ l2)
  simp at this ⊢
  omega)
 have S7 : St w0 (w1.setCell ⟨e.p, 1, none⟩ (.slice y1 y2 y3)) (gk hb (D.my e.n e.jl (e.il ++ l2)) :: R) := yv (m := m) (r := r) (es := a ++ { e with lv := .slice y1 y2 y3, il := e.il ++ l2 } :: b) hk' (S6.perm (nu hb r m a b _ _ R).symm)
 exact aqv S7 (h _ S7)
theorem bct (hk : mr m (a ++ e :: b) D) (S : St w0 w (lq hb r m (a ++ e :: b) D ++ R)) (hd : D.gr = false) {bv : Value} {l : List Int} (hbs : ∀ w' L, St w0 w' (L ++ R) → SlB w' bv l) (hu : ((D.ib + l.length : Nat) : Int) ≤ D.ie) {K : KV}
  (h : ∀ w', St w0 w' (gk hb ((D.my e.n e.jl (e.il ++ D.oy l)).after l) :: R) → K (.int .i64 (if ((D.my e.n e.jl (e.il ++ D.oy l)).after l).gr then 10 else 0)) w') : M.ap.j1 (.pointer (some ⟨hb, 0, none⟩)) bv [e.ptr] w K := by
 unfold M.ap.j1
 have hh := rz S
 have hr := hk.ie
 obtain ⟨_, _, c2, c3, c4, fz⟩ := ol hh
 have hs := hbs w _ S
 have hlen := fun w' K => hs.ip (P := P) (w := w') (t := T.e) (ty := T.b) (by kernel_rfl) [false] (K := K)
 rw [fo]
 cases ha : D.ir with
 | false =>
  rw [ha] at c3
  simp [c3]
  have e1 : D.oy l = l := by unfold Dk.oy; rw [ha]; rfl
  have e2 : (D.my e.n e.jl (e.il ++ l)).after l = D.my e.n e.jl (e.il ++ l) := by
   unfold Dk.after
   rw [show (D.my e.n e.jl (e.il ++ l)).ir = D.ir from rfl, ha]; rfl
  rw [e1, e2] at h
  exact bdg hk S hs hu h
 | true =>
  rw [ha] at c3
  obtain ⟨hle, hlt⟩ := hk.arm ha
  have S2 : St w0 ((w.setCell ⟨hb, 4, none⟩ (.bool (decide (D.left < l.length)))).setCell ⟨hb, 2, none⟩ (.int .i64 (D.left - min (l.length : Int) D.left))) (lq hb r m (a ++ e :: b) { D with gr := decide (D.left < l.length), left := D.left - min (l.length : Int) D.left } ++ R) :=
   St.lg (cs' := #[.int .i64 D.ie, .map (some r), .int .i64 (D.left - min (l.length : Int) D.left), .bool D.ir, .bool (decide (D.left < l.length))]) (e' := T.ah) S (((Fr.refl (fun x => x = hb) w).setCell (.inl rfl) _ _).setCell (.inl rfl) _ _) (by rw [kt (kt hh)]; rfl)
  obtain ⟨v', s', hsub, hsl⟩ := (hbs _ _ S2).sub (P := P) (t := T.e) (lo := none) (hi := some (.int .i64 ((min (l.length : Int) D.left).toNat : Nat))) (i := 0) (j := (min (l.length : Int) D.left).toNat) (by kernel_rfl) (by kernel_rfl) (.inl ⟨rfl, rfl⟩) (.inr ⟨_, rfl⟩) (Nat.zero_le _) (by omega)
  rw [List.drop_zero, Nat.sub_zero] at s'
  have hmin : (((min (l.length : Int) D.left).toNat : Nat) : Int) = min (l.length : Int) D.left := by omega
  have hmlen : (l.take (min (l.length : Int) D.left).toNat).length = (min (l.length : Int) D.left).toNat := by rw [List.length_take]; omega
  rw [hmin] at hsl
  have hlen' := fun w' K => s'.ip (P := P) (w := w') (t := T.e) (ty := T.b) (by kernel_rfl) [false] (K := K)
  rw [hmlen] at hlen'
  have hwr : IntKind.i64.wrap (D.left - min (l.length : Int) D.left) = D.left - min (l.length : Int) D.left := ft (by omega) (by omega)
  simp only [ara]
  simp [c2, c3, c4, fz, hlen, aip, gx, ic, hsl, hlen', hmin, hwr]
  have e1 : D.oy l = l.take (min (l.length : Int) D.left).toNat := by unfold Dk.oy; rw [ha]; rfl
  have e2 : (D.my e.n e.jl (e.il ++ D.oy l)).after l = Dk.my { D with gr := decide (D.left < l.length), left := D.left - min (l.length : Int) D.left } e.n e.jl (e.il ++ l.take (min (l.length : Int) D.left).toNat) := by
   unfold Dk.after
   rw [show (D.my e.n e.jl (e.il ++ D.oy l)).ir = D.ir from rfl, ha, e1]
   show Dk.mk _ _ _ _ _ = Dk.mk _ _ _ _ _
   congr 1
   show D.left - _ = _
   rw [← hmin]; rfl
  rw [e2] at h
  refine bdg (D := { D with gr := decide (D.left < l.length), left := D.left - min (l.length : Int) D.left }) { hk with arm := fun _ => ⟨?_, ?_⟩ } S2 s' ?_ h
  ·show 0 ≤ D.left - min (l.length : Int) D.left; omega
  ·show D.left - min (l.length : Int) D.left < _; omega
  ·show ((D.ib + _ : Nat) : Int) ≤ D.ie
   rw [hmlen]; omega
theorem bfb (hk : mr m es D) (S : St w0 w (lq hb r m es D ++ R)) {k : Int} (hall : ∀ e ∈ es, e.n ≠ k) (hr : 0 ≤ k ∧ k < 64) :
  mr (rq m k (FE.ptr ⟨k, w.heap.size, .slice none 0 0, .slice none 0 0, [], []⟩)) (es ++ ⟨k, w.heap.size, .slice none 0 0, .slice none 0 0, [], []⟩ :: []) (D.acv k) ∧
  St w0 (w.alloc (.cells #[.slice none 0 0, .slice none 0 0] T.aj)) (xc ⟨k, w.heap.size, .slice none 0 0, .slice none 0 0, [], []⟩ :: (lq hb r m es D ++ R)) := by
 have hkn : k ∉ jg m := fun h => by
  obtain ⟨e, he, h'⟩ := List.mem_map.1 (hk.kp.mem_iff.1 h)
  exact hall e he h'
 have hmk : jg (rq m k (FE.ptr ⟨k, w.heap.size, .slice none 0 0, .slice none 0 0, [], []⟩)) = jg m ++ [k] := by rw [ajq, if_neg hkn]
 have hml : (rq m k (FE.ptr ⟨k, w.heap.size, .slice none 0 0, .slice none 0 0, [], []⟩)).length = m.length + 1 := by
  have := congrArg List.length hmk
  simpa [jg] using this
 refine ⟨⟨?_, ?_, ?_, ?_, ?_, ?_, hk.ie, ?_, ?_, hk.arm⟩, ?_⟩
 ·show D.fs ++ _ = _
  rw [hk.fs]; simp [FE.abs]
 ·rw [hml, hk.ml]; simp
 ·intro x hx
  rw [acn]
  rcases List.mem_append.1 hx with hx | hx
  ·rw [if_neg fun h => hall x hx h.symm]; exact hk.mg x hx
  ·rw [List.mem_singleton] at hx
   subst hx
   rw [if_pos rfl]
 ·intro j hj
  rw [acn, if_neg (c := k = j) fun h => hj ⟨k, w.heap.size, .slice none 0 0, .slice none 0 0, [], []⟩ (by simp) h]
  exact hk.mz j fun e he => hj e (by simp [he])
 ·rw [List.map_append, List.nodup_append]
  refine ⟨hk.tn, by simp, ?_⟩
  rintro x hx y hy rfl
  obtain ⟨e, he, rfl⟩ := List.mem_map.1 hx
  simp at hy
  exact hall e he hy
 ·rw [hmk, List.map_append]
  exact hk.kp.append_right _
 ·have : (D.acv k).ib = D.ib := by unfold Dk.acv Dk.ib; simp [Fil.len]
  rw [this]; exact hk.ib
 ·intro x hx
  rcases List.mem_append.1 hx with hx | hx
  ·exact hk.rng x hx
  ·rw [List.mem_singleton] at hx
   subst hx
   exact hr
 ·have S1 : St w0 (w.alloc (.cells #[.slice none 0 0, .slice none 0 0] T.aj)) (gc w.heap.size #[.slice none 0 0, .slice none 0 0] T.aj :: (lq hb r m es D ++ R)) :=
   S.add ((Fr.refl _ w).alloc _) (B := fun x => x = w.heap.size) ⟨by rw [gm, if_pos rfl], rfl⟩ fun x hx => by subst hx; rw [ja]; omega
  exact aqq (e := ⟨k, w.heap.size, .slice none 0 0, .slice none 0 0, [], []⟩) ((qz (qz S1)).aal)
theorem amr (S : St w0 w (gk hb D :: R)) (k : Int) {bv : Value} {l : List Int} (hbs : ∀ w' L, St w0 w' (L ++ R) → SlB w' bv l) (hl : l.length ≤ 1000000000) {K : KV}
  (h : ∀ w', St w0 w' (gk hb (D.append k l).1 :: R) → K (.int .i64 (D.append k l).2) w') : fk P F.cf [.pointer (some ⟨hb, 0, none⟩), .int .i64 k, bv] w K := by
 rw [M.ap.fcall]
 apply M.ap.calls
 unfold M.ap
 unfold Dk.append at h
 refine aqv S ?_
 cases hd : D.gr with
 | true => simp [hd] at h ⊢; exact h w S
 | false =>
 by_cases h0 : k < 0
 ·simp [hd, h0] at h ⊢; exact h w S
 by_cases h1 : 64 ≤ k
 ·simp [hd, h0, h1] at h ⊢; exact h w S
 have hlen := fun w' K L (S' : St w0 w' (L ++ R)) => (hbs w' L S').ip (P := P) (w := w') (t := T.e) (ty := T.b) (by kernel_rfl) [false] (K := K)
 obtain ⟨r, m, es, hk, S'⟩ := xj S
 obtain ⟨a1, k1, hbv, _⟩ := hbs w _ S'
 have hh := rz S'
 obtain ⟨c0, _⟩ := ol hh
 have hlen1 := fun w' K => (hbs w _ S').ip (P := P) (w := w') (t := T.e) (ty := T.b) (by kernel_rfl) [false] (K := K)
 have hr := hk.ie
 have hu0 := hk.ib
 simp [hd, h0, h1, c0, hlen1]
 refine bet hk (S'.iu ((Fr.refl _ w).dr 1)) fun w1 S1 => ?_
 obtain ⟨c0, c1, _⟩ := ol (rz S1)
 have hw : IntKind.i64.wrap ((D.ib : Int) + l.length) = (D.ib : Int) + l.length := ft (by omega) (by omega)
 simp [c0, hw]
 by_cases h2 : D.ie < D.ib + l.length
 ·simp [h2]
  simp [hd, h0, h1, h2] at h
  exact h w1 (yv hk S1)
 simp [h2]
 simp [hd, h0, h1, h2] at h
 unfold M.ap.j0
 simp [c1]
 rw [aan mt.t (afc S1).1]
 unfold Dk.put at h
 rcases hk.bfj k with ⟨hn, hall⟩ | ⟨a, e, b, he, hek, hg⟩
 ·rw [hk.abn hall] at h
  rw [hn]
  have c1' : ∀ o, fx (w1.alloc o) hb 1 = some (.map (some r)) := fun o => by
   have hlt := (Array.getElem?_eq_some_iff.1 (rz S1)).1; exact (td (w := w1) (w' := w1.alloc o) (b := hb) (by rw [gm, if_neg (by omega)]) 1).trans c1
  simp [c1']
  obtain ⟨hk2, S2⟩ := bfb hk S1 hall (by omega)
  have S3 := S2
  refine aog mt.t (w := w1.alloc (.cells #[.slice none 0 0, .slice none 0 0] T.aj)) (r := r) (m := m) ?_ k _ _ fun o hm => ?_
  ·exact (afc S2.drop).1
  obtain ⟨B, ⟨h1, h2⟩, hB, cl⟩ := S2.aal.open
  have S4 := cl (World.setObj (w1.alloc (.cells #[.slice none 0 0, .slice none 0 0] T.aj)) r o) [ku r .i64 (rq m k (FE.ptr ⟨k, w1.heap.size, .slice none 0 0, .slice none 0 0, [], []⟩))] ((Fr.refl B _).setObj (.inl h2) o) (Rs.one (B := B) ⟨⟨hm, hk2.nd⟩, h2⟩ fun b hb => .inl hb)
  have S5 : St w0 (World.setObj (w1.alloc (.cells #[.slice none 0 0, .slice none 0 0] T.aj)) r o) (lq hb r (rq m k (FE.ptr ⟨k, w1.heap.size, .slice none 0 0, .slice none 0 0, [], []⟩)) (es ++ ⟨k, w1.heap.size, .slice none 0 0, .slice none 0 0, [], []⟩ :: []) (D.acv k) ++ R) := by
   refine St.perm S4 (List.Perm.trans ?_ (nu hb r _ es [] ⟨k, w1.heap.size, .slice none 0 0, .slice none 0 0, [], []⟩ (D.acv k) R).symm)
   rw [List.append_nil]
   exact (List.Perm.swap _ _ _).trans (List.Perm.cons _ (List.Perm.swap _ _ _))
  exact bct (e := ⟨k, w1.heap.size, .slice none 0 0, .slice none 0 0, [], []⟩) hk2 S5 hd hbs (by
   have : (D.acv k).ib = D.ib := by unfold Dk.acv Dk.ib; simp [Fil.len]
   rw [this]
   show _ ≤ D.ie
   omega) h
 ·subst he
  rw [← hek, hk.vj] at h
  rw [hg]
  simp [FE.ptr]
  exact bct hk S1 hd hbs (by omega) h
end
set_option maxRecDepth 100000
open Go.Eng Go.Proofs.YtfnhoaemapheoaaGreat.Sint
def yi (kl : List Int) (i len : Nat) : Nat := (max 0 (min (kl.getD i 0) (len : Int))).toNat
def abq (kl : List Int) (D : Dk) (k : Int) (i : Nat) : Dk := match D.get k with
 | none => D
 | some f => D.my k (f.jl ++ f.il.take (yi kl i f.il.length)) []
def crN (kl : List Int) (D : Dk) (F : List Int) : Nat → Dk
 | 0 => D
 | i + 1 => abq kl (crN kl D F i) (F.getD i 0) i
def Dk.sm (D : Dk) (kl : List Int) : Dk := { crN kl D D.ig D.ig.length with ir := false, gr := false }
section
variable {w0 w : World} {hb r : Nat} {m : MP} {es a b : List FE} {D : Dk} {R : List Asn} {e e' : FE}
theorem axx (D : Dk) (k : Int) (fa lo : List Int) : (D.my k fa lo).pk = D.pk := by
 unfold Dk.pk Dk.my
 rw [List.map_map]
 refine List.map_congr_left fun f hf => ?_
 show (if f.n = k then (⟨k, fa, lo⟩ : Fil) else f).n = f.n
 split
 ·rename_i h; exact h.symm
 ·rfl
theorem arv (kl : List Int) (D : Dk) (k : Int) (i : Nat) : (abq kl D k i).pk = D.pk := by
 unfold abq
 split
 ·rfl
 ·exact axx ..
theorem apb (kl : List Int) (D : Dk) (F : List Int) : ∀ i, (crN kl D F i).pk = D.pk
 | 0 => rfl
 | i + 1 => (arv kl _ _ _).trans (apb kl D F i)
theorem bgo (hk : mr m (a ++ e :: b) D) (S : St w0 w (lq hb r m (a ++ e :: b) D ++ R)) {n : Nat} (hn : n ≤ e.il.length) {x2 : List Value} {t17 : Value} {K4 : KL} {K : KV}
  (h : ∀ w', St w0 w' (gk hb (D.my e.n (e.jl ++ e.il.take n) []) :: R) → K4 [gv x2 4, t17, e.ptr, .int .i64 (n : Int)] w') : M.ay.j5 e.ptr [.int .i64 (n : Int)] K4 x2 t17 w K := by
 unfold M.ay.j5
 have hl := ww hk
 have hu := hk.ib
 have hr := hk.ie
 have S1 := S.perm (nu hb r m a b e D R)
 have S2 := wu S1
 obtain ⟨c0, c1, fz⟩ := adq S2
 have s1 : SlB w e.fv e.jl := S2.swap.row je
 have s2 : SlB w e.lv e.il := S2.aal.row je
 obtain ⟨v', s', hsub, hsl⟩ := s2.sub (P := P) (t := T.e) (lo := none) (hi := some (.int .i64 (n : Int))) (i := 0) (j := n) (by kernel_rfl) (by kernel_rfl) (.inl ⟨rfl, rfl⟩) (.inr ⟨_, rfl⟩) (Nat.zero_le _) hn
 rw [List.drop_zero, Nat.sub_zero] at s'
 obtain ⟨a1, k1, hv1, _⟩ := id s1
 obtain ⟨a2, k2, hv2, _⟩ := id s2
 obtain ⟨a3, k3, hv3, _⟩ := id s'
 have c0' := c0
 have c1' := c1
 rw [hv1] at c0'
 rw [hv2] at c1' hsl
 rw [hv3] at hsl
 simp [FE.ptr, c0', c1', hsl]
 rw [← hv1]
 have hmin : (List.take n e.il).length = min n e.il.length := by simp
 rw [← hmin, ← hv3]
 have hbl : ((Eng.dr w 1).alloc (.cells #[e.fv, v'] T.e)).heap[w.heap.size]? = some (.cells (([(e.fv, e.jl), (v', e.il.take n)] : List (Value × List Int)).map (·.1)).toArray T.e (0, 0)) := by
  rw [gm, if_pos (by simp)]; rfl
 have f1 : Fr (fun _ => False) w ((Eng.dr w 1).alloc (.cells #[e.fv, v'] T.e)) := ((Fr.refl _ w).dr 1).alloc _
 rw [M.v.fcall]
 refine CB.zt (L := [(e.fv, e.jl), (v', e.il.take n)]) hbl (fun p hp => ?_) (by simp [CB.tot]; omega) (by simp) fun w' v o f2 => ?_
 ·simp at hp
  rcases hp with rfl | rfl
  ·exact s1.fr f1 fun _ _ _ h => h
  ·exact s'.fr f1 fun _ _ _ h => h
 ·have hs : w.heap.size ≤ ((Eng.dr w 1).alloc (.cells #[e.fv, v'] T.e)).heap.size := f1.size
  have S3 : St w0 w' (jt v (e.jl ++ e.il.take n) :: xc e :: (lq hb r m (a ++ b) D ++ R)) := S1.add (a := jt v (e.jl ++ e.il.take n)) (f1.trans f2) (B := fun b => v.ownBlock = some b) ⟨by simpa using o.mono (Nat.zero_le _), fun b hb => hb⟩ fun b hb => by
   have := o.lt hb
   exact ⟨by omega, this.2⟩
  have S4 := amk S3
  obtain ⟨d0, d1, fz1⟩ := adq (wu S3.swap)
  obtain ⟨y1, y2, hv, _⟩ := S3.row je
  generalize (e.jl ++ e.il.take n).length = L at hv
  subst hv
  simp [d0, d1, fz1, gx, ic]
  refine h _ (yv (m := m) (r := r) (es := a ++ { e with fv := .slice y1 L y2, lv := .slice none 0 0, jl := e.jl ++ e.il.take n, il := [] } :: b) (hk.my (e' := { e with fv := .slice y1 L y2, lv := .slice none 0 0, jl := e.jl ++ e.il.take n, il := [] }) rfl rfl ?_) (S4.perm (nu hb r m a b _ _ R).symm))
  have := aco hk (e.jl ++ e.il.take n) []
  simp at this ⊢
  omega
def CrI (w0 : World) (hb : Nat) (D : Dk) (kl : List Int) (R : List Asn) (v : Value) : KL := fun x w1 => ∃ (u0 u1 u2 u3 : Value) (i : Nat), x = [u0, u1, u2, u3, .int .i64 (i : Nat)] ∧ i ≤ D.ig.length ∧ St w0 w1 (qk v D.ig :: gk hb (crN kl D D.ig i) :: R)
theorem arl (S : St w0 w (gk hb D :: R)) {kv : Value} {kl : List Int} (hks : ∀ w' L, St w0 w' (L ++ R) → Sl w' 1 qm kv kl) {K : KV}
  (h : ∀ w', St w0 w' (gk hb (D.sm kl) :: R) → K (.tuple #[]) w') : fk P F.bu [.pointer (some ⟨hb, 0, none⟩), kv] w K := by
 rw [M.ay.fcall]
 apply M.ay.calls
 unfold M.ay
 simp
 unfold M.ay.j0
 rw [fo]
 obtain ⟨r0, m0, es0, hk0, S0⟩ := xj S
 have hfl : D.ig.length ≤ 64 := by
  have := hk0.few
  unfold Dk.ig
  rw [(nw _).length_eq, hk0.pk, List.length_map]; exact this
 refine ajk hk0 S0 fun w1 v S1 => ?_
 have S1' : St w0 w1 (qk v D.ig :: gk hb D :: R) := ((yv hk0 (S1.perm List.perm_middle.symm)) : St w0 w1 (gk hb D :: (qk v D.ig :: R))).swap
 have hsl : ∀ {w i}, St w0 w (qk v D.ig :: gk hb (crN kl D D.ig i) :: R) → Sl w 1 qm v D.ig := fun S => S.row uy
 rw [(hsl (i := 0) S1').ip (by simp)]
 refine ⟨CrI w0 hb D kl R v, fun x _ => D.ig.length - ms x 4, ⟨_, _, _, _, 0, rfl, Nat.zero_le _, S1'⟩, ?_⟩
 rintro x w2 ⟨u0, u1, u2, u3, i, rfl, hi, S2⟩
 have q : ∀ a b c d e : Value, gv [a, b, c, d, e] 4 = e := fun _ _ _ _ _ => rfl
 simp only [q, kf, fo]
 by_cases hil : i < D.ig.length
 ·have hil' : (i : Int) < D.ig.length := by omega
  simp only [hil', decide_true, Eng.cond_true]
  unfold M.ay.j3
  obtain ⟨bb, o, cap, hv, hbb, _, hc⟩ := (hsl S2).at hil
  have c0 := hc 0 _ rfl
  simp only [Nat.mul_one, Nat.add_zero] at c0
  have hmem : D.ig[i] ∈ D.ig := List.getElem_mem hil
  have hnext : crN kl D D.ig (i + 1) = abq kl (crN kl D D.ig i) D.ig[i] i := by
   show abq kl _ (D.ig.getD i 0) i = _
   rw [List.getD_eq_getElem?_getD, List.getElem?_eq_getElem hil]; rfl
  have hmem' : D.ig[i] ∈ (crN kl D D.ig i).pk := by
   rw [apb]; exact (nw _).mem_iff.1 hmem
  obtain ⟨r, m, es, hk, S3⟩ := xj S2.swap
  generalize hD : crN kl D D.ig i = D1 at *
  generalize hki : D.ig[i] = k at *
  rw [hk.pk] at hmem'
  obtain ⟨e, he, hek⟩ := List.mem_map.1 hmem'
  obtain ⟨a, b, hab⟩ := List.append_of_mem he
  subst hab
  obtain ⟨_, c1, _⟩ := ol (rz S3)
  have hg := hk.mg e (by simp)
  have hlu : ∀ K, luT P T.t (.map (some r)) (.int .i64 k) false w2 K = K e.ptr w2 := fun K => by
   rw [aan mt.t (afc S3).1, ← hek, hg]; rfl
  obtain ⟨hbk, s1, s2⟩ := awk (a := a) (e := e) (b := b) S3
  have d1 : fx w2 e.p 1 = some e.lv := by rw [fy hbk]; rfl
  have hlenl := fun w' K => s2.ip (P := P) (w := w') (t := T.e) (ty := T.b) (by kernel_rfl) [false] (K := K)
  have hks2 := hks w2 (qk v D.ig :: [gk hb D1]) S2
  have hlenk := fun w' K => hks2.ip (P := P) (w := w') (t := T.k) (ty := T.b) (by kernel_rfl) [false] (K := K)
  obtain ⟨a2, k2, hv2, _⟩ := id s2
  have d1' := d1
  rw [hv2] at d1' hlenl
  have hwi : IntKind.i64.wrap ((i : Int) + 1) = ((i + 1 : Nat) : Int) := by rw [ft (by omega) (by omega)]; rfl
  have hst : crN kl D D.ig (i + 1) = D1.my e.n (e.jl ++ e.il.take (yi kl i e.il.length)) [] := by
   rw [hnext]
   unfold abq
   rw [← hek, hk.vj]; rfl
  have fin : ∀ w' y0 y1 y2 y3, St w0 w' (gk hb (D1.my e.n (e.jl ++ e.il.take (yi kl i e.il.length)) []) :: qk v D.ig :: R) → CrI w0 hb D kl R v [y0, y1, y2, y3, .int .i64 ((i + 1 : Nat) : Int)] w' ∧ D.ig.length - ms [y0, y1, y2, y3, .int .i64 ((i + 1 : Nat) : Int)] 4 < D.ig.length - ms [u0, u1, u2, u3, .int .i64 (i : Nat)] 4 := fun w' y0 y1 y2 y3 S' => ⟨⟨_, _, _, _, i + 1, rfl, by omega, by rw [hst]; exact S'.swap⟩, by simp only [ms, q]; simp; omega⟩
  rw [hv]
  by_cases hik : i < kl.length
  ·have hik' : (i : Int) < kl.length := by omega
   obtain ⟨bk, ok, capk, hkv, hbk2, _, hck⟩ := hks2.at hik
   have ck := hck 0 _ rfl
   simp only [Nat.mul_one, Nat.add_zero] at ck
   have hsty : ((yi kl i e.il.length : Nat) : Int) = max 0 (min kl[i] (e.il.length : Int)) := by
    unfold yi
    rw [List.getD_eq_getElem?_getD, List.getElem?_eq_getElem hik]
    simp only [Option.getD_some]
    omega
   simp [q, hil, c0, c1, hlu, hlenk, hik]
   rw [hkv]
   simp [hik, ck, FE.ptr, d1', hlenl, aip, azk, ← hsty]
   have S4 := S3.iu ((Fr.refl _ w2).dr 1)
   refine bgo (n := yi kl i e.il.length) (R := qk v D.ig :: R) hk S4 (by omega) fun w' S' => ?_
   rw [← hv]
   have := fin w' (gv [u0, u1, u2, u3, .int .i64 (i : Nat)] 4) (.int .i64 k) e.ptr (.int .i64 (yi kl i e.il.length : Nat)) S'
   rw [hwi]
   exact this
  ·have hik' : ¬ (i : Int) < kl.length := by omega
   have hst0 : yi kl i e.il.length = 0 := by
    unfold yi
    rw [List.getD_eq_getElem?_getD, List.getElem?_eq_none (by omega)]
    simp only [Option.getD_none]
    omega
   rw [hst0] at fin
   simp [q, hil, c0, c1, hlu, hlenk, hik]
   refine bgo (n := 0) (R := qk v D.ig :: R) hk S3 (by omega) fun w' S' => ?_
   rw [← hv]
   have := fin w' (gv [u0, u1, u2, u3, .int .i64 (i : Nat)] 4) (.int .i64 k) e.ptr (.int .i64 (0 : Nat)) S'
   rw [hwi]
   exact this
 ·have hil' : ¬ (i : Int) < D.ig.length := by omega
  simp only [hil', decide_false, Eng.cond_false]
  have hii : i = D.ig.length := by omega
  subst hii
  obtain ⟨r, m, es, hk, S3⟩ := xj S2.drop
  obtain ⟨_, _, _, c3, c4, fz⟩ := ol (rz S3)
  have hh := rz S3
  simp [c3, c4, fz, gx, ic]
  refine h _ (yv (r := r) (m := m) (es := es) (D := D.sm kl) { hk with arm := fun h => by cases h } (St.lg (cs' := #[.int .i64 (crN kl D D.ig D.ig.length).ie, .map (some r), .int .i64 (crN kl D D.ig D.ig.length).left, .bool false, .bool false]) (e' := T.ah) S3 (((Fr.refl (fun x => x = hb) w2).setCell (.inl rfl) _ _).setCell (.inl rfl) _ _) ?_))
  rw [kt (kt hh)]; rfl
end
set_option maxRecDepth 100000
open Go.Eng Go.Proofs.YtfnhoaemapheoaaGreat.Sint
section
variable {w0 w : World} {hb : Nat} {D : Dk} {R : List Asn}
theorem bey (S : St w0 w (gk hb D :: R)) (k : Int) {K : KV} (h : ∀ w' v, St w0 w' (jt v (D.kj k).1 :: gk hb D :: R) → K (.tuple #[v, .int .i64 (D.kj k).2]) w') : fk P F.cw [.pointer (some ⟨hb, 0, none⟩), .int .i64 k] w K := by
 obtain ⟨r, m, es, hk, S'⟩ := xj S
 exact bej hk S' k fun w' v S2 => h w' v (yv hk (S2.perm List.perm_middle.symm) : St w0 w' (gk hb D :: (jt v (D.kj k).1 :: R))).swap
theorem bco (S : St w0 w (gk hb D :: R)) {K : KV} (h : ∀ w' v, St w0 w' (qk v D.ig :: gk hb D :: R) → K v w') : fk P F.be [.pointer (some ⟨hb, 0, none⟩)] w K := by
 obtain ⟨r, m, es, hk, S'⟩ := xj S
 exact ajk hk S' fun w' v S2 => h w' v (yv hk (S2.perm List.perm_middle.symm) : St w0 w' (gk hb D :: (qk v D.ig :: R))).swap
theorem bft (S : St w0 w (gk hb D :: R)) {n : Int} (hn : n < 9223372036854775808) {K : KV} (h : ∀ w', St w0 w' (gk hb { D with ir := decide (0 ≤ n), left := n } :: R) → K (.tuple #[]) w') : fk P F.dh [.pointer (some ⟨hb, 0, none⟩), .int .i64 n] w K := by
 obtain ⟨r, m, es, hk, S'⟩ := xj S
 exact bfl hk S' hn fun w' hk' S2 => h w' (yv hk' S2)
theorem adz (S : St w0 w (gk hb D :: R)) {K : KV} (h : K (.bool D.gr) w) : fk P F.ao [.pointer (some ⟨hb, 0, none⟩)] w K := by
 obtain ⟨r, m, es, hk, S'⟩ := xj S
 exact azw S' h
end
end Go.Proofs.YtfnhoaemapheoaaGreat
set_option maxRecDepth 100000
namespace Go.Eng
section
variable {P : Program} {x : Int} {w : World} {K : KV}
theorem bbz : unT P .neg (.int .u32 x) w K = K (.int .u32 (IntKind.u32.wrap (0 - x))) w := by
 simp [unT, iq, Op.unary, Op.intArith, Sem.run_pure]
theorem bap : unT P .xor (.int .u32 x) w K = K (.int .u32 (IntKind.u32.wrap (BitVec.ofInt IntKind.u32.bits IntKind.u32.max ^^^ BitVec.ofInt IntKind.u32.bits x).toNat)) w := by
 have e : (if IntKind.u32.signed = true then (-1 : Int) else IntKind.u32.max) = IntKind.u32.max := if_neg (by decide)
 unfold unT iq
 simp only [Op.unary, e, Op.intBits, Sem.run_pure]
end
end Go.Eng
namespace Go.Proofs.YtfnhoaemapheoaaGreat
open Go.Eng Go.Proofs.YtfnhoaemapheoaaGreat.Sint
def apz (a b : Int) : Int := IntKind.u32.wrap (BitVec.ofInt IntKind.u32.bits a ^^^ BitVec.ofInt IntKind.u32.bits b).toNat
def bas (a b : Int) : Int := IntKind.u32.wrap (BitVec.ofInt IntKind.u32.bits a &&& BitVec.ofInt IntKind.u32.bits b).toNat
def orE (a b : Int) : Int := IntKind.u32.wrap (BitVec.ofInt IntKind.u32.bits a ||| BitVec.ofInt IntKind.u32.bits b).toNat
def orL (a b : Int) : Int := IntKind.u64.wrap (BitVec.ofInt IntKind.u64.bits a ||| BitVec.ofInt IntKind.u64.bits b).toNat
def aiv (a : Int) : Int := apz IntKind.u32.max a
def aaz (r : Int) : Int := apz (r.fdiv (2 ^ min (1 : Int).toNat IntKind.u32.bits)) (bas 3988292384 (IntKind.u32.wrap (0 - bas r 1)))
def tf (f : Int → Int) : Nat → Int → Int
 | 0, r => r
 | n + 1, r => f (tf f n r)
def ado (r : Int) (c : Int) : Int := tf aaz 8 (apz r (IntKind.u32.wrap c))
def zq (l : List Int) : Int := aiv (l.foldl ado (aiv 0))
theorem ana {t : TypeId} {rx ry : Operand} {x y : Int} {w : World} {K : KV} : fj P .xor t rx ry (.int .u32 x) (.int .u32 y) w K = K (.int .u32 (apz x y)) w := atk
theorem ani {t : TypeId} {rx ry : Operand} {x y : Int} {w : World} {K : KV} : fj P .and t rx ry (.int .u32 x) (.int .u32 y) w K = K (.int .u32 (bas x y)) w := alp
theorem bah {t : TypeId} {rx ry : Operand} {x y : Int} {w : World} {K : KV} : fj P .or t rx ry (.int .u32 x) (.int .u32 y) w K = K (.int .u32 (orE x y)) w := awr
theorem bcm {t : TypeId} {rx ry : Operand} {x y : Int} {w : World} {K : KV} : fj P .or t rx ry (.int .u64 x) (.int .u64 y) w K = K (.int .u64 (orL x y)) w := awr
theorem aqj {x : Int} {w : World} {K : KV} : unT P .xor (.int .u32 x) w K = K (.int .u32 (aiv x)) w := bap
def StI (w : World) (r : Int) (n : Nat) : KL := fun x w1 => ∃ (i : Nat), x = [.int .u32 (tf aaz i r), .int .i64 (i : Nat)] ∧ w1 = w ∧ i ≤ n
theorem azl {w : World} {r : Int} {n : Nat} (hn : n ≤ 1000000) {K : KV} (h : K (.int .u32 (tf aaz n r)) w) : fk P F.fa [.int .u32 r, .int .i64 (n : Nat)] w K := by
 rw [M.et.fcall]
 apply M.et.calls
 unfold M.et
 rw [fo]
 refine ⟨StI w r n, fun x _ => n - ms x 1, ⟨0, rfl, rfl, Nat.zero_le _⟩, ?_⟩
 rintro x w1 ⟨i, rfl, rfl, hi⟩
 have q0 : gv [.int .u32 (tf aaz i r), .int .i64 (i : Nat)] 0 = .int .u32 (tf aaz i r) := rfl
 have q1 : gv [.int .u32 (tf aaz i r), .int .i64 (i : Nat)] 1 = .int .i64 (i : Nat) := rfl
 simp only [q0, q1, fo]
 by_cases hil : i < n
 ·have hil' : (i : Int) < n := by omega
  have hwi : IntKind.i64.wrap ((i : Int) + 1) = ((i + 1 : Nat) : Int) := by rw [ft (by omega) (by omega)]; rfl
  simp [hil']
  unfold M.et.j2
  simp only [q0, q1, fo]
  rw [adp (by omega), ani, bbz, ani, ana, ji, hwi]
  exact ⟨⟨i + 1, rfl, rfl, by omega⟩, by simp [ms, gv]; omega⟩
 ·have hil' : ¬ (i : Int) < n := by omega
  have he : i = n := by omega
  subst he
  simp
  exact h
def MoI (w : World) (l : List Int) (s : Int) : KL := fun x w1 => ∃ (u : Value) (i : Nat), x = [u, .int .u32 ((l.take i).foldl ado (aiv s)), .int .i64 (i : Nat)] ∧ w1 = w ∧ i ≤ l.length
theorem ayl {w : World} {v : Value} {l : List Int} (hs : SlB w v l) (hl : l.length ≤ 1000000000) {K : KV} (h : K (.int .u32 (zq l)) w) : fk P F.fc [v] w K := by
 rw [M.fd.fcall]
 apply M.fd.calls
 unfold M.fd
 rw [M.ex.fcall]
 apply M.ex.calls
 unfold M.ex
 rw [aqj, fo, hs.ip (by kernel_rfl)]
 refine ⟨MoI w l 0, fun x _ => l.length - ms x 2, ⟨_, 0, rfl, rfl, Nat.zero_le _⟩, ?_⟩
 rintro x w1 ⟨u, i, rfl, rfl, hi⟩
 generalize hf : (l.take i).foldl ado (aiv 0) = f
 have q0 : gv [u, .int .u32 f, .int .i64 (i : Nat)] 0 = u := rfl
 have q1 : gv [u, .int .u32 f, .int .i64 (i : Nat)] 1 = .int .u32 f := rfl
 have q2 : gv [u, .int .u32 f, .int .i64 (i : Nat)] 2 = .int .i64 (i : Nat) := rfl
 simp only [q2, fo]
 by_cases hil : i < l.length
 ·have hil' : (i : Int) < l.length := by omega
  have hwi : IntKind.i64.wrap ((i : Int) + 1) = ((i + 1 : Nat) : Int) := by rw [ft (by omega) (by omega)]; rfl
  obtain ⟨b, o, cap, hv, _, _, hc⟩ := hs.at hil
  have c0 := hc 0 _ rfl
  simp only [Nat.mul_one, Nat.add_zero] at c0
  have htk : (l.take (i + 1)).foldl ado (aiv 0) = ado f l[i] := by
   rw [List.take_succ_eq_append_getElem hil, List.foldl_append, hf]; rfl
  generalize l[i] = c at *
  simp [hil']
  unfold M.ex.j2
  simp only [q1, q2, fo]
  rw [hv]
  simp [hil, c0]
  rw [lw (ks := .u8) (kd := .u32) (by kernel_rfl) (by kernel_rfl), ana]
  refine azl (n := 8) (by omega) ?_
  rw [hwi]
  exact ⟨⟨.int .u8 c, i + 1, by rw [htk]; rfl, rfl, by omega⟩, by simp [ms, gv]; omega⟩
 ·have hil' : ¬ (i : Int) < l.length := by omega
  simp [hil']
  rw [List.take_of_length_le (by omega)] at hf
  have q4 : gv [v, .int .i64 (l.length : Nat), .int .i64 (i : Nat), u, .int .u32 f] 4 = .int .u32 f := rfl
  try simp only [q0, q1, q4]
  rw [aqj, ← hf]
  exact h
def b8 (x : Int) : Int := IntKind.u8.wrap x
def s8 (x : Int) : Int := x.fdiv (2 ^ min (8 : Int).toNat IntKind.u32.bits)
def uq (n : Int) : List Int := (List.range 4).map fun i => b8 (tf s8 i n)
section
variable {w0 w : World} {R : List Asn} {v : Value} {l : List Int}
theorem bcp (S : St w0 w R) (x : Int) : St w0 (w.alloc (.cells #[.int .u8 x] T.an)) (jt (.slice (some ⟨w.heap.size, 0, none⟩) 1 1) [x] :: R) := St.aed (l := [x]) S je rfl (by unfold maxLen; simp)
def P3I (w0 : World) (l : List Int) (n : Int) (R : List Asn) : KL := fun x w1 => ∃ (v : Value) (i : Nat), x = [v, .int .u32 (tf s8 i n), .int .i64 (i : Nat)] ∧ i ≤ 4 ∧ St w0 w1 (jt v (l ++ (uq n).take i) :: R)
theorem qw (n : Int) : (uq n).length = 4 := by simp [uq]
theorem auq (n : Int) {i : Nat} (hi : i < 4) : (uq n).take (i + 1) = (uq n).take i ++ [b8 (tf s8 i n)] := by
 rw [List.take_succ_eq_append_getElem (by rw [qw]; exact hi)]
 simp [uq]
theorem aqb (S : St w0 w (jt v l :: R)) (hl : l.length ≤ 100000000) (n : Int) {K : KV} (h : ∀ w' v', St w0 w' (jt v' (l ++ uq n) :: R) → K v' w') : fk P F.er [v, .int .u32 n] w K := by
 rw [M.es.fcall]
 apply M.es.calls
 unfold M.es
 rw [fo]
 refine ⟨P3I w0 l n R, fun x _ => 4 - ms x 2, ⟨v, 0, rfl, by omega, by simpa using S⟩, ?_⟩
 rintro x w1 ⟨v, i, rfl, hi, S⟩
 have q0 : gv [v, .int .u32 (tf s8 i n), .int .i64 (i : Nat)] 0 = v := rfl
 have q1 : gv [v, .int .u32 (tf s8 i n), .int .i64 (i : Nat)] 1 = .int .u32 (tf s8 i n) := rfl
 have q2 : gv [v, .int .u32 (tf s8 i n), .int .i64 (i : Nat)] 2 = .int .i64 (i : Nat) := rfl
 simp only [q2, fo]
 by_cases hil : i < 4
 ·have hil' : (i : Int) < 4 := by omega
  have hwi : IntKind.i64.wrap ((i : Int) + 1) = ((i + 1 : Nat) : Int) := by rw [ft (by omega) (by omega)]; rfl
  simp [hil']
  unfold M.es.j2
  simp only [q0, q1, q2, fo]
  rw [lw (ks := .u32) (kd := .u8) (by kernel_rfl) (by kernel_rfl)]
  simp
  have S1 := bcp S (b8 (tf s8 i n))
  refine Go.Eng.xw et.e je xq S1.swap (l2 := [b8 (tf s8 i n)]) (S1.row je) (by simp [qw]; omega) (by decide) fun w2 v2 S2 => ?_
  rw [adp (by omega), hwi]
  refine ⟨⟨v2, i + 1, rfl, by omega, ?_⟩, by simp [ms, gv]; omega⟩
  rw [auq n hil, ← List.append_assoc]
  exact S2.swap.drop
 ·have hil' : ¬ (i : Int) < 4 := by omega
  have he : i = 4 := by omega
  subst he
  simp
  rw [List.take_of_length_le (by rw [qw]; omega)] at S
  exact h w1 v S
def shE (c : Int) (i : Nat) : Int := IntKind.u32.wrap (IntKind.u32.wrap c * 2 ^ min (8 * i) IntKind.u32.bits)
def aad (l : List Int) : Nat → Int
 | 0 => 0
 | i + 1 => orE (aad l i) (shE (l.getD i 0) i)
def xn (l : List Int) : Int := aad l 4
def U3I (w : World) (l : List Int) : KL := fun x w1 => ∃ (u0 u1 : Value) (i : Nat), x = [u0, u1, .int .u32 (aad l i), .int .i64 (i : Nat)] ∧ w1 = w ∧ i ≤ 4
theorem ayn (hs : SlB w v l) (hl : 4 ≤ l.length) {K : KV} (h : K (.int .u32 (xn l)) w) : fk P F.fd [v] w K := by
 rw [M.fb.fcall]
 apply M.fb.calls
 unfold M.fb
 obtain ⟨v', s', _, hsub⟩ := hs.sub (P := P) (t := T.e) (lo := none) (hi := some (.int .i64 (4 : Nat))) (i := 0) (j := 4) (by kernel_rfl) (by kernel_rfl) (.inl ⟨rfl, rfl⟩) (.inr ⟨_, rfl⟩) (Nat.zero_le _) hl
 have e4 : (List.take (4 - 0) (List.drop 0 l)) = l.take 4 := by simp
 rw [e4] at s'
 have hsub' : ∀ w1 K, slT P T.e v none (some (.int .i64 4)) none w1 K = K v' w1 := hsub
 have hl4 : (l.take 4).length = 4 := by simp; omega
 rw [fo, hsub', s'.ip (by kernel_rfl), hl4]
 refine ⟨U3I w l, fun x _ => 4 - ms x 3, ⟨_, _, 0, rfl, rfl, by omega⟩, ?_⟩
 rintro x w1 ⟨u0, u1, i, rfl, rfl, hi⟩
 have q2 : gv [u0, u1, .int .u32 (aad l i), .int .i64 (i : Nat)] 2 = .int .u32 (aad l i) := rfl
 have q3 : gv [u0, u1, .int .u32 (aad l i), .int .i64 (i : Nat)] 3 = .int .i64 (i : Nat) := rfl
 have q0 : gv [u0, u1, .int .u32 (aad l i), .int .i64 (i : Nat)] 0 = u0 := rfl
 have q1 : gv [u0, u1, .int .u32 (aad l i), .int .i64 (i : Nat)] 1 = u1 := rfl
 simp only [q3, fo]
 by_cases hil : i < 4
 ·have hil' : (i : Int) < ((4 : Nat) : Int) := by omega
  have hwi : IntKind.i64.wrap ((i : Int) + 1) = ((i + 1 : Nat) : Int) := by rw [ft (by omega) (by omega)]; rfl
  have hw8 : IntKind.i64.wrap (8 * (i : Int)) = ((8 * i : Nat) : Int) := by rw [ft (by omega) (by omega)]; omega
  have hwu : IntKind.u64.wrap (8 * (i : Int)) = 8 * (i : Int) := yq (by omega) (by omega)
  have ht8 : (8 * (i : Int)).toNat = 8 * i := by omega
  obtain ⟨b, o, cap, hv, _, _, hc⟩ := s'.at (i := i) (by omega)
  have c0 := hc 0 _ rfl
  simp only [Nat.mul_one, Nat.add_zero] at c0
  have hgd : l.getD i 0 = (l.take 4)[i]'(by omega) := by
   rw [List.getD_eq_getElem?_getD, List.getElem?_eq_getElem (by omega), List.getElem_take]; rfl
  rw [← hgd] at c0
  rw [hl4] at hv
  have e : aad l (i + 1) = orE (aad l i) (shE (l.getD i 0) i) := rfl
  generalize l.getD i 0 = c at *
  rw [kf, decide_eq_true hil', Eng.cond_true]
  unfold M.fb.j2
  simp only [q0, q1, q2, q3, fo, tg, hw8]
  rw [hv]
  rw [avl (by kernel_rfl) (by omega) (by omega)]
  have hz : szE P T.e = 1 := by kernel_rfl
  rw [hz]
  simp [c0]
  rw [lw (ks := .u8) (kd := .u32) (by kernel_rfl) (by kernel_rfl), lw (ks := .i64) (kd := .u64) (by kernel_rfl) (by kernel_rfl), hwu, adl (by omega), ht8, bah, hwi]
  exact ⟨⟨_, _, i + 1, by rw [e]; rfl, rfl, by omega⟩, by simp [ms, gv]; omega⟩
 ·have hil' : ¬ (i : Int) < 4 := by omega
  have he : i = 4 := by omega
  subst he
  simp
  exact h
def lb (n : Int) : List Int := (List.range 8).map fun k => b8 (n.fdiv (2 ^ min (56 - 8 * k) IntKind.u64.bits))
theorem qe (n : Int) : (lb n).length = 8 := by simp [lb]
theorem ave (n : Int) {k : Nat} (hk : k < 8) : (lb n).take (k + 1) = (lb n).take k ++ [b8 (n.fdiv (2 ^ min (56 - 8 * k) IntKind.u64.bits))] := by
 rw [List.take_succ_eq_append_getElem (by rw [qe]; exact hk)]
 simp [lb]
def P6I (w0 : World) (l : List Int) (n : Int) (R : List Asn) : KL := fun x w1 => ∃ (v : Value) (k : Nat), x = [v, .int .i64 (56 - 8 * (k : Int))] ∧ k ≤ 8 ∧ St w0 w1 (jt v (l ++ (lb n).take k) :: R)
def bgj (x : List Value) : Nat := match gv x 1 with
 | .int _ k => (k + 8).toNat
 | _ => 0
theorem aqc (S : St w0 w (jt v l :: R)) (hl : l.length ≤ 100000000) (n : Int) {K : KV} (h : ∀ w' v', St w0 w' (jt v' (l ++ lb n) :: R) → K v' w') : fk P F.eo [v, .int .u64 n] w K := by
 rw [M.eo.fcall]
 apply M.eo.calls
 unfold M.eo
 rw [fo]
 refine ⟨P6I w0 l n R, fun x _ => bgj x, ⟨v, 0, rfl, by omega, by simpa using S⟩, ?_⟩
 rintro x w1 ⟨v, k, rfl, hk, S⟩
 have q0 : gv [v, .int .i64 (56 - 8 * (k : Int))] 0 = v := rfl
 have q1 : gv [v, .int .i64 (56 - 8 * (k : Int))] 1 = .int .i64 (56 - 8 * (k : Int)) := rfl
 simp only [q1, fo]
 by_cases hil : k < 8
 ·have hil' : (0 : Int) ≤ 56 - 8 * (k : Int) := by omega
  have hwu : IntKind.u64.wrap (56 - 8 * (k : Int)) = 56 - 8 * (k : Int) := yq (by omega) (by omega)
  have hwi : IntKind.i64.wrap (56 - 8 * (k : Int) - 8) = 56 - 8 * ((k + 1 : Nat) : Int) := by rw [ft (by omega) (by omega)]; omega
  have htn : (56 - 8 * (k : Int)).toNat = 56 - 8 * k := by omega
  rw [li, decide_eq_true hil']
  simp only [fm]
  unfold M.eo.j2
  simp only [q0, q1, fo]
  rw [lw (ks := .i64) (kd := .u64) (by kernel_rfl) (by kernel_rfl), hwu, adp hil', htn, lw (ks := .u64) (kd := .u8) (by kernel_rfl) (by kernel_rfl)]
  simp
  have S1 := bcp S (b8 (n.fdiv (2 ^ min (56 - 8 * k) IntKind.u64.bits)))
  refine Go.Eng.xw et.e je xq S1.swap (l2 := [b8 (n.fdiv (2 ^ min (56 - 8 * k) IntKind.u64.bits))]) (S1.row je) (by simp [qe]; omega) (by decide) fun w2 v2 S2 => ?_
  rw [hwi]
  refine ⟨⟨v2, k + 1, rfl, by omega, ?_⟩, by simp [bgj, gv]; omega⟩
  rw [ave n hil, ← List.append_assoc]
  exact S2.swap.drop
 ·have hil' : ¬ (0 : Int) ≤ 56 - 8 * (k : Int) := by omega
  rw [li, decide_eq_false hil']
  simp only [fm]
  rw [List.take_of_length_le (by rw [qe]; omega)] at S
  exact h w1 v S
def aag (l : List Int) : Nat → Int
 | 0 => 0
 | i + 1 => orL (IntKind.u64.wrap (aag l i * 2 ^ min (8 : Int).toNat IntKind.u64.bits)) (IntKind.u64.wrap (l.getD i 0))
def nf (l : List Int) : Int := aag l 8
def U6I (w : World) (l : List Int) : KL := fun x w1 => ∃ (u0 : Value) (i : Nat), x = [u0, .int .u64 (aag l i), .int .i64 (i : Nat)] ∧ w1 = w ∧ i ≤ 8
theorem aws (hs : SlB w v l) (hl : 8 ≤ l.length) {K : KV} (h : K (.int .u64 (nf l)) w) : fk P F.fb [v] w K := by
 rw [M.fa.fcall]
 apply M.fa.calls
 unfold M.fa
 obtain ⟨v', s', _, hsub⟩ := hs.sub (P := P) (t := T.e) (lo := none) (hi := some (.int .i64 (8 : Nat))) (i := 0) (j := 8) (by kernel_rfl) (by kernel_rfl) (.inl ⟨rfl, rfl⟩) (.inr ⟨_, rfl⟩) (Nat.zero_le _) hl
 have e4 : (List.take (8 - 0) (List.drop 0 l)) = l.take 8 := by simp
 rw [e4] at s'
 have hsub' : ∀ w1 K, slT P T.e v none (some (.int .i64 8)) none w1 K = K v' w1 := hsub
 have hl4 : (l.take 8).length = 8 := by simp; omega
 rw [fo, hsub', s'.ip (by kernel_rfl), hl4]
 refine ⟨U6I w l, fun x _ => 8 - ms x 2, ⟨_, 0, rfl, rfl, by omega⟩, ?_⟩
 rintro x w1 ⟨u0, i, rfl, rfl, hi⟩
 have q1 : gv [u0, .int .u64 (aag l i), .int .i64 (i : Nat)] 1 = .int .u64 (aag l i) := rfl
 have q2 : gv [u0, .int .u64 (aag l i), .int .i64 (i : Nat)] 2 = .int .i64 (i : Nat) := rfl
 have q0 : gv [u0, .int .u64 (aag l i), .int .i64 (i : Nat)] 0 = u0 := rfl
 simp only [q2, fo]
 by_cases hil : i < 8
 ·have hil' : (i : Int) < ((8 : Nat) : Int) := by omega
  have hwi : IntKind.i64.wrap ((i : Int) + 1) = ((i + 1 : Nat) : Int) := by rw [ft (by omega) (by omega)]; rfl
  obtain ⟨b, o, cap, hv, _, _, hc⟩ := s'.at (i := i) (by omega)
  have c0 := hc 0 _ rfl
  simp only [Nat.mul_one, Nat.add_zero] at c0
  have hgd : l.getD i 0 = (l.take 8)[i]'(by omega) := by
   rw [List.getD_eq_getElem?_getD, List.getElem?_eq_getElem (by omega), List.getElem_take]; rfl
  rw [← hgd] at c0
  rw [hl4] at hv
  have e : aag l (i + 1) = orL (IntKind.u64.wrap (aag l i * 2 ^ min (8 : Int).toNat IntKind.u64.bits)) (IntKind.u64.wrap (l.getD i 0)) := rfl
  generalize l.getD i 0 = c at *
  rw [kf, decide_eq_true hil', Eng.cond_true]
  unfold M.fa.j2
  simp only [q0, q1, q2, fo]
  rw [hv]
  rw [avl (by kernel_rfl) (by omega) (by omega)]
  have hz : szE P T.e = 1 := by kernel_rfl
  rw [hz]
  simp [c0]
  rw [adl (by omega), lw (ks := .u8) (kd := .u64) (by kernel_rfl) (by kernel_rfl), bcm, hwi]
  exact ⟨⟨_, i + 1, by rw [e], rfl, by omega⟩, by simp [ms, gv]; omega⟩
 ·have hil' : ¬ (i : Int) < 8 := by omega
  have he : i = 8 := by omega
  subst he
  simp
  exact h
theorem aoi {n : Nat} (h : n < 4294967296) : IntKind.u32.wrap (n : Int) = n := by
 show (if (false && decide ((n : Int) % 4294967296 ≥ 2147483648)) = true then (n : Int) % 4294967296 - 4294967296 else (n : Int) % 4294967296) = n
 simp; omega
theorem azb {n : Nat} (h : n < 4294967296) : (BitVec.ofInt IntKind.u32.bits (n : Int)).toNat = n := by
 show (BitVec.ofInt 32 (n : Int)).toNat = n
 rw [BitVec.toNat_ofInt]; omega
theorem ahw {a c i : Nat} (ha : a < 2 ^ i) (hc : 2 ^ i * c + a < 4294967296) : orE (a : Int) ((2 ^ i * c : Nat) : Int) = ((2 ^ i * c + a : Nat) : Int) := by
 unfold orE
 rw [BitVec.toNat_or, azb (by omega), azb (by omega), Nat.or_comm, ← Nat.two_pow_add_eq_or_of_lt ha, aoi hc]
theorem bfe {a c : Nat} (ha : a < 256) (hc : 256 * c + a < 18446744073709551616) : orL ((256 * c : Nat) : Int) (a : Int) = ((256 * c + a : Nat) : Int) := by
 have := Nat.two_pow_add_eq_or_of_lt (i := 8) (b := a) ha c
 unfold orL
 rw [BitVec.toNat_or]
 have h1 : (BitVec.ofInt IntKind.u64.bits ((256 * c : Nat) : Int)).toNat = 256 * c := akq (by omega)
 have h2 : (BitVec.ofInt IntKind.u64.bits (a : Int)).toNat = a := akq (by omega)
 rw [h1, h2, ← this, yk hc]
theorem afy {n : Nat} : b8 (n : Int) = ((n % 256 : Nat) : Int) := by
 unfold b8
 show (if (false && decide ((n : Int) % 256 ≥ 128)) = true then (n : Int) % 256 - 256 else (n : Int) % 256) = _
 simp
theorem arg {n : Nat} : s8 (n : Int) = ((n / 256 : Nat) : Int) := alx n 8
theorem afr {n : Nat} (hn : n < 4294967296) (r : List Int) : xn (uq (n : Int) ++ r) = n := by
 have e : uq (n : Int) = [((n % 256 : Nat) : Int), ((n / 256 % 256 : Nat) : Int), ((n / 256 / 256 % 256 : Nat) : Int), ((n / 256 / 256 / 256 % 256 : Nat) : Int)] := by
  show [b8 (n : Int), b8 (s8 n), b8 (s8 (s8 n)), b8 (s8 (s8 (s8 n)))] = _
  rw [arg, arg, arg, afy, afy, afy, afy]
 rw [e]
 generalize h0 : n % 256 = c0
 generalize h1 : n / 256 % 256 = c1
 generalize h2 : n / 256 / 256 % 256 = c2
 generalize h3 : n / 256 / 256 / 256 % 256 = c3
 have sh : ∀ (c i : Nat), c < 256 → i < 4 → 2 ^ (8 * i) * c < 4294967296 → shE (c : Int) i = ((2 ^ (8 * i) * c : Nat) : Int) := fun c i hc hi hb => by
  unfold shE
  rw [aoi (by omega)]
  have hm : min (8 * i) IntKind.u32.bits = 8 * i := Nat.min_eq_left (by show 8 * i ≤ 32; omega)
  rw [hm]
  have : (c : Int) * 2 ^ (8 * i) = ((2 ^ (8 * i) * c : Nat) : Int) := by rw [Int.mul_comm]; simp
  rw [this, aoi hb]
 show orE (orE (orE (orE 0 (shE (c0 : Int) 0)) (shE (c1 : Int) 1)) (shE (c2 : Int) 2)) (shE (c3 : Int) 3) = n
 rw [sh c0 0 (by omega) (by omega) (by simp; omega), sh c1 1 (by omega) (by omega) (by simp; omega), sh c2 2 (by omega) (by omega) (by simp; omega), sh c3 3 (by omega) (by omega) (by simp; omega)]
 have z0 := ahw (a := 0) (c := c0) (i := 0) (by simp) (by simp; omega)
 have z1 := ahw (a := c0) (c := c1) (i := 8) (by simp; omega) (by simp; omega)
 have z2 := ahw (a := 256 * c1 + c0) (c := c2) (i := 16) (by simp; omega) (by simp; omega)
 have z3 := ahw (a := 65536 * c2 + (256 * c1 + c0)) (c := c3) (i := 24) (by simp; omega) (by simp; omega)
 simp only [Nat.mul_zero, Nat.pow_zero, Nat.one_mul, Nat.add_zero, Nat.mul_one] at z0 z1 z2 z3 ⊢
 rw [show ((0 : Int)) = ((0 : Nat) : Int) from rfl, z0, z1]
 rw [show 2 ^ 8 * c1 + c0 = 256 * c1 + c0 from rfl, show 8 * 2 = 16 from rfl, z2, show 2 ^ 16 * c2 + (256 * c1 + c0) = 65536 * c2 + (256 * c1 + c0) from rfl, show 8 * 3 = 24 from rfl, z3]
 congr 1
 show 16777216 * c3 + (65536 * c2 + (256 * c1 + c0)) = n
 omega
theorem amz {n : Nat} (hn : n < 18446744073709551616) (r : List Int) : nf (lb (n : Int) ++ r) = n := by
 have hb : ∀ k, k < 8 → (lb (n : Int) ++ r).getD k 0 = ((n / 2 ^ (56 - 8 * k) % 256 : Nat) : Int) := fun k hk => by
  rw [List.getD_eq_getElem?_getD, List.getElem?_append_left (by rw [qe]; exact hk)]
  unfold lb
  rw [List.getElem?_map, List.getElem?_range hk]
  show b8 ((n : Int).fdiv (2 ^ min (56 - 8 * k) IntKind.u64.bits)) = _
  have hm : min (56 - 8 * k) IntKind.u64.bits = 56 - 8 * k := Nat.min_eq_left (by show 56 - 8 * k ≤ 64; omega)
  rw [hm, alx, afy]
 have key : ∀ i, i ≤ 8 → aag (lb (n : Int) ++ r) i = ((n / 2 ^ (64 - 8 * i) : Nat) : Int) := by
  intro i
  induction i with
  | zero => intro _; show (0 : Int) = _; simp; omega
  | succ i ih =>
   intro hi
   show orL (IntKind.u64.wrap (aag (lb (n : Int) ++ r) i * 2 ^ 8)) (IntKind.u64.wrap ((lb (n : Int) ++ r).getD i 0)) = _
   rw [ih (by omega), hb i (by omega)]
   have e1 : n / 2 ^ (64 - 8 * i) = n / 2 ^ (56 - 8 * i) / 256 := by
    rw [Nat.div_div_eq_div_mul]
    congr 1
    rw [show (256 : Nat) = 2 ^ 8 from rfl, ← Nat.pow_add]
    congr 1; omega
   have e2 : 64 - 8 * (i + 1) = 56 - 8 * i := by omega
   rw [e1, e2]
   have hlt : n / 2 ^ (56 - 8 * i) ≤ n := Nat.div_le_self _ _
   generalize n / 2 ^ (56 - 8 * i) = m at *
   have e3 : ((m / 256 : Nat) : Int) * 2 ^ 8 = ((256 * (m / 256) : Nat) : Int) := by rw [Int.mul_comm]; simp
   rw [e3, yk (by omega), yk (by omega), bfe (by omega) (by omega)]
   congr 1; omega
 show aag _ 8 = _
 rw [key 8 (by omega)]; simp
theorem aig (z : Int) : ∃ n : Nat, IntKind.u32.wrap z = (n : Int) ∧ n < 4294967296 := by
 have : IntKind.u32.wrap z = z % 4294967296 := by
  show (if (false && decide (z % 4294967296 ≥ 2147483648)) = true then z % 4294967296 - 4294967296 else z % 4294967296) = _
  simp
 exact ⟨(z % 4294967296).toNat, by rw [this]; omega, by omega⟩
theorem aoy (l : List Int) : ∃ n : Nat, zq l = (n : Int) ∧ n < 4294967296 := by
 unfold zq
 rw [aiv, apz]
 exact aig _
end
end Go.Proofs.YtfnhoaemapheoaaGreat
set_option maxRecDepth 100000
namespace Go.Eng
section
variable {P : Program}
theorem baz {t : TypeId} (h : mq P t = true) {a : Option Addr} {len cap : Nat} {k1 k2 k3 : IntKind} {i j m : Nat} (h0 : i ≤ j) (h1 : j ≤ m) (h2 : m ≤ cap) (w : World) (K : KV) :
  slT P t (.slice a len cap) (some (.int k1 (i : Int))) (some (.int k2 (j : Int))) (some (.int k3 (m : Int))) w K = K (.slice (if m = i then a else a.map (·.add (i * szE P t))) (j - i) (m - i)) w := by
 obtain ⟨hu, inf, hi, hs⟩ := we h
 have h3 : i ≤ m := by omega
 simp [slT, iq, Instr.sliceAt, Instr.slice, Instr.sliceBounds, Instr.sliceBound, asIntOf, Sem.run_bind, ij hu, Result.andThen, Sem.run_pure, xz hi, hs, h0, h1, h2, h3]
theorem Sl.bdc {α : Type} {enc : α → List Value} {sz : Nat} {w : World} {v : Value} {l : List α} {i j : Nat} (hs : Sl w sz enc v l) {t : TypeId} (h : mq P t = true) (hz : szE P t = sz) {k1 k2 k3 : IntKind} (h0 : i ≤ j) (h1 : j ≤ l.length) :
  ∃ v', Sl w sz enc v' ((l.drop i).take (j - i)) ∧ (∀ b, v'.ownBlock = some b → v.ownBlock = some b) ∧ ∀ w1 K, slT P t v (some (.int k1 (i : Int))) (some (.int k2 (j : Int))) (some (.int k3 (j : Int))) w1 K = K v' w1 := by
 obtain ⟨a, cap, rfl, g1, g2, g3⟩ := hs
 refine ⟨_, ?_, ?_, fun w1 K => baz h h0 (Nat.le_refl _) (by omega) w1 K⟩
 ·have hlen : ((l.drop i).take (j - i)).length = j - i := by simp; omega
  refine ⟨_, _, by rw [hlen], by omega, by omega, fun k x hk => ?_⟩
  have hk' : k < j - i := by have := (List.getElem?_eq_some_iff.1 hk).1; omega
  rw [List.getElem?_take_of_lt hk', List.getElem?_drop] at hk
  obtain ⟨b, o, rfl, hb, hr⟩ := g3 (i + k) x hk
  rw [if_neg (by omega)]
  refine ⟨b, o + i * sz, by simp [Addr.add, hz], hb, ?_⟩
  rw [Nat.add_assoc, ← Nat.add_mul]; exact hr
 ·intro b hb
  cases a with
  | none => split at hb <;> simp [Value.ownBlock] at hb
  | some a =>
   have : ∀ k, (a.add k).block = a.block := fun k => by unfold Addr.add; split <;> rfl
   split at hb <;> simp_all [Value.ownBlock]
theorem atg {t : TypeId} {v v1 v2 : Value} {lo hi mx : Option Value} (h1 : ∀ w1 K, slT P t v lo hi mx w1 K = K v1 w1) (h2 : ∀ w1 K, slT P t v lo hi mx w1 K = K v2 w1) (w : World) : v1 = v2 := by
 have h := (h1 w fun x _ => x = v1).symm.trans (h2 w fun x _ => x = v1)
 exact (h.mp rfl).symm
end
end Go.Eng
namespace Go.Proofs.YtfnhoaemapheoaaGreat
open Go.Eng Go.Proofs.YtfnhoaemapheoaaGreat.Sint
section
variable {w0 w : World} {R : List Asn} {v : Value} {l : List Int}
theorem zy (S : St w0 w R) (hs : SlB w v l) (hlen : l.length ≤ 100000000) {K : KV} (h : ∀ w' v', St w0 w' (jt v' l :: R) → K v' w') : fk P F.p [v] w K := by
 rw [M.cz.fcall]
 apply M.cz.calls
 unfold M.cz
 simp only [fo]
 have hs' := hs
 obtain ⟨a, cap, rfl, _⟩ := hs'
 cases a with
 | none =>
  simp
  have hz : l = [] := by
   obtain ⟨a', cap', hv, _, _, h3⟩ := hs
   cases l with
   | nil => rfl
   | cons x l =>
    obtain ⟨b, o, ha, _⟩ := h3 0 x rfl
    injection hv with h1 _ _
    rw [← h1] at ha; cases ha
  subst hz
  exact h w _ (Eng.qz S)
 | some a =>
  simp
  have S1 : St w0 (w.alloc (.cells #[] T.an)) (jt (.slice (some ⟨w.heap.size, 0, none⟩) 0 0) [] :: R) := St.aed (l := ([] : List Int)) S je rfl (by simp)
  refine Go.Eng.xw et.e je xq S1 (hs.fr ((Fr.refl (fun _ => False) w).alloc _) fun _ _ _ h => h) (by simp; omega) (by decide) fun w2 v2 S2 => ?_
  exact h w2 v2 S2
theorem aql {v1 v2 : Value} {l1 l2 : List Int} (S : St w0 w R) (s1 : SlB w v1 l1) (s2 : SlB w v2 l2) (hl : l1.length + l2.length ≤ 100000000) {K : KV} (h : ∀ w' v', St w0 w' (jt v' (l1 ++ l2) :: R) → K v' w') :
  bsT P T.m 2 #[(0, v1), (1, v2)] w fun t w => fk P F.k [t] w K := by
 obtain ⟨a1, k1, hv1, _⟩ := id s1
 obtain ⟨a2, k2, hv2, _⟩ := id s2
 have hbs : ∀ K', bsT P T.m 2 #[(0, v1), (1, v2)] w K' = K' (.slice (some ⟨w.heap.size, 0, none⟩) 2 2) (w.alloc (.cells #[v1, v2] T.e)) := fun K' => by rw [hv1, hv2]; simp
 rw [hbs]
 have f1 : Fr (fun _ => False) w (w.alloc (.cells #[v1, v2] T.e)) := (Fr.refl _ w).alloc _
 have hn : (w.alloc (.cells #[v1, v2] T.e)).heap[w.heap.size]? = some (.cells (([(v1, l1), (v2, l2)] : List (Value × List Int)).map (·.1)).toArray T.e (0, 0)) := by
  rw [gm, if_pos rfl]; rfl
 rw [M.v.fcall]
 refine CB.zt (L := [(v1, l1), (v2, l2)]) hn (fun p hp => ?_) (by simp [CB.tot]; omega) (by simp) fun w' v o f2 => ?_
 ·simp at hp
  rcases hp with rfl | rfl
  ·exact s1.fr f1 fun _ _ _ h => h
  ·exact s2.fr f1 fun _ _ _ h => h
 ·have hs : w.heap.size ≤ (w.alloc (.cells #[v1, v2] T.e)).heap.size := f1.size
  refine h w' v (S.add (a := jt v (l1 ++ l2)) (f1.trans f2) (B := fun b => v.ownBlock = some b) ⟨?_, fun b hb => hb⟩ fun b hb => ?_)
  ·simpa using o.mono (Nat.zero_le _)
  ·have := o.lt hb
   exact ⟨by omega, this.2⟩
def uv (d : List Int) : List Int := uq (d.length : Int) ++ d
def ii (d : List Int) : List Int := uv d ++ uq (zq (uv d))
theorem mo (d : List Int) : (ii d).length = d.length + 8 := by unfold ii uv; simp [qw]; omega
theorem atl {dv : Value} {d : List Int} {v0 : Value} {l0 : List Int} (S : St w0 w R) (h0 : ∀ w' L, St w0 w' (L ++ R) → SlB w' v0 l0) (hd : ∀ w' L, St w0 w' (L ++ R) → SlB w' dv d) (hl0 : l0.length ≤ 10000000) (hl : d.length ≤ 1000000000) {K : KV}
  (h : ∀ w' v', St w0 w' (jt v' (if 8192 < d.length then [] else l0 ++ ii d) :: R) → K (.tuple #[v', .int .i64 (if 8192 < d.length then 4 else 0)]) w') : fk P F.ep [v0, dv] w K := by
 rw [M.ep.fcall]
 apply M.ep.calls
 unfold M.ep
 rw [fo, (hd w [] S).ip (by kernel_rfl)]
 by_cases hbig : 8192 < d.length
 ·have hbig' : (8192 : Int) < d.length := by omega
  rw [if_pos hbig] at h
  simp only [if_pos hbig] at h
  simp [hbig']
  exact h w _ (Eng.qz S)
 ·have hbig' : ¬ (8192 : Int) < d.length := by omega
  rw [if_neg hbig] at h
  simp only [if_neg hbig] at h
  simp [hbig']
  unfold M.ep.j0
  rw [(hd w [] S).ip (by kernel_rfl), lw (ks := .i64) (kd := .u32) (by kernel_rfl) (by kernel_rfl), aoi (by omega)]
  refine aqb (Eng.qz S) (by simp) _ fun w1 v1 S1 => ?_
  rw [List.nil_append] at S1
  refine Go.Eng.xw et.e je xq S1 (hd w1 [_] S1) (by simp [qw]; omega) (by decide) fun w2 v2 S2 => ?_
  have S2' : St w0 w2 (jt v2 (uv d) :: R) := S2
  have hbl : (uv d).length = d.length + 4 := by unfold uv; simp [qw]; omega
  refine ayl (S2'.row je) (by omega) ?_
  refine aqb S2' (by omega) _ fun w3 v3 S3 => ?_
  have S3' : St w0 w3 (jt v3 (ii d) :: R) := S3
  have hfl := mo d
  refine aql S3' (h0 w3 [_] S3') (S3'.row je) (by omega) fun w4 v4 S4 => ?_
  exact h w4 v4 S4.swap.drop
def xe (l : List Int) : Option (List Int) × Int :=
 if l.length < 4 then (none, 3) else if 8192 < xn l then (none, 2) else if (l.length : Int) - 4 < 4 + xn l then (none, 3)
 else if zq (l.take (4 + (xn l).toNat)) ≠ xn (l.drop (4 + (xn l).toNat)) then (none, 2) else (some ((l.drop 4).take (xn l).toNat), 0)
theorem akc (l : List Int) : ∃ n : Nat, xn l = (n : Int) ∧ n < 4294967296 := by
 show ∃ n : Nat, aad l 4 = _ ∧ _
 rw [aad, orE]
 exact aig _
theorem bdr (S : St w0 w R) (hs : ∀ w' L, St w0 w' (L ++ R) → SlB w' v l) (hl : l.length ≤ 10000000) {K : KV}
  (h : ∀ w' dv rv, St w0 w' (jt dv ((xe l).1.getD []) :: R) → K (.tuple #[dv, rv, .int .i64 (xe l).2]) w') : fk P F.ez [v] w K := by
 rw [M.er.fcall]
 apply M.er.calls
 unfold M.er
 have s0 := hs w [] S
 have hlen : ∀ w' K', biT P .len #[T.e] T.b [false] [v] w' K' = K' (.int .i64 l.length) w' := fun w' K' => s0.ip (by kernel_rfl) [false]
 rw [fo, hlen]
 unfold xe at h
 by_cases c1 : l.length < 4
 ·have c1' : (l.length : Int) < 4 := by omega
  simp only [if_pos c1] at h
  simp [c1']
  exact h w _ _ (Eng.qz S)
 ·have c1' : ¬ (l.length : Int) < 4 := by omega
  simp only [if_neg c1] at h
  simp [c1']
  unfold M.er.j0
  refine ayn s0 (by omega) ?_
  obtain ⟨n, hn, hn2⟩ := akc l
  rw [hn] at h ⊢
  have hw1 : IntKind.i64.wrap (n : Int) = n := aks (by omega)
  have hw2 : IntKind.i64.wrap (4 + (n : Int)) = ((4 + n : Nat) : Int) := by rw [ft (by omega) (by omega)]; omega
  rw [lw (ks := .u32) (kd := .i64) (by kernel_rfl) (by kernel_rfl), hw1, ji, hw2, nn]
  by_cases c2 : (8192 : Int) < n
  ·simp only [if_pos c2] at h
   rw [decide_eq_true c2, Eng.cond_true]
   exact h w _ _ (Eng.qz S)
  ·simp only [if_neg c2] at h
   rw [decide_eq_false c2, Eng.cond_false, hlen, jm, ft (by omega) (by omega), kf]
   by_cases c3 : (l.length : Int) - 4 < 4 + (n : Int)
   ·simp only [if_pos c3] at h
    rw [decide_eq_true (by omega), Eng.cond_true]
    exact h w _ _ (Eng.qz S)
   ·simp only [if_neg c3] at h
    rw [decide_eq_false (by omega), Eng.cond_false]
    rw [Int.toNat_natCast] at h
    obtain ⟨va, sa, pa, ra⟩ := s0.sub (P := P) (t := T.e) (lo := none) (hi := some (.int .i64 ((4 + n : Nat) : Int))) (i := 0) (j := 4 + n) (by kernel_rfl) (by kernel_rfl) (.inl ⟨rfl, rfl⟩) (.inr ⟨_, rfl⟩) (Nat.zero_le _) (by omega)
    obtain ⟨vb, sb, pb, rb⟩ := s0.sub (P := P) (t := T.e) (lo := some (.int .i64 ((4 + n : Nat) : Int))) (hi := none) (i := 4 + n) (j := l.length) (by kernel_rfl) (by kernel_rfl) (.inr ⟨_, rfl⟩) (.inl ⟨rfl, rfl⟩) (by omega) (Nat.le_refl _)
    have ea : List.take (4 + n - 0) (List.drop 0 l) = l.take (4 + n) := by simp
    have eb : List.take (l.length - (4 + n)) (List.drop (4 + n) l) = l.drop (4 + n) := List.take_of_length_le (by simp)
    rw [ea] at sa
    rw [eb] at sb
    have fd : Fr (fun _ => False) w (Eng.dr w 1) := (Fr.refl _ w).dr 1
    simp only [pw, nv, ra, rb, xp, true_and, and_true]
    have Sd := S.iu fd
    have hlt : (l.take (4 + n)).length = 4 + n := by simp; omega
    have hld : (l.drop (4 + n)).length = l.length - (4 + n) := by simp
    refine ayl (sa.fr fd fun _ _ _ h => h) (by omega) ?_
    refine ayn (sb.fr fd fun _ _ _ h => h) (by omega) ?_
    rw [alq]
    by_cases c4 : zq (l.take (4 + n)) = xn (l.drop (4 + n))
    ·simp only [if_neg (show ¬ zq (l.take (4 + n)) ≠ xn (l.drop (4 + n)) from fun h => h c4)] at h
     refine ⟨rfl, ?_⟩
     rw [decide_eq_false (fun h => h c4), Eng.cond_false]
     obtain ⟨vc, sc, pc, rc⟩ := Eng.Sl.bdc (P := P) (t := T.e) (k1 := .i64) (k2 := .i64) (k3 := .i64) (i := 4) (j := 4 + n) s0 (by kernel_rfl) (by kernel_rfl) (by omega) (by omega)
     have rc' : ∀ w1 K, slT P T.e v (some (.int .i64 4)) (some (.int .i64 ((4 + n : Nat) : Int))) (some (.int .i64 ((4 + n : Nat) : Int))) w1 K = K vc w1 := rc
     have ec : List.take (4 + n - 4) (List.drop 4 l) = (l.drop 4).take n := by congr 1; omega
     rw [ec] at sc
     have hw3 : IntKind.i64.wrap (((4 + n : Nat) : Int) + 4) = ((8 + n : Nat) : Int) := by rw [ft (by omega) (by omega)]; omega
     obtain ⟨ve, se, pe, re⟩ := s0.sub (P := P) (t := T.e) (lo := some (.int .i64 ((8 + n : Nat) : Int))) (hi := none) (i := 8 + n) (j := l.length) (by kernel_rfl) (by kernel_rfl) (.inr ⟨_, rfl⟩) (.inl ⟨rfl, rfl⟩) (by omega) (Nat.le_refl _)
     have fd2 : Fr (fun _ => False) w (Eng.dr (Eng.dr w 1) 1) := fd.dr 1
     simp only [rc', ji, hw3, re, xp, true_and, and_true]
     have S2 := Sd.iu ((Fr.refl (fun _ => False) (Eng.dr w 1)).dr 1)
     refine zy S2 (sc.fr fd2 fun _ _ _ h => h) (by simp; omega) fun w2 dv S3 => ?_
     obtain ⟨vf, sf, _, rf⟩ := (hs w2 [_] S3).sub (P := P) (t := T.e) (lo := some (.int .i64 ((8 + n : Nat) : Int))) (hi := none) (i := 8 + n) (j := l.length) (by kernel_rfl) (by kernel_rfl) (.inr ⟨_, rfl⟩) (.inl ⟨rfl, rfl⟩) (by omega) (Nat.le_refl _)
     have hvf : ve = vf := atg re rf w2
     rw [← hvf] at sf
     refine zy S3 sf (by simp; omega) fun w3 rv S4 => ?_
     exact h w3 dv rv S4.drop
    ·simp only [if_pos c4] at h
     refine ⟨rfl, ?_⟩
     rw [decide_eq_true c4, Eng.cond_true]
     exact h _ _ _ (Eng.qz Sd)
end
set_option maxRecDepth 100000
open Go.Eng Go.Proofs.YtfnhoaemapheoaaGreat.Sint
structure SV where
 a : Option Addr
 n : Nat
 c : Nat
def SV.v (s : SV) : Value := .slice s.a s.n s.c
def oa (s : SV) : List Value := [s.v]
theorem sr (s : SV) : (oa s).length = 1 := rfl
theorem azd (s : SV) : ∀ u ∈ oa s, ju u = true := fun u hu => by simp [oa] at hu; subst hu; rfl
def nj (vs : List SV) (ls : List (List Int)) : List Asn := List.zipWith (fun s l => jt s.v l) vs ls
def aur (v : Value) (vs : List SV) (ls : List (List Int)) : List Asn := [Eng.jp T.e 1 oa v vs, pu (nj vs ls)]
def jv (v : Value) (ls : List (List Int)) : Asn where
 ok w B := ∃ vs, vs.length = ls.length ∧ Rs (aur v vs ls) w B
 jj := by
  rintro w w' B S ⟨vs, h1, h2⟩ hf hn
  exact ⟨vs, h1, h2.jj hf hn⟩
section
variable {w0 w : World} {R : List Asn} {v : Value} {ls : List (List Int)} {vs : List SV}
theorem aeg (S : St w0 w (jv v ls :: R)) : ∃ vs, vs.length = ls.length ∧ St w0 w (Eng.jp T.e 1 oa v vs :: pu (nj vs ls) :: R) := by
 obtain ⟨B, ⟨vs, h1, h2⟩, _, cl⟩ := S.open
 exact ⟨vs, h1, cl w (aur v vs ls) (Fr.refl _ _) (h2.mono fun b hb => .inl hb)⟩
theorem akh (h : vs.length = ls.length) (S : St w0 w (Eng.jp T.e 1 oa v vs :: pu (nj vs ls) :: R)) : St w0 w (jv v ls :: R) := by
 obtain ⟨U, h1, _, g⟩ := St.aau (L := aur v vs ls) (R := R) S
 exact g w [jv v ls] (Fr.refl _ _) ⟨U, ⟨vs, h, h1⟩, fun b hb => .inl hb, trivial⟩
theorem amp (S : St w0 w R) : St w0 w (jv (.slice none 0 0) [] :: R) := akh (vs := []) rfl (ati (St.all.2 S))
theorem zc (S : St w0 w (jv v ls :: R)) (w' : World) (K : KV) : biT P .len #[T.m] T.b [false] [v] w' K = K (.int .i64 ls.length) w' := by
 obtain ⟨vs, h, S1⟩ := aeg S
 rw [(S1.jp sr).ip (by kernel_rfl), h]
theorem awd (S : St w0 w (jv v ls :: R)) : ∃ a cap, v = .slice a ls.length cap := by
 obtain ⟨vs, h, S1⟩ := aeg S
 obtain ⟨a, cap, hv, _⟩ := S1.jp sr
 exact ⟨a, cap, by rw [hv, h]⟩
theorem adr (S : St w0 w (jv v ls :: R)) {i : Nat} (hi : i < ls.length) : ∃ b o s, (∀ w' K, iaT P T.m v (.int .i64 (i : Nat)) w' K = K (.pointer (some ⟨b, o, none⟩)) w') ∧ (∀ {w1 : World} {R1 : List Asn}, St w0 w1 (jv v ls :: R1) → fx w b o = some (SV.v s)) ∧ fx w b o = some (SV.v s) ∧ SlB w (SV.v s) ls[i] := by
 obtain ⟨vs, h, S1⟩ := aeg S
 have hi' : i < vs.length := by omega
 obtain ⟨b, o, cap, hv, _, _, hc⟩ := (S1.jp sr : Sl w 1 oa v vs).at hi'
 have c0 := hc 0 _ rfl
 simp only [Nat.mul_one, Nat.add_zero] at c0
 have S2 := St.apx (j := i) (L := nj vs ls) (by simp [nj]; omega) S1.swap
 unfold nj at S2
 rw [List.getElem_zipWith] at S2
 exact ⟨b, o + i, vs[i], fun w' K => by rw [hv]; simp [hi'], fun _ => c0, c0, S2.row je⟩
theorem aci {s : SV} {d : List Int} (S : St w0 w (jt s.v d :: jv v ls :: R)) (hl : ls.length ≤ 1000000) {cs : List Bool} {ty : TypeId} {K : KV} (h : ∀ w' v', St w0 w' (jv v' (ls ++ [d]) :: R) → K v' w') :
  bsT P T.m 1 #[(0, s.v)] w fun t w => biT P .append #[T.m, T.m] ty cs [v, t] w K := by
 have hbs : ∀ K', bsT P T.m 1 #[(0, s.v)] w K' = K' (.slice (some ⟨w.heap.size, 0, none⟩) 1 1) (w.alloc (.cells #[s.v] T.e)) := fun K' => by unfold SV.v; simp
 rw [hbs]
 obtain ⟨vs, h1, S1⟩ := aeg S.swap
 have S2 : St w0 (w.alloc (.cells #[s.v] T.e)) (uf T.e 1 oa (.slice (some ⟨w.heap.size, 0, none⟩) 1 1) [s] :: Eng.jp T.e 1 oa v vs :: pu (nj vs ls) :: jt s.v d :: R) := St.aed (l := [s]) S1 sr rfl (by unfold maxLen; simp)
 refine aow et.m sr azd S2.swap (S2.row sr) (by simp; omega) (by decide) fun w2 v2 S3 => ?_
 have S4 : St w0 w2 (Eng.jp T.e 1 oa v2 (vs ++ [s]) :: pu (nj vs ls) :: jt s.v d :: R) := S3.swap.drop
 refine h w2 v2 (akh (vs := vs ++ [s]) (by simp [h1]) ?_)
 have S5 := St.all.1 S4.swap
 have e : nj (vs ++ [s]) (ls ++ [d]) = nj vs ls ++ [jt s.v d] := by unfold nj; rw [List.zipWith_append h1]; rfl
 have S6 : St w0 w2 (pu (nj (vs ++ [s]) (ls ++ [d])) :: Eng.jp T.e 1 oa v2 (vs ++ [s]) :: R) := by
  refine St.all.2 ?_
  rw [e, List.append_assoc]
  refine S5.perm (List.Perm.append_left _ ?_)
  exact List.Perm.swap _ _ _
 exact S6.swap
theorem axw {d : List Int} (S : St w0 w (jv v (d :: ls) :: R)) {k : IntKind} : ∃ v', St w0 w (jv v' ls :: R) ∧ ∀ w1 K, slT P T.m v (some (.int k 1)) none none w1 K = K v' w1 := by
 obtain ⟨vs, h1, S1⟩ := aeg S
 cases vs with
 | nil => simp at h1
 | cons s vs =>
  obtain ⟨v', S2, hv⟩ := S1.bgl (P := P) (t := T.m) sr (by kernel_rfl) (by kernel_rfl) (i := 1) (by simp) (k := k)
  refine ⟨v', akh (vs := vs) (by simpa using h1) ?_, hv⟩
  have S3 : St w0 w (Eng.jp T.e 1 oa v' vs :: pu (nj (s :: vs) (d :: ls)) :: R) := S2
  have S4 := St.all.1 S3.swap
  have S5 : St w0 w (jt s.v d :: (nj vs ls ++ Eng.jp T.e 1 oa v' vs :: R)) := S4
  exact (St.all.2 S5.drop).swap
end
def yn (l : List Int) : Nat → Nat → List (List Int) × Nat
 | 0, ib => ([], ib)
 | f + 1, ib => if ib < l.length then match (xe ((l.drop ib).take 8200)).1 with
   | none => ([], ib)
   | some d => (d :: (yn l f (ib + d.length + 8)).1, (yn l f (ib + d.length + 8)).2)
  else ([], ib)
def ub (l : List Int) : List (List Int) × Nat := yn l (l.length + 1) 0
theorem azf (l : List Int) : ((xe l).2 = 0 ∧ ∃ d, (xe l).1 = some d ∧ d.length + 8 ≤ l.length) ∨ ((xe l).2 ≠ 0 ∧ (xe l).1 = none) := by
 unfold xe
 split
 ·exact .inr ⟨by simp, rfl⟩
 ·split
  ·exact .inr ⟨by simp, rfl⟩
  ·split
   ·exact .inr ⟨by simp, rfl⟩
   ·split
    ·exact .inr ⟨by simp, rfl⟩
    ·rename_i h1 h2 h3 h4
     refine .inl ⟨rfl, _, rfl, ?_⟩
     obtain ⟨n, hn, _⟩ := akc l
     rw [hn] at h2 h3 ⊢
     rw [Int.toNat_natCast, List.length_take, List.length_drop]
     omega
section
variable {w0 w : World} {R : List Asn} {v : Value} {l : List Int}
def AlI (w0 : World) (l : List Int) (R : List Asn) : KL := fun x w1 => ∃ (u0 u1 u2 u5 v : Value) (acc : List (List Int)) (ib f : Nat), x = [u0, u1, u2, v, .int .i64 (ib : Nat), u5] ∧ ib ≤ l.length ∧ l.length < f + ib ∧ 8 * acc.length ≤ ib ∧ ub l = (acc ++ (yn l f ib).1, (yn l f ib).2) ∧ St w0 w1 (jv v acc :: R)
theorem bds (S : St w0 w R) (hs : ∀ w' L, St w0 w' (L ++ R) → SlB w' v l) (hl : l.length ≤ 5000000) {K : KV}
  (h : ∀ w' lv k, St w0 w' (jv lv (ub l).1 :: R) → K (.tuple #[lv, .int .i64 ((ub l).2 : Nat), .int .i64 k]) w') : fk P F.ey [v] w K := by
 rw [M.dg.fcall]
 apply M.dg.calls
 unfold M.dg
 rw [fo]
 have h0 : AlI w0 l R [undef, undef, undef, .slice none 0 0, .int .i64 ((0 : Nat) : Int), .int .i64 0] w := by
  refine ⟨_, _, _, _, _, [], 0, l.length + 1, rfl, Nat.zero_le _, by omega, by simp, ?_, amp S⟩
  rw [List.nil_append]
  exact (Prod.eta _).symm
 refine ⟨AlI w0 l R, fun x _ => l.length - ms x 4, h0, ?_⟩
 rintro x w1 ⟨u0, u1, u2, u5, lv, acc, ib, f, rfl, hu, hf, ha, heq, S1⟩
 have q3 : gv [u0, u1, u2, lv, .int .i64 (ib : Nat), u5] 3 = lv := rfl
 have q4 : gv [u0, u1, u2, lv, .int .i64 (ib : Nat), u5] 4 = .int .i64 (ib : Nat) := rfl
 have q5 : gv [u0, u1, u2, lv, .int .i64 (ib : Nat), u5] 5 = u5 := rfl
 have s1 := hs w1 [_] S1
 have hlen : ∀ w' K', biT P .len #[T.e] T.b [false] [v] w' K' = K' (.int .i64 l.length) w' := fun w' K' => s1.ip (by kernel_rfl) [false]
 unfold M.dg.j1
 simp only [fo, q4, hlen, kf]
 cases f with
 | zero => omega
 | succ f =>
  by_cases hul : ib < l.length
  ·rw [decide_eq_true (show (ib : Int) < l.length by omega), Eng.cond_true]
   unfold M.dg.j2
   have hw1 : IntKind.i64.wrap ((ib : Int) + 8192) = ((ib + 8192 : Nat) : Int) := by rw [ft (by omega) (by omega)]; omega
   have hw2 : IntKind.i64.wrap (((ib + 8192 : Nat) : Int) + 8) = ((ib + 8200 : Nat) : Int) := by rw [ft (by omega) (by omega)]; omega
   simp only [fo, q3, q4, q5, hlen, ji, hw1, hw2, aip]
   obtain ⟨e, he⟩ : ∃ e : Nat, min (l.length : Int) ((ib + 8200 : Nat) : Int) = (e : Int) ∧ ib ≤ e ∧ e ≤ l.length ∧ (l.drop ib).take (e - ib) = (l.drop ib).take 8200 := by
    by_cases hm : l.length ≤ ib + 8200
    ·refine ⟨l.length, by omega, by omega, Nat.le_refl _, ?_⟩
     rw [List.take_of_length_le (by simp), List.take_of_length_le (by simp; omega)]
    ·exact ⟨ib + 8200, by omega, by omega, by omega, by rw [Nat.add_sub_cancel_left]⟩
   obtain ⟨he1, he2, he3, he4⟩ := he
   rw [he1]
   obtain ⟨va, sa, pa, ra⟩ := s1.sub (P := P) (t := T.e) (lo := some (.int .i64 (ib : Nat))) (hi := some (.int .i64 (e : Nat))) (i := ib) (j := e) (by kernel_rfl) (by kernel_rfl) (.inr ⟨_, rfl⟩) (.inr ⟨_, rfl⟩) he2 he3
   rw [ra]
   have hrd : ∀ w' L, St w0 w' (L ++ (jv lv acc :: R)) → SlB w' va ((l.drop ib).take 8200) := fun w' L S' => by
    obtain ⟨vb, sb, _, rb⟩ := (hs w' (L ++ [jv lv acc]) (by simpa using S')).sub (P := P) (t := T.e) (lo := some (.int .i64 (ib : Nat))) (hi := some (.int .i64 (e : Nat))) (i := ib) (j := e) (by kernel_rfl) (by kernel_rfl) (.inr ⟨_, rfl⟩) (.inr ⟨_, rfl⟩) he2 he3
    rw [atg ra rb w', ← he4]; exact sb
   refine bdr S1 hrd (by simp; omega) fun w2 dv rv S2 => ?_
   simp only [axf, ayt, axu, alq]
   have hG : yn l (f + 1) ib = match (xe ((l.drop ib).take 8200)).1 with
    | none => ([], ib)
    | some d => (d :: (yn l f (ib + d.length + 8)).1, (yn l f (ib + d.length + 8)).2) := by rw [yn, if_pos hul]
   have hck := azf ((l.drop ib).take 8200)
   generalize xe ((l.drop ib).take 8200) = c at *
   obtain ⟨co, ck⟩ := c
   rcases hck with ⟨k0, d, hd, hdl⟩ | ⟨k0, hd⟩
   ·simp only at k0 hd hG S2
    subst k0 hd
    simp only [Option.getD_some] at S2 hG
    have hdl' : d.length + 8 ≤ l.length - ib := by simp at hdl; omega
    obtain ⟨da, dc, hdv, _⟩ : SlB w2 dv d := S2.row je
    simp
    unfold M.dg.j3
    have hsv : dv = SV.v ⟨da, d.length, dc⟩ := hdv
    have hdlen : ∀ w' K', biT P .len #[T.e] T.b [false] [dv] w' K' = K' (.int .i64 d.length) w' := fun w' K' => (S2.row je : SlB w2 dv d).ip (by kernel_rfl) [false]
    have r3 : gv [lv, .int .i64 (ib : Nat), u5] 0 = lv := rfl
    have r4 : gv [lv, .int .i64 (ib : Nat), u5] 1 = .int .i64 (ib : Nat) := rfl
    have r5 : gv [lv, .int .i64 (ib : Nat), u5] 2 = u5 := rfl
    have hw3 : IntKind.i64.wrap ((d.length : Int) + 8) = ((d.length + 8 : Nat) : Int) := by rw [ft (by omega) (by omega)]; omega
    have hw4 : IntKind.i64.wrap ((ib : Int) + ((d.length + 8 : Nat) : Int)) = ((ib + d.length + 8 : Nat) : Int) := by rw [ft (by omega) (by omega)]; omega
    simp only [r3, r4, r5, hdlen, ji, hw3, hw4]
    rw [hsv] at S2 ⊢
    refine aci S2 (by omega) fun w3 v3 S3 => ?_
    refine ⟨⟨_, _, _, _, v3, acc ++ [d], ib + d.length + 8, f, rfl, by omega, by omega, by simp; omega, ?_, S3⟩, ?_⟩
    ·rw [heq, hG]; simp
    ·simp [ms, gv]; omega
   ·simp only at k0 hd hG S2
    subst hd
    rw [heq, hG, List.append_nil] at h
    rw [decide_eq_true k0, Eng.cond_true]
    exact h w2 lv ck S2.drop
  ·rw [decide_eq_false (show ¬ (ib : Int) < l.length by omega), Eng.cond_false]
   have hG : yn l (f + 1) ib = ([], ib) := by rw [yn, if_neg hul]
   rw [heq, hG, List.append_nil] at h
   exact h w1 lv 0 S1
end
def cat (ds : List (List Int)) : List Int := ds.flatMap ii
theorem axm {n : Nat} (hn : n < 4294967296) (r : List Int) (k : Nat) (hk : 4 ≤ k) : xn ((uq (n : Int) ++ r).take k) = n := by
 have e : (uq (n : Int) ++ r).take k = uq (n : Int) ++ r.take (k - 4) := by
  rw [List.take_append, List.take_of_length_le (by rw [qw]; omega), qw]
 rw [e, afr hn]
theorem aww {d : List Int} (hd : d.length ≤ 8192) (r : List Int) : xe (ii d ++ r) = (some d, 0) := by
 have hl := mo d
 have hb : (uv d).length = 4 + d.length := by unfold uv; simp [qw]
 have hu : xn (ii d ++ r) = (d.length : Int) := by
  unfold ii uv
  rw [List.append_assoc, List.append_assoc]
  exact afr (by omega) _
 unfold xe
 rw [hu, if_neg (by simp; omega), if_neg (by omega), if_neg (by simp; omega), Int.toNat_natCast]
 have e1 : (ii d ++ r).take (4 + d.length) = uv d := by
  unfold ii
  rw [List.append_assoc, List.take_left' hb]
 have e2 : xn ((ii d ++ r).drop (4 + d.length)) = zq (uv d) := by
  unfold ii
  rw [List.append_assoc, List.drop_left' hb]
  obtain ⟨n, hn, hn2⟩ := aoy (uv d)
  rw [hn]; exact afr hn2 r
 have e3 : ((ii d ++ r).drop 4).take d.length = d := by
  unfold ii uv
  rw [List.append_assoc, List.append_assoc, List.drop_left' (qw _), List.take_left' rfl]
 rw [e1, e2, if_neg (by simp), e3]
theorem azu {d : List Int} (hd : d.length ≤ 8192) {k : Nat} (hk : k < (ii d).length) : (xe ((ii d).take k)).1 = none := by
 have hl := mo d
 unfold xe
 by_cases h4 : k < 4
 ·rw [if_pos (by simp; omega)]
 ·have hu : xn ((ii d).take k) = (d.length : Int) := by
   unfold ii uv
   rw [List.append_assoc]
   exact axm (by omega) _ k (by omega)
  rw [if_neg (by simp; omega), hu, if_neg (by omega), if_pos (by simp; omega)]
def agy (p : List Int) : Prop := ∃ (d : List Int) (k : Nat), d.length ≤ 8192 ∧ k < (ii d).length ∧ p = (ii d).take k
theorem apy : agy [] := ⟨[], 0, by simp, by rw [mo]; simp, by simp⟩
theorem bbe {ds : List (List Int)} (hd : ∀ d ∈ ds, d.length ≤ 8192) {p : List Int} (hp : agy p) : ∀ (a : List Int) (f : Nat), (a ++ cat ds ++ p).length < f + a.length → yn (a ++ cat ds ++ p) f a.length = (ds, (a ++ cat ds).length) := by
 induction ds with
 | nil =>
  intro a f hf
  simp only [cat, List.flatMap_nil, List.append_nil]
  cases f with
  | zero => simp [cat] at hf; omega
  | succ f =>
   rw [yn]
   by_cases hlt : a.length < (a ++ p).length
   ·rw [if_pos hlt, List.drop_left' rfl]
    obtain ⟨d, k, h1, h2, rfl⟩ := hp
    have hl := mo d
    rw [List.take_take, azu h1 (by omega)]
   ·rw [if_neg hlt]
 | cons d ds ih =>
  intro a f hf
  have hdd := hd d (by simp)
  have hl := mo d
  have e0 : cat (d :: ds) = ii d ++ cat ds := by simp [cat]
  rw [e0] at hf ⊢
  cases f with
  | zero => simp at hf; omega
  | succ f =>
   rw [yn, if_pos (by simp; omega)]
   have e1 : ((a ++ (ii d ++ cat ds) ++ p).drop a.length).take 8200 = ii d ++ (cat ds ++ p).take (8200 - (ii d).length) := by
    rw [List.append_assoc, List.drop_left' rfl, List.append_assoc, List.take_append, List.take_of_length_le (by omega)]
   rw [e1, aww hdd]
   have e2 : a ++ (ii d ++ cat ds) ++ p = (a ++ ii d) ++ cat ds ++ p := by simp
   have e3 : a.length + d.length + 8 = (a ++ ii d).length := by simp; omega
   have := ih (fun x hx => hd x (by simp [hx])) (a ++ ii d) f (by rw [e2] at hf; simp at hf ⊢; omega)
   simp only
   rw [e2, e3, this]
   simp [cat]
theorem apc {ds : List (List Int)} (hd : ∀ d ∈ ds, d.length ≤ 8192) {p : List Int} (hp : agy p) : ub (cat ds ++ p) = (ds, (cat ds).length) := by
 have := bbe hd hp [] ((cat ds ++ p).length + 1) (by simp)
 simpa [ub] using this
set_option maxRecDepth 100000
open Go.Eng
def ng (p : Nat) : List Value := [.pointer (some ⟨p, 0, none⟩)]
theorem ta (p : Nat) : (ng p).length = 1 := rfl
theorem bbq (p : Nat) : ∀ u ∈ ng p, ju u = true := fun u hu => by simp [ng] at hu; subst hu; rfl
open Go.Eng Go.Proofs.YtfnhoaemapheoaaGreat.Sint
structure Prt where
 no : Int
 first : Int
 ga : List (List Int)
 size : Int
structure Lg where
 gp : Int
 fq : List Prt
def sw (q : Prt) (v : Value) : Array Value := #[.int .i64 q.no, .int .i64 q.first, v, .int .i64 q.size]
def bce (p : Nat) (v : Value) (q : Prt) : List Asn := [gc p (sw q v) T.af, jv v q.ga]
def mw (p : Nat) (q : Prt) : Asn where
 ok w B := ∃ v, Rs (bce p v q) w B
 jj := by
  rintro w w' B S ⟨v, h⟩ hf hn
  exact ⟨v, h.jj hf hn⟩
def jd (p : Nat) : Value := .pointer (some ⟨p, 0, none⟩)
def nc (hb : Nat) (gp : Int) (v : Value) : Array Value := #[.pointer (some ⟨hb, 0, none⟩), .int .i64 gp, v]
def bay (p hb : Nat) (v : Value) (ps : List Nat) (L : Lg) : List Asn := [gc p (nc hb L.gp v) T.ac, Eng.jp T.ad 1 ng v ps, qu mw ps L.fq]
def la (p hb : Nat) (L : Lg) : Asn where
 ok w B := ∃ v ps, ps.length = L.fq.length ∧ Rs (bay p hb v ps L) w B
 jj := by
  rintro w w' B S ⟨v, ps, h1, h2⟩ hf hn
  exact ⟨v, ps, h1, h2.jj hf hn⟩
def Lg.next (L : Lg) : Int := match L.fq.getLast? with
 | none => 0
 | some q => IntKind.i64.wrap (q.first + q.ga.length)
section
variable {w0 w : World} {R : List Asn} {p hb : Nat} {v : Value} {ps : List Nat} {L : Lg} {q : Prt}
theorem uk (S : St w0 w (mw p q :: R)) : ∃ v, St w0 w (gc p (sw q v) T.af :: jv v q.ga :: R) := by
 obtain ⟨B, ⟨v, h⟩, _, cl⟩ := S.open
 exact ⟨v, cl w (bce p v q) (Fr.refl _ _) (h.mono fun b hb => .inl hb)⟩
theorem aky (S : St w0 w (gc p (sw q v) T.af :: jv v q.ga :: R)) : St w0 w (mw p q :: R) := by
 obtain ⟨U, h1, _, g⟩ := St.aau (L := bce p v q) (R := R) S
 exact g w [mw p q] (Fr.refl _ _) ⟨U, ⟨v, h1⟩, fun b hb => .inl hb, trivial⟩
theorem ahn (S : St w0 w (la p hb L :: R)) : ∃ v ps, ps.length = L.fq.length ∧ St w0 w (gc p (nc hb L.gp v) T.ac :: Eng.jp T.ad 1 ng v ps :: qu mw ps L.fq :: R) := by
 obtain ⟨B, ⟨v, ps, h1, h2⟩, _, cl⟩ := S.open
 exact ⟨v, ps, h1, cl w (bay p hb v ps L) (Fr.refl _ _) (h2.mono fun b hb => .inl hb)⟩
theorem yj (h : ps.length = L.fq.length) (S : St w0 w (gc p (nc hb L.gp v) T.ac :: Eng.jp T.ad 1 ng v ps :: qu mw ps L.fq :: R)) : St w0 w (la p hb L :: R) := by
 obtain ⟨U, h1, _, g⟩ := St.aau (L := bay p hb v ps L) (R := R) S
 exact g w [la p hb L] (Fr.refl _ _) ⟨U, ⟨v, ps, h, h1⟩, fun b hb => .inl hb, trivial⟩
theorem ll {gp : Int} (h : w.heap[p]? = some (.cells (nc hb gp v) T.ac (0, 0))) : fx w p 0 = some (.pointer (some ⟨hb, 0, none⟩)) ∧ fx w p 1 = some (.int .i64 gp) ∧ fx w p 2 = some v ∧ ∀ i, pm w p i = false :=
 ⟨by rw [fy h]; rfl, by rw [fy h]; rfl, by rw [fy h]; rfl, mj h⟩
theorem kc (h : w.heap[p]? = some (.cells (sw q v) T.af (0, 0))) : fx w p 0 = some (.int .i64 q.no) ∧ fx w p 1 = some (.int .i64 q.first) ∧ fx w p 2 = some v ∧ fx w p 3 = some (.int .i64 q.size) ∧ ∀ i, pm w p i = false :=
 ⟨by rw [fy h]; rfl, by rw [fy h]; rfl, by rw [fy h]; rfl, by rw [fy h]; rfl, mj h⟩
theorem abm (S : St w0 w (Eng.jp T.ad 1 ng v ps :: R)) {j : Nat} (hj : j < ps.length) : ∃ b o, (∀ w' K, iaT P T.q v (.int .i64 (j : Nat)) w' K = K (.pointer (some ⟨b, o, none⟩)) w') ∧ ∀ {w1 : World} {R1 : List Asn}, St w0 w1 (Eng.jp T.ad 1 ng v ps :: R1) → fx w1 b o = some (jd ps[j]) := by
 obtain ⟨b, o, cap, hv, _, _, hc⟩ := (S.jp ta : Sl w 1 ng v ps).at hj
 refine ⟨b, o + j, fun w' K => by rw [hv]; simp [hj], fun {w1 R1} S1 => ?_⟩
 obtain ⟨b', o', cap', hv', _, _, hc'⟩ := (S1.jp ta : Sl w1 1 ng v ps).at hj
 have hx := hv.symm.trans hv'
 cases hx
 have c0 := hc' 0 _ rfl
 simp only [Nat.mul_one, Nat.add_zero] at c0
 exact c0
theorem xx (S : St w0 w (Eng.jp T.ad 1 ng v ps :: R)) (w' : World) (K : KV) : biT P .len #[T.q] T.b [false] [v] w' K = K (.int .i64 ps.length) w' := by rw [(S.jp ta : Sl w 1 ng v ps).ip (by kernel_rfl)]
theorem abf (hl : ps.length = L.fq.length) (S : St w0 w (gc p (nc hb L.gp v) T.ac :: Eng.jp T.ad 1 ng v ps :: R)) (hfew : ps.length ≤ 1000000) {K : KV} (h0 : ps = [] → K (.pointer none) w) (h1 : ∀ (hp : 0 < ps.length) w', Fr (fun _ => False) w w' → K (jd (ps[ps.length - 1]'(by omega))) w') : fk P F.bp [jd p] w K := by
 rw [M.dp.fcall]
 apply M.dp.calls
 unfold M.dp jd
 obtain ⟨c0, c1, c2, _⟩ := ll S.blk
 have hlen := fun w' K => xx S.swap w' K
 by_cases hz : ps.length = 0
 ·simp [c2, hlen, hz]
  exact h0 (List.length_eq_zero_iff.1 hz)
 ·have hp : 0 < ps.length := by omega
  have hz' : ¬ ps = [] := fun h => hz (by rw [h]; rfl)
  obtain ⟨b, o, hia, hc⟩ := abm S.swap (j := ps.length - 1) (by omega)
  have cc : fx w b o = some (jd (ps[ps.length - 1]'(by omega))) := hc S.swap
  have hw : IntKind.i64.wrap ((ps.length : Int) - 1) = ((ps.length - 1 : Nat) : Int) := by rw [ft (by omega) (by omega)]; omega
  simp [c2, hlen, hz']
  unfold M.dp.j0
  simp [c2, hlen, hw, hia, cc]
  exact h1 hp _ ((Fr.refl _ w).dr 1)
theorem acw {qs : List Prt} (h : 0 < qs.length) : qs.getLast? = some (qs[qs.length - 1]'(by omega)) := by
 rw [List.getLast?_eq_getElem?, List.getElem?_eq_getElem (by omega)]
theorem aje (hl : ps.length = L.fq.length) (S : St w0 w (gc p (nc hb L.gp v) T.ac :: Eng.jp T.ad 1 ng v ps :: qu mw ps L.fq :: R)) (hfew : ps.length ≤ 1000000) {K : KV} (h : ∀ w', Fr (fun _ => False) w w' → K (.int .i64 L.next) w') : fk P F.co [jd p] w K := by
 rw [M.dn.fcall]
 apply M.dn.calls
 unfold M.dn
 refine abf hl S hfew (fun hz => ?_) fun hp w1 f1 => ?_
 ·have : L.fq = [] := List.length_eq_zero_iff.1 (by rw [← hl, hz]; rfl)
  have hn : L.next = 0 := by unfold Lg.next; rw [this]; rfl
  rw [hn] at h
  simp
  exact h w (Fr.refl _ _)
 ·have hj : ps.length - 1 < L.fq.length := by omega
  have S1 := S.iu f1
  obtain ⟨v', S2⟩ := uk (wx hl hj S1.up2)
  obtain ⟨_, d1, d2, _, _⟩ := kc S2.blk
  have hn : L.next = IntKind.i64.wrap ((L.fq[ps.length - 1]).first + (L.fq[ps.length - 1]).ga.length) := by
   unfold Lg.next
   rw [acw (by omega)]
   simp only [hl]
  rw [hn] at h
  generalize L.fq[ps.length - 1] = q at *
  have hlen := fun w' K => zc S2.swap w' K
  simp only [jd]
  simp
  unfold M.dn.j0
  simp [d1, d2, hlen]
  exact h _ (f1.dr 1)
def Lg.jc (L : Lg) : Int := match L.fq with
 | [] => 0
 | q :: _ => q.first
theorem azn (S : St w0 w (la p hb L :: R)) {K : KV} (h : K (.int .i64 L.jc) w) : fk P F.ee [jd p] w K := by
 obtain ⟨v, ps, hl, S1⟩ := ahn S
 rw [M.di.fcall]
 apply M.di.calls
 unfold M.di jd
 obtain ⟨c0, c1, c2, _⟩ := ll S1.blk
 have hlen := fun w' K => xx S1.swap w' K
 unfold Lg.jc at h
 cases hq : L.fq with
 | nil =>
  rw [hq] at h hl
  have hz : ps = [] := List.length_eq_zero_iff.1 hl
  subst hz
  simp [c2, hlen]
  exact h
 | cons q qs =>
  rw [hq] at h hl S1
  have hz : 0 < ps.length := by rw [hl]; simp
  have hz' : ¬ ps = [] := fun h => by rw [h] at hz; simp at hz
  obtain ⟨b, o, hia, hc⟩ := abm S1.swap (j := 0) hz
  have hia0 : ∀ w' K, iaT P T.q v (.int .i64 0) w' K = K (.pointer (some ⟨b, o, none⟩)) w' := hia
  have cc : fx w b o = some (.pointer (some ⟨ps[0], 0, none⟩)) := hc S1.swap
  obtain ⟨v', S2⟩ := uk (wx (j := 0) hl (by simp) S1.up2)
  obtain ⟨_, d1, _⟩ := kc S2.blk
  simp only [List.getElem_cons_zero] at d1
  simp [c2, hlen, hz']
  unfold M.di.j0
  simp [c2, hia0, cc, d1]
  exact h
def Lg.mu (L : Lg) (D : Dk) : Dk × Int := if D.gr then (D, 10) else match L.fq.getLast? with
 | none => (D, 0)
 | some q => D.mu q.no
theorem ars {D : Dk} (S : St w0 w (la p hb L :: gk hb D :: R)) (hfew : L.fq.length ≤ 1000000) {K : KV} (h : ∀ w', St w0 w' (la p hb L :: gk hb (L.mu D).1 :: R) → K (.int .i64 (L.mu D).2) w') : fk P F.ds [jd p] w K := by
 obtain ⟨v, ps, hl, S1⟩ := ahn S
 rw [M.dm.fcall]
 apply M.dm.calls
 unfold M.dm
 obtain ⟨c0, c1, c2, _⟩ := ll S1.blk
 simp only [jd]
 simp [c0]
 refine adz S1.up3 ?_
 unfold Lg.mu at h
 cases hd : D.gr with
 | true =>
  rw [hd] at h
  simp
  exact h w S
 | false =>
  rw [hd] at h
  simp only [Bool.false_eq_true, if_false] at h
  simp
  refine abf hl S1 (by omega) (fun hz => ?_) fun hp w1 f1 => ?_
  ·have : L.fq = [] := List.length_eq_zero_iff.1 (by rw [← hl, hz]; rfl)
   rw [this] at h
   simp
   exact h w S
  ·simp only [jd]
   simp
   unfold M.dm.j0
   have S2 := S1.iu f1
   obtain ⟨e0, _, _, _⟩ := ll S2.blk
   have S3 := S2.iu ((Fr.refl _ w1).dr 1)
   simp [e0]
   refine abf hl S3 (by omega) (fun hz => by rw [hz] at hp; simp at hp) fun hp w2 f2 => ?_
   have S4 := S3.iu f2
   obtain ⟨g0, _, _, _⟩ := ll S4.blk
   have hj : ps.length - 1 < L.fq.length := by omega
   obtain ⟨v', S5⟩ := uk (wx hl hj S4.up2)
   obtain ⟨d0, _, _, _, _⟩ := kc S5.blk
   have hgl : L.fq.getLast? = some (L.fq[ps.length - 1]) := by rw [acw (by omega)]; simp only [hl]
   rw [hgl] at h
   simp only at h
   simp [jd, g0, d0]
   refine atu S4.up3 _ fun w3 S6 => ?_
   exact h w3 (yj hl S6.dn3)
end
set_option maxRecDepth 100000
open Go.Eng Go.Proofs.YtfnhoaemapheoaaGreat.Sint
def Lg.all (L : Lg) : List (List Int) := L.fq.flatMap Prt.ga
section
variable {w0 w : World} {R : List Asn} {p hb : Nat} {v : Value} {ps : List Nat} {L : Lg} {q : Prt}
theorem afq {l : List Int} (S : St w0 w (jt v l :: R)) : ∃ s : SV, v = s.v := by
 obtain ⟨a, c, hv, _⟩ : SlB w v l := S.row je
 exact ⟨⟨a, l.length, c⟩, hv⟩
def RiI (w0 : World) (rv : Value) (acc ls : List (List Int)) (R : List Asn) : KL := fun x w1 => ∃ (u0 av : Value) (j : Nat), x = [u0, av, .int .i64 (j : Nat)] ∧ j ≤ ls.length ∧ St w0 w1 (jv av (acc ++ ls.take j) :: jv rv ls :: R)
def RoI (w0 : World) (p hb : Nat) (L : Lg) (v : Value) (ps : List Nat) (R : List Asn) : KL := fun x w1 => ∃ (u0 u1 u2 u3 u4 av : Value) (i : Nat), x = [u0, u1, u2, u3, u4, av, .int .i64 (i : Nat)] ∧ i ≤ L.fq.length ∧
 St w0 w1 (jv av ((L.fq.take i).flatMap Prt.ga) :: gc p (nc hb L.gp v) T.ac :: Eng.jp T.ad 1 ng v ps :: qu mw ps L.fq :: R)
theorem bdv {qs : List Prt} {i : Nat} (hi : i < qs.length) (j : Nat) : ((qs.take i).flatMap Prt.ga ++ (qs[i].ga).take j).length ≤ (qs.flatMap Prt.ga).length := by
 have e : qs.flatMap Prt.ga = (qs.take i).flatMap Prt.ga ++ (qs[i].ga ++ (qs.drop (i + 1)).flatMap Prt.ga) := by
  conv => lhs; rw [← List.take_append_drop i qs, List.drop_eq_getElem_cons hi]
  rw [List.flatMap_append, List.flatMap_cons]
 rw [e]
 simp only [List.length_append, List.length_take]
 omega
theorem bdo (S : St w0 w (la p hb L :: R)) (hfew : L.fq.length ≤ 1000000) (hall : L.all.length ≤ 1000000) (hrec : ∀ q ∈ L.fq, ∀ d ∈ q.ga, d.length ≤ 100000000) {K : KV} (h : ∀ w' v', St w0 w' (jv v' L.all :: la p hb L :: R) → K v' w') : fk P F.bw [jd p] w K := by
 obtain ⟨v, ps, hl, S1⟩ := ahn S
 rw [M.bb.fcall]
 apply M.bb.calls
 unfold M.bb jd
 obtain ⟨c0, c1, c2, _⟩ := ll S1.blk
 have hlen := fun w' K => xx S1.swap w' K
 simp
 unfold M.bb.j0
 simp [c2, hlen]
 have S2 := amp S1
 refine ⟨RoI w0 p hb L v ps R, fun x _ => L.fq.length - ms x 6, ⟨_, _, _, _, _, _, 0, rfl, Nat.zero_le _, S2⟩, ?_⟩
 rintro x w1 ⟨u0, u1, u2, u3, u4, av, i, rfl, hi, S3⟩
 by_cases hlt : i < L.fq.length
 ·have hltp : i < ps.length := by omega
  have hlti : (i : Int) < (ps.length : Int) := by omega
  obtain ⟨b, o, hia, hc⟩ := abm S3.up2 (j := i) hltp
  have cc : fx w1 b o = some (jd ps[i]) := hc S3.up2
  simp [hlti]
  unfold M.bb.j3
  obtain ⟨rv, S4⟩ := uk (wx hl hlt S3.up3)
  obtain ⟨_, _, d2, _, _⟩ := kc S4.blk
  have hq2 := hrec _ (List.getElem_mem hlt : L.fq[i] ∈ L.fq)
  have hrl : ∀ j, ((L.fq.take i).flatMap Prt.ga ++ (L.fq[i].ga).take j).length ≤ 1000000 := fun j => Nat.le_trans (bdv hlt j) hall
  have hnext : (L.fq.take i).flatMap Prt.ga ++ L.fq[i].ga = (L.fq.take (i + 1)).flatMap Prt.ga := by rw [List.take_succ_eq_append_getElem hlt, List.flatMap_append]; simp
  have S5 : St w0 w1 (jv av ((L.fq.take i).flatMap Prt.ga) :: jv rv L.fq[i].ga :: gc ps[i] (sw L.fq[i] rv) T.af :: ajd mw ps L.fq i :: gc p (nc hb L.gp v) T.ac :: Eng.jp T.ad 1 ng v ps :: R) := S4.up3.perm (.cons _ (.swap _ _ _))
  have hback : ∀ {w2 : World} {av' : Value} {A : List (List Int)}, St w0 w2 (jv av' A :: jv rv L.fq[i].ga :: gc ps[i] (sw L.fq[i] rv) T.af :: ajd mw ps L.fq i :: gc p (nc hb L.gp v) T.ac :: Eng.jp T.ad 1 ng v ps :: R) → St w0 w2 (jv av' A :: gc p (nc hb L.gp v) T.ac :: Eng.jp T.ad 1 ng v ps :: qu mw ps L.fq :: R) := fun T => (bav hl hlt (aky (St.dn3 (T.perm (.cons _ (.swap _ _ _)))))).dn3
  generalize (L.fq.take i).flatMap Prt.ga = A at *
  generalize hrs : L.fq[i].ga = rs at *
  generalize gc ps[i] (sw L.fq[i] rv) T.af :: ajd mw ps L.fq i :: gc p (nc hb L.gp v) T.ac :: Eng.jp T.ad 1 ng v ps :: R = R' at S5 hback
  have hlen2 := fun w' K => zc S5.swap w' K
  simp only [jd] at cc d2
  simp [jd, hia, cc, d2, hlen2]
  have h0 : RiI w0 rv A rs R' [gv [u0, u1, u2, u3, u4, av, .int .i64 (i : Nat)] 4, gv [u0, u1, u2, u3, u4, av, .int .i64 (i : Nat)] 5, .int .i64 ((0 : Nat) : Int)] w1 := ⟨_, _, 0, rfl, Nat.zero_le _, by rw [List.take_zero, List.append_nil]; exact S5⟩
  refine ⟨RiI w0 rv A rs R', fun x _ => rs.length - ms x 2, h0, ?_⟩
  rintro x w2 ⟨t0, bv, j, rfl, hj, S6⟩
  by_cases hltj : j < rs.length
  ·have hltji : (j : Int) < (rs.length : Int) := by omega
   obtain ⟨b2, o2, s, hia2, _, hc2, hs2⟩ := adr S6.swap hltj
   simp [hltji]
   unfold M.bb.j6
   simp only [SV.v] at hc2
   simp [hia2, hc2]
   refine zy S6 hs2 (hq2 _ (List.getElem_mem hltj)) fun w3 v3 S7 => ?_
   obtain ⟨s3, rfl⟩ := afq S7
   refine aci S7 (Nat.le_trans (by simp) (hrl j)) fun w4 v4 S8 => ?_
   rw [List.append_assoc, ← List.take_succ_eq_append_getElem hltj] at S8
   have hw : IntKind.i64.wrap ((j : Int) + 1) = ((j + 1 : Nat) : Int) := by have := hrl rs.length; simp at this; rw [ft (by omega) (by omega)]; omega
   try simp
   rw [hw]
   refine ⟨⟨_, _, j + 1, rfl, hltj, S8⟩, ?_⟩
   simp [ms, gv]; omega
  ·have hge : ¬ (j : Int) < (rs.length : Int) := by omega
   simp [hge]
   have hw : IntKind.i64.wrap ((i : Int) + 1) = ((i + 1 : Nat) : Int) := by rw [ft (by omega) (by omega)]; omega
   rw [hw]
   rw [List.take_of_length_le (by omega), hnext] at S6
   refine ⟨⟨_, _, _, _, _, _, i + 1, rfl, hlt, hback S6⟩, ?_⟩
   simp [ms, gv]; omega
 ·have hge : ¬ (i : Int) < (ps.length : Int) := by omega
  simp [hge]
  have he : (L.fq.take i).flatMap Prt.ga = L.all := by rw [List.take_of_length_le (by omega)]; rfl
  rw [he] at S3
  exact h w1 av (yj hl S3.dn3).swap
end
set_option maxRecDepth 100000
open Go.Eng Go.Proofs.YtfnhoaemapheoaaGreat.Sint
def kw (n : Int) : List Prt → Dk → (List Prt × Dk) × Int
 | q :: q2 :: r, D => if q2.first ≤ n then (if (D.oc q.no).2 = 0 then kw n (q2 :: r) (D.oc q.no).1 else ((q :: q2 :: r, (D.oc q.no).1), (D.oc q.no).2)) else ((q :: q2 :: r, D), 0)
 | qs, D => ((qs, D), 0)
def Lg.drop (L : Lg) (D : Dk) (n : Int) : (Lg × Dk) × Int := if n < 0 ∨ L.next < n then ((L, D), 1) else if D.gr then ((L, D), 10) else (({ L with fq := (kw n L.fq D).1.1 }, (kw n L.fq D).1.2), (kw n L.fq D).2)
section
variable {w0 w : World} {R : List Asn} {p hb : Nat} {v : Value} {ps : List Nat} {L : Lg} {q : Prt} {D : Dk}
theorem aax {cs cs' : Array Value} {e : TypeId} {b i : Nat} {u : Value} (S : St w0 w (gc b cs e :: R)) (hc : cs.setIfInBounds i u = cs') : St w0 (w.setCell ⟨b, i, none⟩ u) (gc b cs' e :: R) :=
 S.lg ((Fr.refl (fun x => x = b) w).setCell (.inl rfl) _ _) ((kt S.blk).trans (by rw [hc]))
def aou (p : Nat) (w : World) : Nat := match fx w p 2 with
 | some (.slice _ n _) => n
 | _ => 0
def dkL (p hb : Nat) (gp : Int) (v : Value) (ps : List Nat) (qs : List Prt) (D : Dk) (R : List Asn) : List Asn := gc p (nc hb gp v) T.ac :: Eng.jp T.ad 1 ng v ps :: qu mw ps qs :: gk hb D :: R
theorem asq {gp : Int} {qs : List Prt} (hl : ps.length = qs.length) (S : St w0 w (dkL p hb gp v ps qs D R)) : aou p w = qs.length := by
 unfold dkL at S
 obtain ⟨_, _, c2, _⟩ := ll S.blk
 obtain ⟨a, c, hv, _⟩ := (S.swap.jp ta : Sl w 1 ng v ps)
 unfold aou
 rw [c2, hv]
 exact hl
def DpI (w0 : World) (p hb : Nat) (n : Int) (L : Lg) (D : Dk) (R : List Asn) : KL := fun x w1 => ∃ (u0 u1 v : Value) (ps : List Nat) (qs : List Prt) (D' : Dk), x = [u0, u1] ∧ ps.length = qs.length ∧ qs.length ≤ 1000000 ∧ kw n L.fq D = kw n qs D' ∧ St w0 w1 (dkL p hb L.gp v ps qs D' R)
theorem awo {n : Int} {qs : List Prt} (h : ∀ (h1 : 1 < qs.length), n < qs[1].first) : kw n qs D = ((qs, D), 0) := by
 match qs with
 | [] => rfl
 | [q] => rfl
 | q :: q2 :: r =>
  have := h (by simp)
  simp only [List.getElem_cons_succ, List.getElem_cons_zero] at this
  rw [kw, if_neg (by omega)]
theorem azg (S : St w0 w (dkL p hb L.gp v ps L.fq D R)) (hl : ps.length = L.fq.length) (hfew : L.fq.length ≤ 1000000) (n : Int) {u0 u1 : Value} {K : KV}
  (h : ∀ w' v' ps', ps'.length = (kw n L.fq D).1.1.length → St w0 w' (dkL p hb L.gp v' ps' (kw n L.fq D).1.1 (kw n L.fq D).1.2 R) → K (.int .i64 (kw n L.fq D).2) w') :
  gy [u0, u1] w fun K2 x2 w => M.br.j2 (jd p) (.int .i64 n) (fun _ w => K (.int .i64 0) w) x2 K2 w K := by
 refine ⟨DpI w0 p hb n L D R, fun _ w => aou p w, ⟨_, _, v, ps, L.fq, D, rfl, hl, hfew, rfl, S⟩, ?_⟩
 rintro x w1 ⟨t0, t1, v, ps, qs, D', rfl, hl, hfew, hdr, S1⟩
 have hmeas := asq hl S1
 unfold dkL at S1
 unfold M.br.j2
 obtain ⟨c0, c1, c2, _⟩ := ll S1.blk
 have hlen := fun w' K => xx S1.swap w' K
 simp only [jd]
 have gg : (∀ (h1 : 1 < qs.length), n < qs[1].first) → K (.int .i64 0) w1 := fun hst => by
  have e := awo (D := D') hst
  rw [hdr, e] at h
  exact h w1 v ps hl S1
 by_cases h1 : 1 < qs.length
 ·have h1' : 1 < ps.length := by omega
  have h1i : (1 : Int) < (ps.length : Int) := by omega
  obtain ⟨b, o, hia, hc⟩ := abm S1.swap (j := 1) h1'
  have hia1 : ∀ w' K, iaT P T.q v (.int .i64 1) w' K = K (.pointer (some ⟨b, o, none⟩)) w' := hia
  have cc : fx w1 b o = some (jd ps[1]) := hc S1.swap
  obtain ⟨rv, S2⟩ := uk (wx (j := 1) hl h1 S1.up2)
  obtain ⟨_, d1, _⟩ := kc S2.blk
  simp only [jd] at cc
  simp [c2, hlen, h1i, hia1, cc, d1]
  by_cases hle : qs[1].first ≤ n
  ·simp [hle]
   unfold M.br.j3
   obtain ⟨q, q2, r, rfl⟩ : ∃ q q2 r, qs = q :: q2 :: r := by
    match qs, h1 with
    | q :: q2 :: r, _ => exact ⟨q, q2, r, rfl⟩
   obtain ⟨b', o', hia', hc'⟩ := abm S1.swap (j := 0) (by omega)
   have hia0 : ∀ w' K, iaT P T.q v (.int .i64 0) w' K = K (.pointer (some ⟨b', o', none⟩)) w' := hia'
   have cc0 : fx w1 b' o' = some (jd ps[0]) := hc' S1.swap
   obtain ⟨rv0, S3⟩ := uk (wx (j := 0) hl (by simp) S1.up2)
   obtain ⟨e0, _⟩ := kc S3.blk
   simp only [List.getElem_cons_zero] at e0
   simp only [jd] at cc0
   simp [c0, c2, hia0, cc0, e0]
   refine anh (S1.iu ((Fr.refl _ w1).dr 1)).up3 q.no fun w2 S4 => ?_
   have S5 := S4.dn3
   have hle' : q2.first ≤ n := hle
   rw [kw, if_pos hle'] at hdr
   by_cases hk : (D'.oc q.no).2 = 0
   ·rw [if_pos hk] at hdr
    rw [hk]
    simp
    unfold M.br.j4
    obtain ⟨g0, g1, g2, gz⟩ := ll S5.blk
    cases ps with
    | nil => simp at h1'
    | cons p0 ps =>
     obtain ⟨v', S6, hsl⟩ := S5.swap.bgl (P := P) (t := T.q) ta (by kernel_rfl) (by kernel_rfl) (i := 1) (by simp) (k := .i64)
     have hsl1 : ∀ w1 K, slT P T.q v (some (.int .i64 1)) none none w1 K = K v' w1 := hsl
     have S7 : St w0 w2 (Eng.jp T.ad 1 ng v' ps :: qu mw ps (q2 :: r) :: gc p (nc hb L.gp v) T.ac :: gk hb (D'.oc q.no).1 :: R) := (bba S6.up2).swap
     obtain ⟨a', cap', hv', _⟩ := (S7.jp ta : Sl w2 1 ng v' ps)
     generalize ps.length = n1 at hv'
     subst hv'
     have S8 : St w0 (w2.setCell ⟨p, 2, none⟩ (.slice a' n1 cap')) (gc p (nc hb L.gp (.slice a' n1 cap')) T.ac :: _) := aax S7.up2 (cs' := nc hb L.gp (.slice a' n1 cap')) rfl
     simp [g2, hsl1, gz]
     have hnew : St w0 (w2.setCell ⟨p, 2, none⟩ (.slice a' n1 cap')) (dkL p hb L.gp (.slice a' n1 cap') ps (q2 :: r) (D'.oc q.no).1 R) := S8
     refine ⟨⟨_, _, _, ps, q2 :: r, _, rfl, by simpa using hl, by simp at hfew ⊢; omega, hdr, hnew⟩, ?_⟩
     rw [hmeas, asq (by simpa using hl) hnew]
     simp
   ·rw [if_neg hk] at hdr
    have hkd : decide ((D'.oc q.no).2 = 0) = false := decide_eq_false hk
    rw [hdr] at h
    simp [hk]
    exact h w2 v ps hl S5
  ·simp [hle]
   exact gg fun _ => by omega
 ·have h1i : ¬ (1 : Int) < (ps.length : Int) := by omega
  simp [c2, hlen, h1i]
  exact gg fun hx => (h1 hx).elim
theorem bdq (S : St w0 w (la p hb L :: gk hb D :: R)) (hfew : L.fq.length ≤ 1000000) (n : Int) {K : KV} (h : ∀ w', St w0 w' (la p hb (L.drop D n).1.1 :: gk hb (L.drop D n).1.2 :: R) → K (.int .i64 (L.drop D n).2) w') : fk P F.ej [jd p, .int .i64 n] w K := by
 obtain ⟨v, ps, hl, S1⟩ := ahn S
 rw [M.br.fcall]
 apply M.br.calls
 unfold M.br
 simp only [jd]
 unfold Lg.drop at h
 by_cases hn : n < 0
 ·rw [if_pos (.inl hn)] at h
  simp [hn]
  exact h w S
 ·simp [hn]
  refine aje hl S1 (by omega) fun w1 f1 => ?_
  have S2 := S1.iu f1
  by_cases hx : L.next < n
  ·rw [if_pos (.inr hx)] at h
   simp [hx]
   exact h w1 (S.iu f1)
  ·rw [if_neg (by omega)] at h
   simp [hx]
   obtain ⟨c0, _⟩ := ll S2.blk
   simp [c0]
   refine adz S2.up3 ?_
   cases hd : D.gr with
   | true =>
    rw [hd] at h
    simp
    exact h w1 (S.iu f1)
   | false =>
    rw [hd] at h
    simp
    exact azg S2 hl hfew n fun w2 v' ps' hl' S3 => h w2 (yj (L := { L with fq := (kw n L.fq D).1.1 }) hl' S3)
end
set_option maxRecDepth 100000
open Go.Eng Go.Proofs.YtfnhoaemapheoaaGreat.Sint
def mn (n : Int) : List Int := ii (lb (IntKind.u64.wrap n))
theorem agk (n : Int) : (mn n).length = 16 := by unfold mn; rw [mo, qe]
def Lg.zu (L : Lg) (D : Dk) (rec : List Int) (no : Int) : (Lg × Dk) × Int :=
 if (D.append no (mn L.next ++ ii rec)).2 = 0 then (({ L with fq := L.fq ++ [⟨no, L.next, [rec], (mn L.next ++ ii rec).length⟩] }, (D.append no (mn L.next ++ ii rec)).1), 0)
 else ((L, (D.append no (mn L.next ++ ii rec)).1), (D.append no (mn L.next ++ ii rec)).2)
def Lg.zm (L : Lg) (D : Dk) (rec : List Int) : (Lg × Dk) × Int := match L.fq.getLast? with
 | none => L.zu D rec 0
 | some q => if 63 ≤ L.fq.length then ((L, D), 9) else if (D.mu q.no).2 = 0 then L.zu (D.mu q.no).1 rec ((q.no + 1) % 64) else ((L, (D.mu q.no).1), (D.mu q.no).2)
def Prt.sd (q : Prt) (rec : List Int) : Prt := { q with ga := q.ga ++ [rec], size := q.size + (ii rec).length }
def Lg.append (L : Lg) (D : Dk) (rec : List Int) : (Lg × Dk) × Int :=
 if 8192 < rec.length then ((L, D), 4) else match L.fq.getLast? with
 | none => L.zm D rec
 | some q => if L.gp ≤ q.size then L.zm D rec else if (D.append q.no (ii rec)).2 = 0 then (({ L with fq := L.fq.set (L.fq.length - 1) (q.sd rec) }, (D.append q.no (ii rec)).1), 0)
  else ((L, (D.append q.no (ii rec)).1), (D.append q.no (ii rec)).2)
structure LgB (L : Lg) : Prop where
 few : L.fq.length ≤ 64
 rng : ∀ q ∈ L.fq, 0 ≤ q.no ∧ q.no < 64
 ga : ∀ q ∈ L.fq, q.ga.length ≤ 1000000
 size : ∀ q ∈ L.fq, 0 ≤ q.size ∧ q.size ≤ 10000000
section
variable {w0 w : World} {R : List Asn} {p hb np : Nat} {v lv fv : Value} {ps : List Nat} {L : Lg} {q : Prt} {D : Dk} {rec : List Int} {no : Int}
theorem up5 {a b c d e f : Asn} (h : St w0 w (a :: b :: c :: d :: e :: f :: R)) : St w0 w (f :: a :: b :: c :: d :: e :: R) := h.perm (List.perm_middle (l₁ := [a, b, c, d, e]))
theorem dn5 {a b c d e f : Asn} (h : St w0 w (f :: a :: b :: c :: d :: e :: R)) : St w0 w (a :: b :: c :: d :: e :: f :: R) := h.perm (List.perm_middle (l₁ := [a, b, c, d, e])).symm
theorem up6 {a b c d e f g : Asn} (h : St w0 w (a :: b :: c :: d :: e :: f :: g :: R)) : St w0 w (g :: a :: b :: c :: d :: e :: f :: R) := h.perm (List.perm_middle (l₁ := [a, b, c, d, e, f]))
theorem dn6 {a b c d e f g : Asn} (h : St w0 w (g :: a :: b :: c :: d :: e :: f :: R)) : St w0 w (a :: b :: c :: d :: e :: f :: g :: R) := h.perm (List.perm_middle (l₁ := [a, b, c, d, e, f])).symm
theorem adi (S : St w0 w R) (cs : Array Value) (e : TypeId) : St w0 (w.alloc (.cells cs e)) (gc w.heap.size cs e :: R) := S.add ((Fr.refl _ w).alloc _) (B := fun x => x = w.heap.size) ⟨by rw [gm, if_pos rfl], rfl⟩ fun x hx => by subst hx; rw [ja]; omega
theorem aps {s : SV} {d : List Int} (S : St w0 w (jt s.v d :: R)) {K : KV} (h : ∀ w' s', St w0 w' (jv (SV.v s') [d] :: R) → K s'.v w') : bsT P T.m 1 #[(0, s.v)] w K := by
 have hbs : ∀ K', bsT P T.m 1 #[(0, s.v)] w K' = K' (.slice (some ⟨w.heap.size, 0, none⟩) 1 1) (w.alloc (.cells #[s.v] T.e)) := fun K' => by unfold SV.v; simp
 rw [hbs]
 have S2 : St w0 (w.alloc (.cells #[s.v] T.e)) (uf T.e 1 oa (.slice (some ⟨w.heap.size, 0, none⟩) 1 1) [s] :: jt s.v d :: R) := St.aed (l := [s]) S sr rfl (by unfold maxLen; simp)
 have T1 : St w0 (w.alloc (.cells #[s.v] T.e)) (pu (nj [s] [d]) :: Eng.jp T.e 1 oa (.slice (some ⟨w.heap.size, 0, none⟩) 1 1) [s] :: R) := St.all.2 S2.off.swap
 exact h _ ⟨some ⟨w.heap.size, 0, none⟩, 1, 1⟩ (akh (vs := [s]) rfl T1.swap)
theorem atc {ls : List (List Int)} (S : St w0 w (jv lv ls :: R)) : ∃ s : SV, lv = s.v := by
 obtain ⟨a, c, hv⟩ := awd S
 exact ⟨⟨a, _, c⟩, hv⟩
theorem abc {l : List Int} (S : St w0 w (jt v l :: R)) (w' : World) (K : KV) : biT P .len #[T.e] T.b [false] [v] w' K = K (.int .i64 l.length) w' := (S.row je : SlB w v l).ip (by kernel_rfl) [false]
def bgL (np p hb : Nat) (lv : Value) (no : Int) (rec : List Int) (v : Value) (ps : List Nat) (L : Lg) (D : Dk) (R : List Asn) : List Asn :=
 gc np (sw ⟨no, L.next, [rec], 0⟩ lv) T.af :: jv lv [rec] :: gc p (nc hb L.gp v) T.ac :: Eng.jp T.ad 1 ng v ps :: qu mw ps L.fq :: gk hb D :: R
theorem anl (hl : ps.length = L.fq.length) (hb64 : L.fq.length ≤ 1000000) (S : St w0 w (mw np q :: gc p (nc hb L.gp v) T.ac :: Eng.jp T.ad 1 ng v ps :: qu mw ps L.fq :: R)) {Q : World → Prop} (h : ∀ w', St w0 w' (la p hb { L with fq := L.fq ++ [q] } :: R) → Q w') :
  ld1 P p 2 w fun t87 w => biT P .append #[T.q, T.q] T.q [false, false] [t87, .slice (some ⟨w.heap.size, 0, none⟩) 1 1] (w.alloc (.cells #[.pointer (some ⟨np, 0, none⟩)] T.ad)) fun t90 w => stT P T.q (.pointer (some ⟨p, 2, none⟩)) t90 w fun _ w => Q w := by
 obtain ⟨_, _, c2, _⟩ := ll S.swap.blk
 have S1 := (bbg hl S.up3.swap).up2
 simp [c2]
 have S2 : St w0 (w.alloc (.cells #[.pointer (some ⟨np, 0, none⟩)] T.ad)) (uf T.ad 1 ng (.slice (some ⟨w.heap.size, 0, none⟩) 1 1) [np] :: _) := St.aed (l := [np]) S1 ta rfl (by unfold maxLen; simp)
 refine aow et.q ta bbq S2.swap (S2.row ta) (by simp; omega) (by decide) fun w2 v2 S3 => ?_
 have S4 := S3.swap.drop
 obtain ⟨a', cap', hv', _⟩ := (S4.jp ta : Sl w2 1 ng v2 (ps ++ [np]))
 generalize hln : (ps ++ [np]).length = n1 at hv'
 subst hv'
 obtain ⟨_, _, g2, gz⟩ := ll S4.up2.blk
 simp [gz, g2]
 have S5 := aax (cs' := nc hb L.gp (.slice a' n1 cap')) (i := 2) (u := .slice a' n1 cap') S4.up2 rfl
 exact h _ (yj (L := { L with fq := L.fq ++ [q] }) (by simp [hl]) S5)
theorem amw (S : St w0 w (bgL np p hb lv no rec v ps L D R)) (hl : ps.length = L.fq.length) (hb64 : L.fq.length ≤ 1000000) (hrec : rec.length ≤ 8192) (hfs : ∀ w' L', St w0 w' (L' ++ R) → SlB w' fv (ii rec)) {x0 : List Value} {K : KV}
  (h : ∀ w', St w0 w' (la p hb (L.zu D rec no).1.1 :: gk hb (L.zu D rec no).1.2 :: R) → K (.int .i64 (L.zu D rec no).2) w') : M.ax.j0 (jd np) fv (jd p) x0 w K := by
 unfold bgL at S
 unfold M.ax.j0
 obtain ⟨d0, d1, d2, d3, dz⟩ := kc S.blk
 simp only [jd]
 simp [d1]
 refine aqc (qz S) (by simp) _ fun w1 v1 S1 => ?_
 refine atl S1 (v0 := .slice none 0 0) (l0 := []) (fun _ _ _ => Sl.nil) (fun w' L' S' => (S'.perm List.perm_middle).row je) (by simp) (by simp [qe]) fun w2 v2 S2 => ?_
 have e : (if 8192 < ([] ++ lb (IntKind.u64.wrap L.next)).length then [] else [] ++ ii ([] ++ lb (IntKind.u64.wrap L.next))) = mn L.next := by
  rw [List.nil_append, List.nil_append, qe, if_neg (by decide)]; rfl
 rw [e] at S2
 simp
 have hF : SlB w2 fv (ii rec) := hfs w2 (jt v2 (mn L.next) :: jt v1 ([] ++ lb (IntKind.u64.wrap L.next)) :: [_, _, _, _, _, _]) S2
 refine aql S2 (S2.row je) hF (by rw [agk, mo]; omega) fun w3 v3 S3 => ?_
 have S4 := S3.swap.drop.swap.drop
 unfold Lg.zu at h
 have hcl : (mn L.next ++ ii rec).length ≤ 1000000 := by rw [List.length_append, agk, mo]; omega
 generalize mn L.next ++ ii rec = ct at *
 obtain ⟨c0, c1, c2, cz⟩ := ll S4.up3.blk
 obtain ⟨d0, d1, d2, d3, dz⟩ := kc S4.swap.blk
 simp [c0, d0]
 refine amr (up6 (S4.iu ((Fr.refl _ w3).dr 1))) no (l := ct) (fun w' L' S' => (S'.perm List.perm_middle).row je) (by omega) fun w4 S5 => ?_
 have S6 := dn6 S5
 by_cases hk : (D.append no ct).2 = 0
 ·rw [if_pos hk] at h
  rw [hk]
  simp
  unfold M.ax.j3
  have hlen := fun w' K => abc S6 w' K
  obtain ⟨e0, e1, e2, e3, ez⟩ := kc S6.swap.blk
  simp [hlen, ez, e3]
  have S7 := (aax (cs' := sw ⟨no, L.next, [rec], ct.length⟩ lv) (i := 3) (u := .int .i64 ct.length) S6.swap rfl).swap.drop
  exact anl hl hb64 (aky S7) h
 ·rw [if_neg hk] at h
  simp [hk]
  exact h w4 (yj hl S6.drop.drop.drop)
end
set_option maxRecDepth 100000
open Go.Eng Go.Proofs.YtfnhoaemapheoaaGreat.Sint
section
variable {w0 w : World} {R : List Asn} {p hb np : Nat} {v lv fv av : Value} {ps : List Nat} {L : Lg} {q : Prt} {D : Dk} {rec : List Int} {no : Int}
theorem axk (hl : ps.length = L.fq.length) (hp : 0 < ps.length) : L.fq.getLast? = some (L.fq[ps.length - 1]'(by omega)) := by rw [acw (by omega)]; simp only [hl]
theorem apq (S : St w0 w (gc p (nc hb L.gp v) T.ac :: Eng.jp T.ad 1 ng v ps :: qu mw ps L.fq :: gk hb D :: R)) (hl : ps.length = L.fq.length) (hB : LgB L) (hrec : rec.length ≤ 8192) (hbs : ∀ w' L', St w0 w' (L' ++ R) → SlB w' av rec) (hfs : ∀ w' L', St w0 w' (L' ++ R) → SlB w' fv (ii rec)) {K : KV}
  (h : ∀ w', St w0 w' (la p hb (L.zm D rec).1.1 :: gk hb (L.zm D rec).1.2 :: R) → K (.int .i64 (L.zm D rec).2) w') : fk P F.eh [jd p, av, fv] w K := by
 rw [M.ax.fcall]
 apply M.ax.calls
 unfold M.ax
 have hfew := hB.few
 refine aje hl S (by omega) fun w1 f1 => ?_
 have S1 := S.iu f1
 refine zy S1 (hbs w1 [_, _, _, _] S1) (by omega) fun w2 v2 S2 => ?_
 obtain ⟨s, rfl⟩ := afq S2
 refine aps S2 fun w3 s3 S3 => ?_
 simp only [SV.v]
 simp
 have S4 : St w0 _ (bgL w3.heap.size p hb s3.v 0 rec v ps L D R) := adi S3 (sw ⟨0, L.next, [rec], 0⟩ s3.v) T.af
 generalize hnp : w3.heap.size = np at *
 simp only [sw, SV.v] at S4
 generalize w3.alloc (.cells #[.int .i64 0, .int .i64 L.next, .slice s3.a s3.n s3.c, .int .i64 0] T.af) = w4 at *
 have S5 : St w0 w4 (gc p (nc hb L.gp v) T.ac :: Eng.jp T.ad 1 ng v ps :: gc np (sw ⟨0, L.next, [rec], 0⟩ s3.v) T.af :: jv s3.v [rec] :: qu mw ps L.fq :: gk hb D :: R) := St.up3 (St.up3 S4)
 refine abf hl S5 (by omega) (fun hz => ?_) fun hp w5 f5 => ?_
 ·simp
  have : L.fq = [] := List.length_eq_zero_iff.1 (by rw [← hl, hz]; rfl)
  unfold Lg.zm at h
  rw [this] at h
  exact amw S4 hl (by omega) hrec hfs h
 ·simp only [jd]
  simp
  have S6 := S5.iu f5
  obtain ⟨c0, c1, c2, cz⟩ := ll S6.blk
  have hlen := fun w' K => xx S6.swap w' K
  have hgl := axk hl hp
  have hj : ps.length - 1 < L.fq.length := by omega
  have hqr := hB.rng _ (List.getElem_mem hj)
  unfold Lg.zm at h
  rw [hgl] at h
  simp only at h
  simp [c2, hlen]
  by_cases h63 : 63 ≤ L.fq.length
  ·have h63i : (63 : Int) ≤ (ps.length : Int) := by omega
   rw [if_pos h63] at h
   simp [h63i]
   exact h w5 (yj hl S6.up2.drop.up2.drop)
  ·have h63i : ¬ (63 : Int) ≤ (ps.length : Int) := by omega
   rw [if_neg h63] at h
   simp [h63i]
   unfold M.ax.j1
   obtain ⟨rv, T1⟩ := uk (wx hl hj S6.up4)
   obtain ⟨d0, _⟩ := kc T1.blk
   simp [c0, d0]
   refine atu (up5 (S6.iu ((Fr.refl _ w5).dr 1))) _ fun w6 S7 => ?_
   have S8 := dn5 S7
   generalize hqq : L.fq[ps.length - 1] = q at *
   by_cases hk : (D.mu q.no).2 = 0
   ·rw [if_pos hk] at h
    rw [hk]
    simp
    unfold M.ax.j2
    obtain ⟨rv2, T2⟩ := uk (wx hl hj S8.up4)
    rw [hqq] at T2
    obtain ⟨e0, _⟩ := kc T2.blk
    obtain ⟨_, _, _, _, nz⟩ := kc S8.up2.blk
    obtain ⟨n0, _⟩ := kc S8.up2.blk
    have hw : IntKind.i64.wrap (q.no + 1) = q.no + 1 := ft (by omega) (by omega)
    simp [e0, hw, ast, nz, n0]
    have S9 := aax (cs' := sw ⟨(q.no + 1) % 64, L.next, [rec], 0⟩ s3.v) (i := 0) (u := .int .i64 ((q.no + 1) % 64)) S8.up2 rfl
    have et : (q.no + 1).tmod 64 = (q.no + 1) % 64 := by rw [Int.tmod_eq_emod_of_nonneg (by omega)]
    rw [et]
    exact amw (St.swap S9.up3) hl (by omega) hrec hfs h
   ·rw [if_neg hk] at h
    simp [hk]
    exact h w6 (yj hl S8.up2.drop.up2.drop)
theorem avb {s : SV} {d : List Int} {ls : List (List Int)} (S : St w0 w (jt s.v d :: jv v ls :: R)) (hl : ls.length ≤ 1000000) {cs : List Bool} {ty : TypeId} {K : KV} (h : ∀ w' v', St w0 w' (jv v' (ls ++ [d]) :: R) → K v' w') :
  biT P .append #[T.m, T.m] ty cs [v, .slice (some ⟨w.heap.size, 0, none⟩) 1 1] (w.alloc (.cells #[s.v] T.e)) K := by
 have hbs : ∀ K', bsT P T.m 1 #[(0, s.v)] w K' = K' (.slice (some ⟨w.heap.size, 0, none⟩) 1 1) (w.alloc (.cells #[s.v] T.e)) := fun K' => by unfold SV.v; simp
 have := aci S hl (cs := cs) (ty := ty) h
 rwa [hbs] at this
theorem auk (S : St w0 w (la p hb L :: gk hb D :: R)) (hB : LgB L) (hrl : rec.length ≤ 1000000) (hbs : ∀ w' L', St w0 w' (L' ++ R) → SlB w' av rec) {K : KV}
  (h : ∀ w', St w0 w' (la p hb (L.append D rec).1.1 :: gk hb (L.append D rec).1.2 :: R) → K (.int .i64 (L.append D rec).2) w') : fk P F.ea [jd p, av] w K := by
 obtain ⟨v, ps, hl, S1⟩ := ahn S
 rw [M.aw.fcall]
 apply M.aw.calls
 unfold M.aw
 have hfew := hB.few
 simp only [jd]
 simp
 unfold M.aw.j0
 refine atl S1 (v0 := .slice none 0 0) (l0 := []) (fun _ _ _ => Sl.nil) (fun w' L' S' => hbs w' (L' ++ [_, _, _, _]) (by simpa using S')) (by simp) (by omega) fun w2 v2 S2 => ?_
 unfold Lg.append at h
 by_cases hbig : 8192 < rec.length
 ·rw [if_pos hbig] at h
  simp [hbig]
  exact h w2 (yj hl S2.drop)
 ·rw [if_neg hbig, List.nil_append] at S2
  rw [if_neg hbig] at h
  simp [hbig]
  unfold M.aw.j1
  have S3 : St w0 w2 (gc p (nc hb L.gp v) T.ac :: Eng.jp T.ad 1 ng v ps :: qu mw ps L.fq :: gk hb D :: jt v2 (ii rec) :: R) := S2.dn4
  have hbs3 : ∀ w' L', St w0 w' (L' ++ jt v2 (ii rec) :: R) → SlB w' av rec := fun w' L' S' => hbs w' (L' ++ [jt v2 (ii rec)]) (by simpa using S')
  have hfs3 : ∀ w' L', St w0 w' (L' ++ jt v2 (ii rec) :: R) → SlB w' v2 (ii rec) := fun w' L' S' => (S'.perm List.perm_middle).row je
  refine abf hl S3 (by omega) (fun hz => ?_) fun hp w3 f3 => ?_
  ·have : L.fq = [] := List.length_eq_zero_iff.1 (by rw [← hl, hz]; rfl)
   rw [this] at h
   simp
   exact apq (S3.iu ((Fr.refl _ w2).dr 1)) hl hB (by omega) hbs3 hfs3 fun w4 S4 => h w4 S4.up2.drop
  ·simp only [jd]
   have S4 := S3.iu f3
   have hgl := axk hl hp
   have hj : ps.length - 1 < L.fq.length := by omega
   have hqs := hB.size _ (List.getElem_mem hj)
   have hqr := hB.ga _ (List.getElem_mem hj)
   rw [hgl] at h
   simp only at h
   obtain ⟨c0, c1, c2, cz⟩ := ll S4.blk
   obtain ⟨rv, T1⟩ := uk (wx hl hj S4.up2)
   obtain ⟨d0, d1, d2, d3, dz⟩ := kc T1.blk
   simp [c1, d3]
   by_cases hm : L.gp ≤ L.fq[ps.length - 1].size
   ·rw [if_pos hm] at h
    simp [hm]
    exact apq (S4.iu ((Fr.refl _ w3).dr 1)) hl hB (by omega) hbs3 hfs3 fun w4 S5 => h w4 S5.up2.drop
   ·rw [if_neg hm] at h
    simp [hm]
    unfold M.aw.j2
    simp [c0, d0]
    refine amr (S4.iu (((Fr.refl _ w3).dr 1).dr 1)).up3 _ (fun w' L' S' => hfs3 w' (L' ++ [_, _, _]) (by simpa using S')) (by rw [mo]; omega) fun w4 S5 => ?_
    have S6 := S5.dn3
    generalize hqq : L.fq[ps.length - 1] = q at *
    by_cases hk : (D.append q.no (ii rec)).2 = 0
    ·rw [if_pos hk] at h
     rw [hk]
     simp
     unfold M.aw.j3
     obtain ⟨rv2, T2⟩ := uk (wx hl hj S6.up2)
     rw [hqq] at T2
     obtain ⟨e0, e1, e2, e3, ez⟩ := kc T2.blk
     have hlen := fun w' K => abc (v := v2) (l := ii rec) (T2.perm (List.perm_middle (l₁ := [_, _, _, _, _, _]))) w' K
     simp [e2, e3, hlen]
     have hbs4 : SlB (dr w4 1) av rec := hbs3 _ (gc ps[ps.length - 1] (sw q rv2) T.af :: jv rv2 q.ga :: ajd mw ps L.fq (ps.length - 1) :: gc p (nc hb L.gp v) T.ac :: Eng.jp T.ad 1 ng v ps :: [gk hb (D.append q.no (ii rec)).1]) (T2.iu ((Fr.refl _ w4).dr 1))
     refine zy (T2.iu ((Fr.refl _ w4).dr 1)) hbs4 (by omega) fun w5 v5 T3 => ?_
     obtain ⟨s, rfl⟩ := afq T3
     obtain ⟨_, _, e2, e3, _⟩ := kc T3.swap.blk
     have T4 := T3.iu ((Fr.refl _ w5).alloc (.cells #[s.v] T.e))
     obtain ⟨_, _, g2, g3, _⟩ := kc T4.swap.blk
     refine ⟨by simp [e3], by simp [e2], ?_⟩
     have hbs5 : ∀ K', bsT P T.m 1 #[(0, s.v)] w5 K' = K' (.slice (some ⟨w5.heap.size, 0, none⟩) 1 1) (w5.alloc (.cells #[s.v] T.e)) := fun K' => by unfold SV.v; simp
     rw [hbs5]
     refine ⟨by simp [g3], by simp [g2], ?_⟩
     refine avb (T3.perm (.cons _ (.swap _ _ _))) (by omega) fun w6 v6 T5 => ?_
     obtain ⟨s6, rfl⟩ := atc T5
     obtain ⟨_, _, m2, m3, mz⟩ := kc T5.swap.blk
     refine ⟨by simp [m3], ?_⟩
     have T6 := aax (cs' := sw { q with ga := q.ga ++ [rec] } s6.v) (i := 2) (u := s6.v) T5.swap rfl
     obtain ⟨_, _, n2, n3, nz⟩ := kc T6.blk
     have T7 := aax (cs' := sw (q.sd rec) s6.v) (i := 3) (u := .int .i64 (q.size + (ii rec).length)) T6 rfl
     have hw : IntKind.i64.wrap (q.size + ((ii rec).length : Int)) = q.size + (ii rec).length := ft (by omega) (by rw [mo]; omega)
     simp only [SV.v] at *
     simp [hw, m2, mz, n3, nz]
     have T8 := ass hl hj (aky (q := q.sd rec) T7)
     have hl' : ps.length = (L.fq.set (ps.length - 1) (q.sd rec)).length := by simpa using hl
     have T9 := yj (L := { L with fq := L.fq.set (ps.length - 1) (q.sd rec) }) hl' T8.dn2
     have hl3 : L.fq.length - 1 = ps.length - 1 := by omega
     rw [hl3] at h
     exact h _ T9.up2.drop
    ·rw [if_neg hk] at h
     simp [hk]
     exact h w4 (yj hl S6).up2.drop
end
end Go.Proofs.YtfnhoaemapheoaaGreat
