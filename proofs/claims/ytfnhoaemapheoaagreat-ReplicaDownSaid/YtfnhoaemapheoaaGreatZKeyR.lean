/-
  slices.Sorted(maps.Keys(m)) at the map type map_uint64_register_Reg. No condition.
-/
import Derived.Test.YtfnhoaemapheoaaGreatZSrtUD
import Derived.Test.YtfnhoaemapheoaaGreatZRg1
import Derived.Test.YtfnhoaemapheoaaGreatZKeyD
import Derived.Test.YtfnhoaemapheoaaGreatZEngSl
set_option maxRecDepth 100000
namespace Go.Proofs.YtfnhoaemapheoaaGreat.KeyR
open Go.Eng Go.Sort Go.Proofs.YtfnhoaemapheoaaGreat.Suint64
def KI (w W : World) (U : Nat → Prop) (r : Nat) (m : MP) (J : List Int → Asn) : KL := fun x w1 => ∃ (done : List Int) (U1 : Nat → Prop), x.length = 1 ∧ xx w1 W.heap.size r .u64 m done ∧ (J done.reverse).ok w1 U1 ∧ (∀ b, U1 b → w.heap.size ≤ b ∧ b < w1.heap.size ∧ b ≠ W.heap.size) ∧ Fr (fun b => w.heap.size ≤ b) W w1
theorem abj {w : World} {it r : Nat} {k : IntKind} {m : MP} {done : List Int} (h : xx w it r k m done) : done.Nodup ∧ ∀ x ∈ done, x ∈ jd m := by
 obtain ⟨es, clk, since, c0, il, _, _, _, _, _, _, _, _, _, h1, h2⟩ := h
 exact ⟨h1, h2⟩
theorem aiw {w : World} {r Bm : Nat} {m : MP} {e : TypeId} (hm : ou w r .u64 m) (hn : (jd m).Nodup) (hB : w.heap[Bm]? = some (.cells #[.map (some r)] e (0, 0))) (hl : m.length < 60000) :
  ahy P F.a [.pointer (some ⟨Bm, 0, none⟩)] abk (fun xs => xs.Perm (jd m)) 60000 w := by
 intro l J W U K hf hJ hU hround hend
 apply M.s.calls
 unfold M.s
 have hBm : W.heap[Bm]? = some (.cells #[.map (some r)] e (0, 0)) := hf.heap hB fun h => h
 have c0 := fx hBm 0
 simp only [List.size_toArray, List.getElem?_toArray, List.getElem?_cons_zero] at c0
 have hm' : ou W r .u64 m := hm.yv (hf.jn r hm.lt fun h => h)
 have hrw := hm.lt
 simp [c0]
 refine axm mt.r hm' fun w1 hi f1 => ?_
 have hWs := hf.size
 have hWlt := (hi.lt).1
 refine ⟨KI w W U r m J, fun _ w1 => uz w1 W.heap.size m.length, ⟨[], U, rfl, hi, (J []).jn hJ f1 fun _ _ h => h, fun b hb => ?_, f1.mono fun _ _ h => h.elim⟩, ?_⟩
 ·have := hU b hb
  have := f1.size
  exact ⟨by omega, by omega, by omega⟩
 rintro x w2 ⟨done, U1, hx1, hi2, hJ2, hU2, f2⟩
 unfold M.s.j0
 refine axj hi2 hn T.be (fun hall => ?_) fun y v w3 hy hyd hc3 f3 hlt => ?_
 ·have e0 : ∀ w K, exT P (.tuple #[.bool false]) 0 w K = K (.bool false) w := fun _ _ => rfl
  simp [e0]
  obtain ⟨h1, h2⟩ := abj hi2
  refine hend _ w2 done.reverse U1 ?_ hJ2 f2
  refine (List.reverse_perm done).trans ?_
  refine (List.perm_ext_iff_of_nodup h1 hn).2 fun z => ⟨h2 z, fun hz => ?_⟩
  obtain ⟨p, hp, rfl⟩ := List.mem_map.1 hz
  exact hall p hp
 ·simp
  rw [awc hc3]
  simp
  have hnit : ∀ b, U1 b → ¬ b = W.heap.size := fun b hb => (hU2 b hb).2.2
  have hJ3 := (J done.reverse).jn hJ2 f3 hnit
  have hlen : done.length < m.length := by
   obtain ⟨h1, h2⟩ := abj hi2
   have := ug (l := y :: done) (l' := jd m) (List.nodup_cons.2 ⟨hyd, h1⟩) fun z hz => by
    rcases List.mem_cons.1 hz with rfl | hz
    ·exact List.mem_map_of_mem hy
    ·exact h2 z hz
   simp only [jd, List.length_map, List.length_cons] at this
   omega
  have hs3 := f3.size
  refine hround done.reverse y w3 U1 _ hJ3 (fun b hb => ⟨(hU2 b hb).1, by have := (hU2 b hb).2.1; omega⟩) (by simp; omega) fun w4 U4 hJ4 hU4 f4 => ?_
  simp
  have hit : ¬ U1 W.heap.size := fun h => hnit _ h rfl
  have hr1 : ¬ U1 r := fun h => by have := (hU2 r h).1; omega
  have hi3 : xx w3 W.heap.size r .u64 m (y :: done) := hc3.1
  have hi4 := hi3.jn (f4.jn _ hi3.lt.1 hit) (f4.jn _ hi3.lt.2 hr1)
  refine ⟨⟨y :: done, U4, rfl, hi4, by simpa using hJ4, fun b hb => ?_, ?_⟩, ?_⟩
  ·rcases hU4 b hb with h | h
   ·have := hU2 b h
    have := f4.size
    exact ⟨by omega, by omega, by omega⟩
   ·have := hi3.lt.1
    have := f2.size
    exact ⟨by omega, by omega, by omega⟩
  ·refine (f2.jp f3 fun b hb he => by omega).jp f4 fun b hb he => (hU2 b he).1
  ·have : uz w4 W.heap.size m.length = uz w3 W.heap.size m.length := by
    unfold uz
    rw [f4.jn _ hi3.lt.1 hit]
   rw [this]; exact hlt
theorem akz {w : World} {r : Nat} {m : MP} (hm : ou w r .u64 m) (hn : (jd m).Nodup) (hl : m.length < 60000) {K : KV}
  (h : ∀ w' v, OwN w' w.heap.size v (nv (jd m)) → Fr (fun _ => False) w w' → K v w') :
  fj P F.e [.map (some r)] w fun t w => fj P F.ay [t] w K := by
 rw [M.ac.fcall]
 apply M.ac.calls
 unfold M.ac
 rw [ws, app]
 show fj P F.ay _ _ K
 rw [M.di.fcall]
 have f1 : Fr (fun _ => False) w (w.alloc (.cells #[.map (some r)] T.r)) := (Fr.refl _ w).alloc _
 have hB : (w.alloc (.cells #[.map (some r)] T.r)).heap[w.heap.size]? = some (.cells #[.map (some r)] T.r (0, 0)) := by rw [gh, if_pos rfl]
 have hsz : w.heap.size ≤ (w.alloc (.cells #[.map (some r)] T.r)).heap.size := by simp
 refine agr (ks := jd m) FN.a.at (by kernel_rfl) (by kernel_rfl) (by simpa [jd] using hl) (aiw (hm.yv (f1.jn r hm.lt fun h => h)) hn hB hl) fun w2 v o2 f2 => ?_
 exact h w2 v (o2.mono hsz) (f1.trans f2)
end Go.Proofs.YtfnhoaemapheoaaGreat.KeyR
set_option maxRecDepth 100000
namespace Go.Proofs.YtfnhoaemapheoaaGreat
open Go.Eng Go.Proofs.YtfnhoaemapheoaaGreat.Sint
def aev (m : je) (mm : MP) : Prop := ∀ k, lj mm k = (lk m k).map ju
def ni (hb p r : Nat) (gr : Bool) : Array Value := #[.pointer (some ⟨hb, 0, none⟩), .pointer (some ⟨p, 0, none⟩), .map (some r), .bool gr]
def me (q hb : Nat) (m : je) (L : Lg) (gr : Bool) : Asn where
 ok w B := ∃ p r mm, aev m mm ∧ Rs [fy q (ni hb p r gr) T.l, kq r .u64 mm, kt p hb L] w B
 jn := by
  rintro w w' B S ⟨p, r, mm, h1, h2⟩ hf hn
  exact ⟨p, r, mm, h1, h2.jn hf hn⟩
section
variable {w0 w : World} {R : List Asn} {q hb p r : Nat} {m : je} {L : Lg} {gr : Bool} {mm : MP}
theorem St.s22 {a b c d : Asn} (S : St w0 w (a :: b :: c :: d :: R)) : St w0 w (c :: d :: a :: b :: R) := S.perm ((List.perm_append_comm (l₁ := [a, b]) (l₂ := [c, d])).append_right R)
theorem aco (S : St w0 w (me q hb m L gr :: R)) : ∃ p r mm, aev m mm ∧ St w0 w (fy q (ni hb p r gr) T.l :: kq r .u64 mm :: kt p hb L :: R) := by
 obtain ⟨B, ⟨p, r, mm, h1, h2⟩, _, cl⟩ := S.open
 exact ⟨p, r, mm, h1, cl w [fy q (ni hb p r gr) T.l, kq r .u64 mm, kt p hb L] (Fr.refl _ _) (h2.mono fun b hb => .inl hb)⟩
theorem aem (h : aev m mm) (S : St w0 w (fy q (ni hb p r gr) T.l :: kq r .u64 mm :: kt p hb L :: R)) : St w0 w (me q hb m L gr :: R) := by
 obtain ⟨U, h4, _, g⟩ := St.aap (L := [fy q (ni hb p r gr) T.l, kq r .u64 mm, kt p hb L]) (R := R) S
 exact g w [me q hb m L gr] (Fr.refl _ _) ⟨U, ⟨p, r, mm, h, h4⟩, fun b hb => .inl hb, trivial⟩
theorem nn (S : St w0 w (fy q (ni hb p r gr) T.l :: R)) : ft w q 0 = some (.pointer (some ⟨hb, 0, none⟩)) ∧ ft w q 1 = some (jh p) ∧ ft w q 2 = some (.map (some r)) ∧ ft w q 3 = some (.bool gr) :=
 ⟨by rw [S.cell]; rfl, by rw [S.cell]; rfl, by rw [S.cell]; rfl, by rw [S.cell]; rfl⟩
theorem aqm (h : aev m mm) (ha : Asc m) (k : Int) (x : Rg) : aev (oz m k x) (rm mm k (ju x)) := fun k' => by
 rw [acg, axr ha, h k']
 split <;> rfl
theorem bbb : aev [] [] := fun k => rfl
theorem axb (h : aev m mm) (ha : Asc m) (hn : (jd mm).Nodup) : Suint64.nv (jd mm) = m.map (·.1) := by
 have hmem : ∀ k, k ∈ jd mm ↔ k ∈ m.map (·.1) := fun k => by
  have h1 := aey mm k
  have h2 : lk m k = none ↔ k ∉ m.map (·.1) := by
   unfold lk
   rw [Option.map_eq_none_iff, List.find?_eq_none]
   simp only [decide_eq_true_eq, List.mem_map, not_exists, not_and]
  have h3 := h k
  constructor
  ·intro hk
   apply Classical.byContradiction
   intro hc
   rw [h2.2 hc] at h3
   exact h1.1 h3 hk
  ·intro hk
   apply Classical.byContradiction
   intro hc
   rw [h1.2 hc] at h3
   have : lk m k = none := by
    cases hl : lk m k with
    | none => rfl
    | some x => rw [hl] at h3; cases h3
   exact h2.1 this hk
 have hnd : (m.map (·.1)).Nodup := by
  unfold Asc at ha
  rw [List.nodup_iff_pairwise_ne, List.pairwise_map]
  exact ha.imp fun h => by omega
 have hp : (jd mm).Perm (m.map (·.1)) := (List.perm_ext_iff_of_nodup hn hnd).2 hmem
 have hs : (m.map (·.1)).Pairwise fun a b => a ≤ b := by
  unfold Asc at ha
  rw [List.pairwise_map]
  exact ha.imp fun h => by omega
 rw [Suint64.vn hp]
 show List.mergeSort _ _ = _
 exact List.mergeSort_of_pairwise (hs.imp fun h => by simpa using h)
theorem avr (S : St w0 w (me q hb m L gr :: R)) (k : Int) {K : KV} (h : ∀ w', St w0 w' (me q hb m L gr :: R) → K (ju (lq m k)) w') : fj P F.bl [jh q, .int .u64 k] w K := by
 obtain ⟨p, r, mm, hm, S1⟩ := aco S
 rw [M.bv.fcall]
 apply M.bv.calls
 unfold M.bv jh
 simp
 have S2 := tf S1 T.g
 generalize w.heap.size = tb at *
 generalize w.alloc _ = w2 at *
 obtain ⟨_, _, c2, _⟩ := nn S2.swap
 unfold M.bv.j0
 simp [c2]
 rw [aal mt.r (xd S2.up2).1, hm k]
 have e : ((lk m k).map ju).getD (.agg #[.int .u64 0, .int .u64 0, .int .u64 0, .int .u64 0, .int .i64 0]) = ju (lq m k) := by
  unfold lq
  cases lk m k <;> rfl
 rw [e]
 unfold ju
 simp
 refine ot (r' := lq m k) S2 fun w3 S3 => ?_
 obtain ⟨_, _, _, rl⟩ := iu S3
 rw [aas, rl]
 exact ⟨rfl, h w3 (aem hm S3.drop)⟩
theorem afj (S : St w0 w (me q hb m L gr :: R)) (ha : Asc m) (hl : m.length < 60000) {K : KV} (h : ∀ w' v', St w0 w' (rdA 1 yo v' (m.map (·.1)) :: me q hb m L gr :: R) → K v' w') : fj P F.ag [jh q] w K := by
 obtain ⟨p, r, mm, hm, S1⟩ := aco S
 rw [M.bj.fcall]
 apply M.bj.calls
 unfold M.bj jh
 simp
 unfold M.bj.j0
 obtain ⟨_, _, c2, _⟩ := nn S1
 simp [c2]
 obtain ⟨hmp, hn⟩ := xd S1.swap
 have hk := axb hm ha hn
 have hlen : mm.length < 60000 := by
  have := congrArg List.length hk
  rw [(Suint64.nr _).length_eq] at this
  simp [jd] at this
  omega
 refine KeyR.akz hmp hn hlen fun w2 v2 o2 f2 => ?_
 rw [hk] at o2
 have o3 : OwU w2 w.heap.size v2 (m.map (·.1)) := o2
 exact h w2 v2 (S.add f2 (B := fun x => v2.ownBlock = some x) ⟨o3.sl ahw, fun b hb => hb⟩ fun b hb => o3.lt hb)
end
set_option maxRecDepth 100000
open Go.Eng Go.Proofs.YtfnhoaemapheoaaGreat.Sint
def wrF (L : Lg) (D : Dk) (ge : List (List Int)) : (Lg × Dk) × Int :=
 if (qk L D ge).2 = 0 then (((qk L D ge).1.1, ((qk L D ge).1.1.mj (qk L D ge).1.2).1), ((qk L D ge).1.1.mj (qk L D ge).1.2).2) else qk L D ge
theorem aqb {L : Lg} {D : Dk} {b : List Int} {r : List (List Int)} (h : (L.append D b).2 = 0) : wrF L D (b :: r) = wrF (L.append D b).1.1 (L.append D b).1.2 r := by
 have e : qk L D (b :: r) = qk (L.append D b).1.1 (L.append D b).1.2 r := by rw [qk, if_pos h]
 unfold wrF; rw [e]
theorem aqc {L : Lg} {D : Dk} {b : List Int} {r : List (List Int)} (h : (L.append D b).2 ≠ 0) : wrF L D (b :: r) = L.append D b := by
 have e : qk L D (b :: r) = L.append D b := by rw [qk, if_neg h]
 unfold wrF; rw [e, if_neg h]
def wrL (lv : Value) (vs : List SV) (ge : List (List Int)) (q p hb r : Nat) (dn : Bool) (mm : MP) (L : Lg) (D : Dk) (R : List Asn) : List Asn :=
 kt p hb L :: gj hb D :: pt (nh vs ge) :: Eng.jo T.e 1 nq lv vs :: fy q (ni hb p r dn) T.l :: kq r .u64 mm :: R
section
variable {w0 w : World} {R : List Asn} {q hb p r : Nat} {m : je} {L : Lg} {dn : Bool} {mm : MP} {D : Dk} {G : Nat} {s f : Int} {lv : Value} {vs : List SV} {ge : List (List Int)}
def WrI (w0 : World) (lv : Value) (vs : List SV) (ge : List (List Int)) (q p hb r : Nat) (dn : Bool) (mm : MP) (s f : Int) (G : Nat) (L : Lg) (D : Dk) (R : List Asn) : KL := fun x w1 => ∃ (u : Value) (i : Nat) (Li : Lg) (Di : Dk), x = [u, .int .i64 0, .int .i64 (i : Nat)] ∧ i ≤ ge.length ∧ pq s f Li G Di ∧ f + (gu Li.fq).length + (ge.length - i : Nat) ≤ 1000000000000 ∧ wrF L D ge = wrF Li Di (ge.drop i) ∧ St w0 w1 (wrL lv vs ge q p hb r dn mm Li Di R)
theorem axo (S : St w0 w (wrL lv vs ge q p hb r dn mm L D R)) {k : Int} {x4 : List Value} (hx : gv x4 0 = .int .i64 k) {K : KV} (h : ∀ w', St w0 w' (wrL lv vs ge q p hb r (dn || decide (k = 10)) mm L D R) → K (.int .i64 k) w') : M.w.j4 (jh q) x4 w K := by
 have S1 : St w0 w (fy q (ni hb p r dn) T.l :: kt p hb L :: gj hb D :: pt (nh vs ge) :: Eng.jo T.e 1 nq lv vs :: kq r .u64 mm :: R) := St.up4 (R := kq r .u64 mm :: R) S
 obtain ⟨_, _, _, c3⟩ := nn S1
 unfold M.w.j4 jh
 rw [hx]
 have fin : ∀ d, d = (dn || decide (k = 10)) → ∀ w', St w0 w' (fy q ((ni hb p r dn).setIfInBounds 3 (.bool d)) T.l :: kt p hb L :: gj hb D :: pt (nh vs ge) :: Eng.jo T.e 1 nq lv vs :: kq r .u64 mm :: R) → K (.int .i64 k) w' := fun d e w' S' => by
  subst e
  exact h w' (St.dn4 (R := kq r .u64 mm :: R) S')
 cases dn with
 | true =>
  simp [c3]
  exact S1.ts rfl (by simp [ni]) fun w' S' => fin true (by simp) w' S'
 | false =>
  by_cases hk : k = 10
  ·simp [c3, hk]
   refine S1.ts rfl (by simp [ni]) fun w' S' => ?_
   have := fin true (by simp [hk]) w' S'
   rwa [hk] at this
  ·simp [c3, hk]
   exact S1.ts rfl (by simp [ni]) fun w' S' => fin false (by simp [hk]) w' S'
theorem aoq (S : St w0 w (me q hb m L dn :: gj hb D :: jt lv ge :: R)) (hg : pq s f L G D) (hr : ∀ b ∈ ge, b.length ≤ 8192) (hn : f + (gu L.fq).length + ge.length ≤ 1000000000000) (hrl : ge.length ≤ 100000) {K : KV}
  (h : ∀ w', St w0 w' (me q hb m (wrF L D ge).1.1 (dn || decide ((wrF L D ge).2 = 10)) :: gj hb (wrF L D ge).1.2 :: R) → K (.int .i64 (wrF L D ge).2) w') : fj P F.bb [jh q, lv] w K := by
 obtain ⟨p, r, mm, hm, S1⟩ := aco S
 have S2 : St w0 w (jt lv ge :: fy q (ni hb p r dn) T.l :: kq r .u64 mm :: kt p hb L :: gj hb D :: R) := St.up4 S1
 obtain ⟨vs, hvs, S3⟩ := adz S2
 have hlen := fun w' K => zc S2 w' K
 have S4 : St w0 w (wrL lv vs ge q p hb r dn mm L D R) := S3.perm (by
  have p1 := List.perm_append_comm (l₁ := [Eng.jo T.e 1 nq lv vs, pt (nh vs ge), fy q (ni hb p r dn) T.l, kq r .u64 mm]) (l₂ := [kt p hb L, gj hb D])
  refine (p1.append_right R).trans ?_
  exact List.Perm.cons _ (List.Perm.cons _ (List.Perm.swap _ _ _)))
 rw [M.w.fcall]
 apply M.w.calls
 unfold M.w
 simp [hlen]
 have atu : ∀ {L' : Lg} {D' : Dk} {dn' : Bool} {w' : World}, St w0 w' (wrL lv vs ge q p hb r dn' mm L' D' R) → St w0 w' (me q hb m L' dn' :: gj hb D' :: R) := fun {L' D' dn' w'} S' => by
  have T1 : St w0 w' (pt (nh vs ge) :: kt p hb L' :: gj hb D' :: Eng.jo T.e 1 nq lv vs :: fy q (ni hb p r dn') T.l :: kq r .u64 mm :: R) := St.up2 S'
  have T2 := T1.drop
  have T3 : St w0 w' (Eng.jo T.e 1 nq lv vs :: kt p hb L' :: gj hb D' :: fy q (ni hb p r dn') T.l :: kq r .u64 mm :: R) := St.up2 T2
  exact aem hm (St.s22 T3.drop)
 refine ⟨WrI w0 lv vs ge q p hb r dn mm s f G L D R, fun x _ => ge.length - ms x 2, ⟨_, 0, L, D, rfl, Nat.zero_le _, hg, by simpa using hn, by simp, S4⟩, ?_⟩
 rintro x w1 ⟨u, i, Li, Di, rfl, hi, gi, bi, ei, Si⟩
 by_cases hil : i < ge.length
 ·have hili : (i : Int) < (ge.length : Int) := by omega
  have hwi : IntKind.i64.wrap ((i : Int) + 1) = ((i + 1 : Nat) : Int) := by rw [fp (by omega) (by omega)]; rfl
  have hdrop : ge.drop i = ge[i] :: ge.drop (i + 1) := List.drop_eq_getElem_cons hil
  simp [hil]
  unfold M.w.j2 jh
  have hi' : i < vs.length := by omega
  have Srow : St w0 w1 (Eng.jo T.e 1 nq lv vs :: kt p hb Li :: gj hb Di :: pt (nh vs ge) :: fy q (ni hb p r dn) T.l :: kq r .u64 mm :: R) := St.up3 Si
  obtain ⟨b, o, cap, hv, _, _, hc⟩ := (Srow.jo so : Sl w1 1 nq lv vs).at hi'
  have c0 := hc 0 _ rfl
  simp only [Nat.mul_one, Nat.add_zero] at c0
  have hia : ∀ w' K, iaT P T.m lv (.int .i64 (i : Nat)) w' K = K (.pointer (some ⟨b, o + i, none⟩)) w' := fun w' K => by rw [hv]; simp [hi']
  have Sq : St w0 w1 (fy q (ni hb p r dn) T.l :: kt p hb Li :: gj hb Di :: pt (nh vs ge) :: Eng.jo T.e 1 nq lv vs :: kq r .u64 mm :: R) := St.up4 Si
  obtain ⟨_, c1, _, _⟩ := nn Sq
  simp [hia, c0, c1]
  refine aui (av := (vs[i]).v) (rec := ge[i]) Si (bfq Si.swap gi) (by have := hr _ (List.getElem_mem hil); omega) (fun w' L' S' => ?_) fun w2 S5 => ?_
  ·have S6 : St w0 w' (pt (nh vs ge) :: (L' ++ Eng.jo T.e 1 nq lv vs :: fy q (ni hb p r dn) T.l :: kq r .u64 mm :: R)) := S'.perm List.perm_middle
   have S7 := St.aoi (j := i) (L := nh vs ge) (by simp [nh]; omega) S6
   unfold nh at S7
   rw [List.getElem_zipWith] at S7
   exact S7.row jb
  have ha := ave (b := ge[i]) gi (by omega)
  rw [hdrop] at ei
  by_cases h0 : (Li.append Di ge[i]).2 = 0
  ·rw [aqb h0] at ei
   generalize Li.append Di ge[i] = z at *
   cases ha with
   | ahb => simp at h0
   | tq => simp at h0
   | gr => simp at h0
   | ok L' D' g' e1 =>
    simp [hwi]
    refine ⟨⟨_, i + 1, L', D', rfl, by omega, g', ?_, ei, S5⟩, by simp [ms, gv]; omega⟩
    rw [e1, List.length_append, List.length_singleton]
    omega
  ·rw [aqc h0] at ei
   rw [ei] at h
   simp [h0]
   unfold M.w.j0
   simp [h0]
   exact axo S5 rfl fun w3 S8 => h w3 (atu S8)
 ·have hili : ¬ (i : Int) < (ge.length : Int) := by omega
  have hie : i = ge.length := by omega
  subst hie
  rw [List.drop_length] at ei
  have e0 : wrF Li Di [] = ((Li, (Li.mj Di).1), (Li.mj Di).2) := by unfold wrF qk; simp
  rw [e0] at ei
  rw [ei] at h
  simp
  unfold M.w.j0 jh
  have Sq : St w0 w1 (fy q (ni hb p r dn) T.l :: kt p hb Li :: gj hb Di :: pt (nh vs ge) :: Eng.jo T.e 1 nq lv vs :: kq r .u64 mm :: R) := St.up4 Si
  obtain ⟨_, c1, _, _⟩ := nn Sq
  simp [c1]
  refine aod Si (by have := gi.vir.len; omega) fun w2 S5 => ?_
  exact axo S5 rfl fun w3 S8 => h w3 (atu S8)
end
set_option maxRecDepth 100000
open Go.Eng Go.Proofs.YtfnhoaemapheoaaGreat.Sint
section
variable {w0 w : World} {R : List Asn} {q hb p r : Nat} {m : je} {L : Lg} {dn : Bool} {mm : MP} {D D' : Dk} {G : Nat} {s f : Int} {gk : Int} {Q' : List Prt}
def OpR (w0 : World) (rv : Value) (ge : List (List Int)) (q p hb r : Nat) (L : Lg) (D : Dk) (R : List Asn) : KL := fun x w1 => ∃ (u0 u1 u2 u3 u4 u5 : Value) (i : Nat) (mm : MP), x = [u0, u1, u2, u3, u4, u5, .int .i64 (i : Nat)] ∧ i ≤ ge.length ∧ aev (nf (ge.take i)) mm ∧
 St w0 w1 (jt rv ge :: fy q (ni hb p r false) T.l :: kq r .u64 mm :: kt p hb L :: gj hb D :: R)
theorem bdp (S : St w0 w R) : St w0 (w.alloc (.map #[] 0)) (kq w.heap.size .u64 [] :: R) := S.add (a := kq w.heap.size .u64 []) ((Fr.refl _ w).alloc _) (B := fun x => x = w.heap.size) ⟨⟨agq w .u64, List.nodup_nil⟩, rfl⟩ fun b hb => by subst hb; rw [iy]; omega
theorem bbc (S : St w0 w (gj hb D :: R)) (hmx : gk < 9223372036854775808) (eo : zh D gk = ((D', some Q'), 0)) (g : pq s f ⟨gk, Q'⟩ G D') (es : (Lg.mj ⟨gk, Q'⟩ D').2 = 0) (hr : zy (gu Q')) {K : KV}
  (h : ∀ w' q, St w0 w' (me q hb (nf (gu Q')) ⟨gk, Q'⟩ false :: gj hb (Lg.mj ⟨gk, Q'⟩ D').1 :: R) → K (.tuple #[jh q, .int .i64 0]) w') : fj P F.cg [.pointer (some ⟨hb, 0, none⟩), .int .i64 gk] w K := by
 rw [M.bk.fcall]
 apply M.bk.calls
 unfold M.bk
 refine bef S hmx (fun w2 hn _ => by rw [eo] at hn; cases hn) fun w2 p qs hs S2 => ?_
 rw [eo] at hs S2
 have hqs : qs = Q' := by simpa using (congrArg (·.1.2) hs).symm
 subst hqs
 simp only at S2
 simp only [jh]
 simp
 unfold M.bk.j0
 rw [apb]
 have S3 := bdp S2
 have z3 : (w2.alloc (.map #[] 0)).heap.size = w2.heap.size + 1 := iy _ _
 generalize hrr : w2.heap.size = r at *
 generalize w2.alloc (.map #[] 0) = w3 at *
 have e : iw P T.l #[(0, .pointer (some ⟨hb, 0, none⟩)), (1, .pointer (some ⟨p, 0, none⟩)), (2, .map (some r))] w3 = fun K => K (.agg (ni hb p r false)) w3 := by funext K; simp [ni]
 rw [e]
 refine St.pg S3 fun q w4 S4 => ?_
 have S5 : St w0 w4 (kt p hb ⟨gk, qs⟩ :: gj hb D' :: fy q (ni hb p r false) T.l :: kq r .u64 [] :: R) := St.s22 S4
 simp
 refine aow S5 g fun w5 rv S6 => ?_
 have hlen := fun w' K => zc S6 w' K
 simp only at hlen S6
 simp [hlen]
 refine ⟨OpR w0 rv (gu qs) q p hb r ⟨gk, qs⟩ D' R, fun x _ => (gu qs).length - ms x 6, ⟨_, _, _, _, _, _, 0, [], rfl, Nat.zero_le _, by simpa [nf] using bbb, S6.tail ((List.perm_append_comm (l₁ := [kt p hb ⟨gk, qs⟩, gj hb D']) (l₂ := [fy q (ni hb p r false) T.l, kq r .u64 []])).append_right R)⟩, ?_⟩
 rintro x w6 ⟨u0, u1, u2, u3, u4, u5, i, mm, rfl, hi, hm, S7⟩
 by_cases hil : i < (gu qs).length
 ·have hwi : IntKind.i64.wrap ((i : Int) + 1) = ((i + 1 : Nat) : Int) := by
   have := apc S5.swap g
   simp only at this
   rw [fp (by omega) (by omega)]; rfl
  simp [hil]
  unfold M.bk.j3
  obtain ⟨b, o, sv, hia, _, c0, hsl⟩ := adt S7 hil
  obtain ⟨pr, ho, he⟩ := hr _ (List.getElem_mem hil)
  have hrd : aha (gu qs)[i] = some (pr.1, pr.2) := by rw [he]; exact aeh ho.1 ho.2.1 ho.2.2.1 ho.2.2.2
  simp [hia, c0]
  refine baz hsl hrd fun w7 f7 => ?_
  have S8 := S7.ir f7
  simp
  have S9 := tf S8 T.g
  generalize w7.heap.size = tb at *
  generalize w7.alloc _ = w8 at *
  unfold ju
  simp
  refine ot (r' := pr.2) S9 fun w9 S10 => ?_
  unfold M.bk.j5
  have S10d := S10.ir ((Fr.refl _ w9).dr 1)
  have Sb : St w0 (dr w9 1) (fy q (ni hb p r false) T.l :: fy tb (rgC pr.2) T.g :: jt rv (gu qs) :: kq r .u64 mm :: kt p hb ⟨gk, qs⟩ :: gj hb D' :: R) := St.up2 S10d
  obtain ⟨_, _, c2, _⟩ := nn Sb
  obtain ⟨_, _, _, rl⟩ := iu S10d
  simp only [ly] at c2
  simp [c2, rl]
  have Sm : St w0 (dr w9 1) (kq r .u64 mm :: fy tb (rgC pr.2) T.g :: jt rv (gu qs) :: fy q (ni hb p r false) T.l :: kt p hb ⟨gk, qs⟩ :: gj hb D' :: R) := St.up3 S10d
  refine ant mt.r (xd Sm).1 pr.1 _ _ fun ob hob => ?_
  have S11 := apv Sm hob
  refine ⟨⟨_, _, _, _, _, _, i + 1, rm mm pr.1 (ju pr.2), by rw [hwi], by omega, ?_, ?_⟩, by rw [hwi]; simp [ms, gv]; omega⟩
  ·rw [List.take_add_one, List.getElem?_eq_getElem hil]
   show aev (nf ((gu qs).take i ++ [(gu qs)[i]])) _
   rw [he, agj ho.1 ho.2.1 ho.2.2.1 ho.2.2.2]
   exact aqm hm (aqz _) _ _
  ·have T1 : St w0 _ (fy tb (rgC pr.2) T.g :: kq r .u64 (rm mm pr.1 (ju pr.2)) :: jt rv (gu qs) :: fy q (ni hb p r false) T.l :: kt p hb ⟨gk, qs⟩ :: gj hb D' :: R) := S11.swap
   exact St.dn2 T1.drop
 ·have hie : i = (gu qs).length := by omega
  subst hie
  rw [List.take_length] at hm
  simp
  unfold M.bk.j1
  have T1 : St w0 w6 (kt p hb ⟨gk, qs⟩ :: gj hb D' :: fy q (ni hb p r false) T.l :: kq r .u64 mm :: R) := St.s22 S7.drop
  refine aod (p := p) T1 (by have := g.vir.len; simp only at this ⊢; omega) fun w7 T2 => ?_
  rw [es]
  simp
  exact h w7 q (aem hm (St.s22 T2))
end
set_option maxRecDepth 100000
open Go.Eng Go.Proofs.YtfnhoaemapheoaaGreat.Sint
theorem ajj (w : World) (K : KV) : taT P .nilIface T.an T.p true w K = K (.tuple #[.agg #[.int .u64 0, .int .u64 0, .int .u64 0, .int .i64 0], .bool false]) w := .trans (by kernel_rfl) rfl
theorem arn (a b c d : Value) (w : World) (K : KV) : taT P (.iface T.p (.agg #[a, b, c, d])) T.an T.p true w K = K (.tuple #[.agg #[a, b, c, d], .bool true]) w := .trans (by kernel_rfl) rfl
theorem ThR.bgl {w : World} {p : Pk} {ls : List Spn} {lm : List Mem} {lu : List Int} {t : Value} (h : ThR w p ls lm lu t) (hk : ¬ (p.fu = 4 ∨ p.fu = 6)) (w' : World) (K : KV) : taT P t T.an T.p true w' K = K (.tuple #[.agg #[.int .u64 0, .int .u64 0, .int .u64 0, .int .i64 0], .bool false]) w' := by
 cases h with
 | rq v q hs => exact arc _ _ _
 | afm v q hs => exact alp _ _ _
 | ask q => exact absurd q hk
 | ym q => exact abu _ _ _
 | uk q => exact acy _ _ _
 | vl v q hs => exact aac _ _ _
 | xw v q hs => exact aba _ _ _
 | none q => exact ajj _ _
theorem ThR.bgd {w : World} {p : Pk} {ls : List Spn} {lm : List Mem} {lu : List Int} {t : Value} (h : ThR w p ls lm lu t) (hk : p.fu = 4 ∨ p.fu = 6) : t = afp p.tr p.b p.v := by
 cases h with
 | ask q => rfl
 | rq v q hs => omega
 | afm v q hs => omega
 | ym q => omega
 | uk q => omega
 | vl v q hs => omega
 | xw v q hs => omega
 | none q => omega
def pk (p : Pk) (ls : List Spn) (lm : List Mem) (lu : List Int) : Bool := (decide (p.fu = 4) || decide (p.fu = 6)) && rj p ls lm lu
def na (L : Lg) (D : Dk) (tr : Int) (r : Rg) : (Lg × Dk) × Int := wrF L D [mi tr r]
theorem aic {p : Pk} {ls : List Spn} {lm : List Mem} {lu : List Int} (h : pk p ls lm lu = true) (hr : vr p) : (p.fu = 4 ∨ p.fu = 6) ∧ 0 < p.tr ∧ 0 < p.b.n := by
 unfold pk at h
 simp only [Bool.and_eq_true, Bool.or_eq_true, decide_eq_true_eq] at h
 obtain ⟨hk, h⟩ := h
 unfold rj kj at h
 have h1 := hr.tr.1
 have h2 := hr.b.1.1
 rcases hk with hk | hk <;> simp [hk] at h
 ·exact ⟨.inl hk, h.1.2, h.2⟩
 ·exact ⟨.inr hk, h.1.2, h.2.1⟩
section
variable {w0 w : World} {R : List Asn} {q hb : Nat} {m : je} {L : Lg} {dn : Bool} {D : Dk} {G : Nat} {s f : Int} {p : Pk} {ls : List Spn} {lm : List Mem} {lu : List Int}
def hdL (ab tb pb q hb : Nat) (p : Pk) (m : je) (L : Lg) (dn : Bool) (D : Dk) (R : List Asn) : List Asn := fy ab #[.int .u64 p.tr, .int .u64 p.b.n, .int .u64 p.b.gg, .int .i64 p.v] T.p :: fy tb (pkC pkZ).toArray T.a :: fy pb (pkC p).toArray T.a :: me q hb m L dn :: gj hb D :: R
theorem ux {ab : Nat} {R : List Asn} (S : St w0 w (fy ab #[.int .u64 p.tr, .int .u64 p.b.n, .int .u64 p.b.gg, .int .i64 p.v] T.p :: R)) : ft w ab 0 = some (.int .u64 p.tr) ∧ (∀ K, ldN P 2 ab 1 w K = K (ja p.b) w) ∧ ft w ab 3 = some (.int .i64 p.v) :=
 ⟨by rw [S.cell]; rfl, fun K => S.ldA [.int .u64 p.b.n, .int .u64 p.b.gg] rfl rfl K, by rw [S.cell]; rfl⟩
theorem atm {tb : Nat} {R1 R2 : List Asn} (S : St w0 w (fy tb (pkC pkZ).toArray T.a :: R1)) {k : Int} {K : KV} (h : ∀ w', St w0 w' R1 → K (.tuple #[pkA pkZ, .int .i64 k]) w') :
  stN P tb 0 [.int .i64 0, .int .u64 0, .int .u64 0, .int .u64 0, .int .u64 0, .int .u64 0, .int .i64 0, .bool false, .slice none 0 0, .slice none 0 0, .slice none 0 0] w fun _ w => la P T.a (.pointer (some ⟨tb, 0, none⟩)) w fun r0 w' => w' = w ∧ K (.tuple #[r0, .int .i64 k]) w :=
 zt (q := pkZ) S rfl (oo _ _ _ _ _ _) (K := fun r0 w => K (.tuple #[r0, .int .i64 k]) w) fun w' S' => h w' S'.drop
theorem aln (S : St w0 w (me q hb m L dn :: gj hb D :: R)) (hp : ∀ w' R', St w0 w' (R' ++ R) → nu w' p ls lm lu) (hr : vr p) (hG : dn = false → D.gr = false → ∃ F, RI s f L F D m) (hf : f + (gu L.fq).length + 1 ≤ 1000000000000) {K : KV}
  (hno : pk p ls lm lu = false → ∀ w', St w0 w' (me q hb m L dn :: gj hb D :: R) → K (.tuple #[pkA pkZ, .int .i64 6]) w')
  (hdn : pk p ls lm lu = true → (dn || D.gr) = true → ∀ w', St w0 w' (me q hb m L dn :: gj hb D :: R) → K (.tuple #[pkA pkZ, .int .i64 10]) w')
  (hsame : pk p ls lm lu = true → dn = false → D.gr = false → (jk m (decide (p.fu = 6)) p.tr p.b p.v).1 = lq m p.tr → ∀ w', St w0 w' (me q hb m L dn :: gj hb D :: R) → K (.tuple #[pkA (aeg (jk m (decide (p.fu = 6)) p.tr p.b p.v).1 p.tr p.b (jk m (decide (p.fu = 6)) p.tr p.b p.v).2 (decide (p.fu = 6))), .int .i64 0]) w')
  (hbad : pk p ls lm lu = true → dn = false → D.gr = false → (jk m (decide (p.fu = 6)) p.tr p.b p.v).1 ≠ lq m p.tr → (na L D p.tr (jk m (decide (p.fu = 6)) p.tr p.b p.v).1).2 ≠ 0 → ∀ w', St w0 w' (me q hb m (na L D p.tr (jk m (decide (p.fu = 6)) p.tr p.b p.v).1).1.1 (decide ((na L D p.tr (jk m (decide (p.fu = 6)) p.tr p.b p.v).1).2 = 10)) :: gj hb (na L D p.tr (jk m (decide (p.fu = 6)) p.tr p.b p.v).1).1.2 :: R) → K (.tuple #[pkA pkZ, .int .i64 (na L D p.tr (jk m (decide (p.fu = 6)) p.tr p.b p.v).1).2]) w')
  (hok : pk p ls lm lu = true → dn = false → D.gr = false → (jk m (decide (p.fu = 6)) p.tr p.b p.v).1 ≠ lq m p.tr → (na L D p.tr (jk m (decide (p.fu = 6)) p.tr p.b p.v).1).2 = 0 → ∀ w', St w0 w' (me q hb (oz m p.tr (jk m (decide (p.fu = 6)) p.tr p.b p.v).1) (na L D p.tr (jk m (decide (p.fu = 6)) p.tr p.b p.v).1).1.1 false :: gj hb (na L D p.tr (jk m (decide (p.fu = 6)) p.tr p.b p.v).1).1.2 :: R) → K (.tuple #[pkA (aeg (jk m (decide (p.fu = 6)) p.tr p.b p.v).1 p.tr p.b (jk m (decide (p.fu = 6)) p.tr p.b p.v).2 (decide (p.fu = 6))), .int .i64 0]) w') :
  fj P F.v [jh q, pkA p] w K := by
 rw [M.m.fcall]
 apply M.m.calls
 unfold M.m jh
 refine St.pg S fun pb w1 S1 => ?_
 have S1' : St w0 w1 (fy pb (pkC p).toArray T.a :: me q hb m L dn :: gj hb D :: R) := S1
 simp
 have S2 := tu S1'
 generalize w1.heap.size = tb at *
 generalize w1.alloc _ = w2 at *
 unfold M.m.j0
 simp [fun K => px S2.swap K]
 have hp2 : nu w2 p ls lm lu := hp w2 (fy tb (pkC pkZ).toArray T.a :: fy pb (pkC p).toArray T.a :: me q hb m L dn :: gj hb D :: []) S2
 have noW : ∀ (t : Value) (k : Int) (w3 : World), pk p ls lm lu = false → (∀ w' K', taT P t T.an T.p true w' K' = K' (.tuple #[.agg #[.int .u64 0, .int .u64 0, .int .u64 0, .int .i64 0], .bool false]) w') → St w0 w3 (fy tb (pkC pkZ).toArray T.a :: fy pb (pkC p).toArray T.a :: me q hb m L dn :: gj hb D :: R) → True := fun _ _ _ _ _ _ => trivial
 refine ayp hp2 hr (fun hre w3 t ht f3 => ?_) (fun hre w3 f3 => ?_)
 ·have S3 := S2.ir f3
  by_cases hk : p.fu = 4 ∨ p.fu = 6
  ·have hae : pk p ls lm lu = true := by unfold pk; rw [hre]; simpa using hk
   obtain ⟨_, htr, hbn⟩ := aic hae hr
   rw [ht.bgd hk]
   unfold afp auq
   simp [arn]
   have S4 : St w0 (w3.alloc (.cells #[.int .u64 0, .int .u64 0, .int .u64 0, .int .i64 0] T.p)) (fy w3.heap.size #[.int .u64 0, .int .u64 0, .int .u64 0, .int .i64 0] T.p :: _) := S3.mkB #[.int .u64 0, .int .u64 0, .int .u64 0, .int .i64 0] T.p
   generalize w3.heap.size = ab at *
   generalize w3.alloc _ = w4 at *
   refine St.put (cs' := #[.int .u64 p.tr, .int .u64 p.b.n, .int .u64 p.b.gg, .int .i64 p.v]) (vs := [.int .u64 p.tr, .int .u64 p.b.n, .int .u64 p.b.gg, .int .i64 p.v]) S4 (by simp) (by simp) rfl fun w5 S5 => ?_
   have S5' : St w0 w5 (hdL ab tb pb q hb p m L dn D R) := S5
   have Sr : St w0 w5 (me q hb m L dn :: fy ab #[.int .u64 p.tr, .int .u64 p.b.n, .int .u64 p.b.gg, .int .i64 p.v] T.p :: fy tb (pkC pkZ).toArray T.a :: fy pb (pkC p).toArray T.a :: gj hb D :: R) := St.up3 S5
   obtain ⟨lp, rp, mm, hm, Su⟩ := aco Sr
   obtain ⟨c0, _, _, c3⟩ := nn Su
   have outDn : (dn || D.gr) = true → stN P tb 0 [.int .i64 0, .int .u64 0, .int .u64 0, .int .u64 0, .int .u64 0, .int .u64 0, .int .i64 0, .bool false, .slice none 0 0, .slice none 0 0, .slice none 0 0] w5 fun _ w => la P T.a (.pointer (some ⟨tb, 0, none⟩)) w fun r0 w' => w' = w ∧ K (.tuple #[r0, .int .i64 10]) w := fun hd =>
    atm (R2 := []) S5'.swap fun w' S' => hdn hae hd w' S'.drop.drop
   cases dn with
   | true =>
    have od := outDn rfl
    simp [c3]
    exact od
   | false =>
    simp [c3, c0]
    refine ady (St.up4 S5') ?_
    cases hd : D.gr with
    | true =>
     have od := outDn (by simp [hd])
     simp
     exact od
    | false =>
     simp
     obtain ⟨F0, I⟩ := hG rfl hd
     have hlu : ∀ {w' : World} {L' : List Asn}, St w0 w' (kq rp .u64 mm :: L') → ∀ K, luT P T.r (.map (some rp)) (.int .u64 p.tr) false w' K = K (ju (lq m p.tr)) w' := fun {w' L'} S' K => by
      rw [aal mt.r (xd S').1, hm p.tr]
      congr 1
      unfold lq
      cases lk m p.tr <;> rfl
     unfold M.m.j1
     have T1 := Su.ir ((Fr.refl _ w5).dr 1)
     obtain ⟨_, _, c2, _⟩ := nn T1
     obtain ⟨a0, _, _⟩ := ux (St.up3 T1)
     simp only [ly] at c2 a0
     have l1 := hlu T1.swap
     simp [c2, a0, l1]
     have T2 := tf T1 T.g
     rw [show (Eng.dr w5 1).heap.size = w5.heap.size from rfl] at T2
     generalize w5.heap.size = gb at *
     generalize (Eng.dr w5 1).alloc _ = w6 at *
     obtain ⟨_, _, c2, _⟩ := nn T2.swap
     obtain ⟨a0, _, _⟩ := ux (St.up4 T2)
     have l2 := hlu T2.up2
     simp [c2, a0, l2]
     unfold ju
     simp
     refine ot (r' := lq m p.tr) T2 fun w7 T3 => ?_
     obtain ⟨_, _, _, g7⟩ := iu T3
     obtain ⟨_, b7, _⟩ := ux (St.up4 T3)
     simp [g7, b7]
     refine bcs _ _ fun w8 f8 => ?_
     have T4 := T3.ir f8
     simp
     have T5 := tf T4 T.g
     generalize w8.heap.size = nb at *
     generalize w8.alloc _ = w9 at *
     unfold ju
     simp
     refine ot (r' := ((lq m p.tr).qh p.b).1) T5 fun w10 T6 => ?_
     have Tp : St w0 w10 (fy pb (pkC p).toArray T.a :: fy nb (rgC ((lq m p.tr).qh p.b).1) T.g :: fy gb (rgC (lq m p.tr)) T.g :: fy q (ni hb lp rp false) T.l :: kq rp .u64 mm :: kt lp hb L :: fy ab #[.int .u64 p.tr, .int .u64 p.b.n, .int .u64 p.b.gg, .int .i64 p.v] T.p :: fy tb (pkC pkZ).toArray T.a :: gj hb D :: R) := T6.perm (List.perm_middle (l₁ := [_, _, _, _, _, _, _]))
     obtain ⟨k0, _⟩ := ij Tp
     simp [k0]
     have hokE : okE (p.tr, (jk m (decide (p.fu = 6)) p.tr p.b p.v).1) := aoj I.ok hr.tr htr hr.b
     have fin : ∀ (x1 : List Value) w', St w0 w' (fy nb (rgC (jk m (decide (p.fu = 6)) p.tr p.b p.v).1) T.g :: fy gb (rgC (lq m p.tr)) T.g :: fy q (ni hb lp rp false) T.l :: kq rp .u64 mm :: kt lp hb L :: fy ab #[.int .u64 p.tr, .int .u64 p.b.n, .int .u64 p.b.gg, .int .i64 p.v] T.p :: fy tb (pkC pkZ).toArray T.a :: fy pb (pkC p).toArray T.a :: gj hb D :: R) →
       M.m.j2 (.pointer (some ⟨nb, 0, none⟩)) (.pointer (some ⟨gb, 0, none⟩)) (.pointer (some ⟨ab, 0, none⟩)) (.pointer (some ⟨q, 0, none⟩)) (.pointer (some ⟨tb, 0, none⟩)) x1 [.bool (jk m (decide (p.fu = 6)) p.tr p.b p.v).2] (.bool (decide (p.fu = 6))) w' K := by
      have hsame' := hsame hae rfl hd
      have hbad' := hbad hae rfl hd
      have hok' := hok hae rfl hd
      clear hno hdn hsame hbad hok outDn
      intro x1 w' S'
      generalize (jk m (decide (p.fu = 6)) p.tr p.b p.v).1 = r1 at *
      generalize (jk m (decide (p.fu = 6)) p.tr p.b p.v).2 = ok1 at *
      generalize decide (p.fu = 6) = tk at *
      -- what it answers at its end
      have ans : ∀ w2 (L2 : List Asn), St w0 w2 (fy nb (rgC r1) T.g :: fy ab #[.int .u64 p.tr, .int .u64 p.b.n, .int .u64 p.b.gg, .int .i64 p.v] T.p :: fy tb (pkC pkZ).toArray T.a :: L2) → (∀ w3, St w0 w3 L2 → K (.tuple #[pkA (aeg r1 p.tr p.b ok1 tk), .int .i64 0]) w3) →
        M.m.j3 (.pointer (some ⟨nb, 0, none⟩)) (.pointer (some ⟨ab, 0, none⟩)) [.bool ok1] (.bool tk) (.pointer (some ⟨tb, 0, none⟩)) w2 K := fun w2 L2 S2 hK => by
       obtain ⟨_, _, _, rl⟩ := iu S2
       obtain ⟨a0, b0, _⟩ := ux S2.swap
       unfold M.m.j3
       simp [rl, a0, b0]
       refine aww _ _ _ _ _ fun w3 f3 => ?_
       rw [adh]
       exact zt (S2.ir f3).up2 rfl (oo _ _ _ _ _ _) (K := fun r0 w => K (.tuple #[r0, .int .i64 0]) w) fun w4 S4 => hK w4 S4.drop.drop.drop
      obtain ⟨_, _, _, n1⟩ := iu S'
      obtain ⟨_, _, _, g1⟩ := iu S'.swap
      have Z1 := aem hm (St.up4 (St.up4 (St.up4 S')))
      have Z2 := (St.up4 (St.up2 Z1).drop).drop
      unfold M.m.j2
      simp [n1, g1, bfn]
      by_cases hne : r1 = lq m p.tr
      ·simp [hne]
       exact ans w' _ (St.dn3 Z2) fun w3 S3 => hsame' hne w3 S3
      ·simp [hne]
       obtain ⟨a0, _, _⟩ := ux Z2.up2
       obtain ⟨_, _, _, n2⟩ := iu Z2.swap
       simp [a0, n2]
       have hv : 0 ≤ r1.v ∧ r1.v ≤ 3 := by
        have := hokE.2.2.2
        simp only at this
        unfold Rg.right at this
        split at this
        ·simp at this; omega
        ·simp [kb] at this; omega
       refine asj Z2 p.tr hv fun w2 v2 Z3 => ?_
       obtain ⟨sv, hsv⟩ := agb Z3
       subst hsv
       refine aom Z3 fun w3 sl Z4 => ?_
       refine aoq (St.up2 (up5 Z4)) I.vm (fun b hb => by rw [List.mem_singleton.1 hb, yq]; omega) (by simpa using hf) (by simp) fun w4 Z5 => ?_
       have hwe : wrF L D [mi p.tr r1] = na L D p.tr r1 := rfl
       rw [hwe] at Z5 ⊢
       by_cases h0 : (na L D p.tr r1).2 = 0
       ·have hk := hok' hne h0
        rw [h0] at Z5
        rw [h0]
        simp
        unfold M.m.j4
        obtain ⟨lp2, rp2, mm2, hm2, Y1⟩ := aco Z5
        have Y2 := Y1.ir ((Fr.refl _ w4).dr 1)
        obtain ⟨_, _, e2, _⟩ := nn Y2
        have Y3 : St w0 (Eng.dr w4 1) (fy nb (rgC r1) T.g :: fy q _ T.l :: kq rp2 .u64 mm2 :: kt lp2 hb _ :: gj hb _ :: _) := St.up4 Y2
        obtain ⟨_, _, _, n3⟩ := iu Y3
        obtain ⟨a3, _, _⟩ := ux (up5 Y2)
        simp only [ly] at e2 a3
        simp [e2, a3, n3]
        refine ant mt.r (xd Y2.swap).1 p.tr _ _ fun ob hob => ?_
        have Y4 := aem (aqm hm2 I.asc p.tr r1) (apv Y2.swap hob).swap
        refine ans _ _ (St.up4 (St.up4 (St.up4 Y4))) fun w6 Y6 => ?_
        exact hk w6 Y6
       ·have hb' := hbad' hne h0
        simp [h0]
        refine atm (R2 := []) (St.up4 Z5) fun w5 Y1 => ?_
        refine hb' w5 ?_
        have Y2 := (St.up2 (St.up2 Y1).drop).drop
        simpa using Y2
     by_cases h6 : p.fu = 6
     ·obtain ⟨_, _, _, g10⟩ := iu T6.swap
      obtain ⟨_, b10, v10⟩ := ux (up5 T6)
      have e1 : (jk m (decide (p.fu = 6)) p.tr p.b p.v) = (lq m p.tr).acc p.b p.v := by unfold jk; simp [h6]
      rw [e1] at fin
      simp only [h6, decide_true] at fin
      simp [h6, g10, b10, v10]
      refine bfb _ _ _ fun w11 f11 => ?_
      have T7 := T6.ir f11
      simp
      unfold ju
      simp
      refine ot (r' := ((lq m p.tr).acc p.b p.v).1) T7 fun w12 T8 => ?_
      exact fin _ w12 T8
     ·simp [h6]
      have e1 : (jk m (decide (p.fu = 6)) p.tr p.b p.v) = (lq m p.tr).qh p.b := by unfold jk; simp [h6]
      rw [e1] at fin
      have := fin
      simp only [h6, decide_false] at this
      exact this _ w10 T6
  ·have hae : pk p ls lm lu = false := by
    unfold pk
    have : (decide (p.fu = 4) || decide (p.fu = 6)) = false := by simpa using hk
    rw [this]; rfl
   simp [ht.bgl hk]
   have S4 := S3.mkB #[.int .u64 0, .int .u64 0, .int .u64 0, .int .i64 0] T.p
   generalize w3.heap.size = ab at *
   generalize w3.alloc _ = w4 at *
   refine St.put (cs' := #[.int .u64 0, .int .u64 0, .int .u64 0, .int .i64 0]) (vs := [.int .u64 0, .int .u64 0, .int .u64 0, .int .i64 0]) S4 (by simp) (by simp) rfl fun w5 S5 => ?_
   exact atm (R2 := []) S5.swap fun w' S' => hno hae w' S'.drop.drop
 ·have hae : pk p ls lm lu = false := by unfold pk; rw [hre, Bool.and_false]
  have S3 := S2.ir f3
  simp [ajj]
  have S4 := S3.mkB #[.int .u64 0, .int .u64 0, .int .u64 0, .int .i64 0] T.p
  generalize w3.heap.size = ab at *
  generalize w3.alloc _ = w4 at *
  refine St.put (cs' := #[.int .u64 0, .int .u64 0, .int .u64 0, .int .i64 0]) (vs := [.int .u64 0, .int .u64 0, .int .u64 0, .int .i64 0]) S4 (by simp) (by simp) rfl fun w5 S5 => ?_
  exact atm (R2 := []) S5.swap fun w' S' => hno hae w' S'.drop.drop
end
set_option maxRecDepth 100000
open Go.Eng Go.Proofs.YtfnhoaemapheoaaGreat.Sint
theorem awb {m : je} (ha : Asc m) {i : Nat} (hi : i < m.length) : lk m m[i].1 = some m[i].2 := by
 induction m generalizing i with
 | nil => simp at hi
 | cons p t ih =>
  obtain ⟨x, y⟩ := p
  unfold Asc at ha
  rw [List.pairwise_cons] at ha
  cases i with
  | zero => rw [List.getElem_cons_zero, nt, if_pos rfl]
  | succ j =>
   simp only [List.length_cons] at hi
   rw [List.getElem_cons_succ, nt, if_neg]
   ·exact ih ha.2 (by omega)
   ·have := ha.1 t[j] (List.getElem_mem (by omega))
    simp only at this
    omega
inductive WrR (s f : Int) (L : Lg) (G : Nat) (D : Dk) (ge : List (List Int)) : (Lg × Dk) × Int → Prop
 | ok (L' : Lg) (D' : Dk) : pq s f L' (gu L'.fq).length D' → gu L'.fq = gu L.fq ++ ge → L'.gk = L.gk → D'.ic = D.ic → (D.iq = false → D'.iq = false) → WrR s f L G D ge ((L', D'), 0)
 | tq (i : Nat) (L' : Lg) (D' : Dk) : i < ge.length → pq s f L' G D' → gu L'.fq = gu L.fq ++ ge.take i → L'.gk = L.gk → D'.ic = D.ic → (D.iq = false → D'.iq = false) → WrR s f L G D ge ((L', D'), 9)
 | gr (i : Nat) (L' : Lg) (D' : Dk) (Q : List Prt) : D.iq = true → L'.gk = L.gk → L'.fq.length ≤ 63 → D'.gr = true → Vir s f Q G D' False → gu Q = gu L.fq ++ ge.take i → D'.ic = D.ic → f + (gu L'.fq).length ≤ f + (gu L.fq).length + ge.length → WrR s f L G D ge ((L', D'), 10)
theorem ast {s f : Int} {L : Lg} {G : Nat} {D : Dk} {ge : List (List Int)} (g : pq s f L G D) (hl : ∀ b ∈ ge, b.length ≤ 8192) (hn : f + (gu L.fq).length + ge.length ≤ 1000000000000) : WrR s f L G D ge (wrF L D ge) := by
 have ha := bei ge g hl hn
 unfold wrF
 generalize qk L D ge = z at *
 cases ha with
 | ok L' D' g' e1 e2 e3 e4 =>
  obtain ⟨y1, y2, y3, y4, _, y6, _⟩ := ann g'.vir g'.up
  rw [if_pos rfl, y1]
  exact .ok L' _ ⟨y2, g'.size, y3⟩ e1 e2 (by rw [y6, e3]) fun h => by rw [y4]; exact e4 h
 | tq i L' D' hi g' e1 e2 e3 e4 =>
  rw [if_neg (by simp)]
  exact .tq i L' D' hi g' e1 e2 e3 e4
 | gr i j L' D0 D' Q b1 b2 b3 b4 b5 b6 b7 b8 =>
  rw [if_neg (by simp)]
  refine .gr i L' D' Q b1 b4 b2.vir.len b5 b6 b7 b8 ?_
  rw [b3, List.length_append, List.length_take]
  omega
section
variable {w0 w : World} {R : List Asn} {q hb : Nat} {m : je} {L : Lg} {dn : Bool} {D : Dk} {s f : Int}
def anq (L : Lg) (D : Dk) (m : je) : (Lg × Dk) × Int :=
 if (wrF L D (oy m)).2 = 0 then Lg.drop (wrF L D (oy m)).1.1 (wrF L D (oy m)).1.2 (IntKind.i64.wrap (L.jc + (gu L.fq).length)) else wrF L D (oy m)
def CmI (w0 : World) (tv : Value) (m : je) (q hb : Nat) (L : Lg) (D : Dk) (R : List Asn) : KL := fun x w1 => ∃ (u v : Value) (i : Nat), x = [u, v, .int .i64 (i : Nat)] ∧ i ≤ m.length ∧ St w0 w1 (jt v (oy (m.take i)) :: rdA 1 yo tv (m.map (·.1)) :: me q hb m L false :: gj hb D :: R)
theorem bdo (S : St w0 w (me q hb m L dn :: gj hb D :: R)) (hG : dn = false → D.gr = false → ∃ F, RI s f L F D m) (hf : f + (gu L.fq).length + m.length ≤ 1000000000000) (hml : m.length ≤ 50000) {K : KV}
  (hdn : (dn || D.gr) = true → ∀ w', St w0 w' (me q hb m L dn :: gj hb D :: R) → K (.int .i64 10) w')
  (hbad : dn = false → D.gr = false → (wrF L D (oy m)).2 ≠ 0 → ∀ w', St w0 w' (me q hb m (wrF L D (oy m)).1.1 (decide ((wrF L D (oy m)).2 = 10)) :: gj hb (wrF L D (oy m)).1.2 :: R) → K (.int .i64 (wrF L D (oy m)).2) w')
  (hok : dn = false → D.gr = false → (wrF L D (oy m)).2 = 0 → ∀ w', St w0 w' (me q hb m (anq L D m).1.1 false :: gj hb (anq L D m).1.2 :: R) → K (.int .i64 (anq L D m).2) w') :
  fj P F.bk [jh q] w K := by
 rw [M.z.fcall]
 apply M.z.calls
 unfold M.z jh
 obtain ⟨lp, rp, mm, hm, S1⟩ := aco S
 obtain ⟨c0, _, _, c3⟩ := nn S1
 cases dn with
 | true =>
  simp [c3]
  exact hdn rfl w S
 | false =>
 simp [c3, c0]
 refine ady S.swap ?_
 cases hd : D.gr with
 | true =>
  simp
  exact hdn (by simp [hd]) w S
 | false =>
 obtain ⟨F0, I⟩ := hG rfl hd
 simp
 unfold M.z.j0
 have T1 := S1.ir ((Fr.refl _ w).dr 1)
 obtain ⟨_, c1, _, _⟩ := nn T1
 simp only [ly] at c1
 simp [c1]
 have T2 : St w0 (Eng.dr w 1) (kt lp hb L :: gj hb D :: fy q (ni hb lp rp false) T.l :: kq rp .u64 mm :: R) := St.s22 T1
 refine bbg T2 ?_
 simp [c1]
 refine aow T2 I.vm fun w2 v2 T3 => ?_
 have hlen := fun w' K => zc T3 w' K
 simp [hlen]
 have T4 := aem hm (St.s22 T3.drop)
 refine afj T4 I.asc (by omega) fun w3 tv T5 => ?_
 have hl5 := fun w' K => (T5.rd).ip (P := P) (t := T.f) (ty := T.b) (w := w') (by kernel_rfl) [false] (K := K)
 rw [List.length_map] at hl5
 simp [hl5]
 refine ⟨CmI w0 tv m q hb L D R, fun x _ => m.length - ms x 2, ⟨_, _, 0, rfl, Nat.zero_le _, als T5⟩, ?_⟩
 rintro x w4 ⟨u, v, i, rfl, hi, T6⟩
 by_cases hil : i < m.length
 ·have hwi : IntKind.i64.wrap ((i : Int) + 1) = ((i + 1 : Nat) : Int) := by rw [fp (by omega) (by omega)]; rfl
  simp [hil]
  unfold M.z.j3
  have hrd : SlU w4 tv (m.map (·.1)) := T6.swap.rd
  obtain ⟨b, o, cap, hv, _, hc⟩ := yf hrd (i := i) (by simpa using hil)
  rw [List.getElem_map] at hc
  have hia : ∀ w' K, iaT P T.f tv (.int .i64 (i : Nat)) w' K = K (.pointer (some ⟨b, o + i, none⟩)) w' := fun w' K => by rw [hv]; simp [hil]
  obtain ⟨lp2, rp2, mm2, hm2, U1⟩ := aco T6.up2
  obtain ⟨_, _, e2, _⟩ := nn U1
  simp [hia, hc, e2]
  rw [aal mt.r (xd U1.swap).1, hm2 m[i].1, awb I.asc hil]
  show fj P F.df [_, ju m[i].2] w4 _
  have hv3 : 0 ≤ (m[i].2).v ∧ (m[i].2).v ≤ 3 := by
   have := (I.ok _ (List.getElem_mem hil)).2.2.2
   unfold Rg.right at this
   split at this
   ·simp at this; omega
   ·simp [kb] at this; omega
  refine asj T6 m[i].1 hv3 fun w5 v5 T7 => ?_
  obtain ⟨sv, hsv⟩ := agb T7
  subst hsv
  have hpush := fun {K' : KV} {cs : List Bool} {ty : TypeId} (hh : ∀ w' v', St w0 w' (jt v' (oy (m.take i) ++ [mi m[i].1 m[i].2]) :: rdA 1 yo tv (m.map (·.1)) :: me q hb m L false :: gj hb D :: R) → K' v' w') => ach (cs := cs) (ty := ty) (K := K') T7 (by unfold oy; simp; omega) hh
  refine hpush fun w6 v6 T8 => ?_
  simp [hwi]
  refine ⟨⟨_, _, i + 1, rfl, by omega, ?_⟩, by simp [ms, gv]; omega⟩
  have e : oy (m.take (i + 1)) = oy (m.take i) ++ [mi m[i].1 m[i].2] := by
   unfold oy
   rw [List.take_add_one, List.getElem?_eq_getElem hil, List.map_append]
   rfl
  rw [e]
  exact T8
 ·have hie : i = m.length := by omega
  subst hie
  rw [List.take_length] at T6
  simp
  unfold M.z.j1
  have hbl : ∀ b ∈ oy m, b.length ≤ 8192 := fun b hb => by
   unfold oy at hb
   obtain ⟨p, _, rfl⟩ := List.mem_map.1 hb
   rw [yq]; omega
  have hall : (oy m).length = m.length := by unfold oy; simp
  have U1 : St w0 w4 (me q hb m L false :: gj hb D :: jt v (oy m) :: rdA 1 yo tv (m.map (·.1)) :: R) := St.s22 T6
  refine aoq U1 I.vm hbl (by rw [hall]; exact hf) (by rw [hall]; omega) fun w5 U2 => ?_
  have U3 := (St.up2 U2).drop
  by_cases h0 : (wrF L D (oy m)).2 = 0
  ·rw [h0] at U3
   rw [h0]
   have hok' := hok rfl hd h0
   unfold anq at hok'
   rw [if_pos h0] at hok'
   obtain ⟨lp2, rp2, mm2, hm2, U4⟩ := aco U3
   obtain ⟨_, e1, _, _⟩ := nn U4
   simp [e1]
   have U5 : St w0 w5 (kt lp2 hb _ :: gj hb _ :: fy q (ni hb lp2 rp2 _) T.l :: kq rp2 .u64 mm2 :: R) := St.s22 U4
   have hfew : (wrF L D (oy m)).1.1.fq.length ≤ 1000000 := by
    have hw := ast I.vm hbl (by rw [hall]; exact hf)
    generalize wrF L D (oy m) = z at *
    cases hw with
    | ok L' D' g' => have := g'.vir.len; simp only; omega
    | tq => simp at h0
    | gr => simp at h0
   refine bdx U5 hfew _ fun w6 U6 => ?_
   have U7 := aem hm2 (St.s22 U6)
   exact hok' w6 (by simpa using U7)
  ·simp [h0]
   exact hbad rfl hd h0 w5 (by simpa using U3)
end
set_option maxRecDepth 100000
open Go.Eng Go.Proofs.YtfnhoaemapheoaaGreat.Sint
theorem ldO {w : World} {b i : Nat} {x : Int × Rg} (h : ∀ k v, (wd x)[k]? = some v → ft w b (i + k) = some v) (K : KV) : ldN P 6 b i w K = K (aek x) w := yl (wd x) 6 rfl h K
theorem bhd {w : World} {b i : Nat} {x : Int × Rg} (h : ∀ k v, (wd x)[k]? = some v → ft w b (i + k) = some v) (K : KV) : ldN P 5 b (i + 1) w K = K (ju x.2) w := yl (aje x.2) 5 rfl (fun k v hk => by
 have := h (k + 1) v (by simpa [wd] using hk)
 rw [show i + 1 + k = i + (k + 1) by omega]; exact this) K
def GtI (W : World) (l : je) (tr : Int) (tb : Nat) : KL := fun x w1 => ∃ (i : Nat), x = [.int .i64 (i : Nat)] ∧ i ≤ l.length ∧ (∀ j (h : j < l.length), j < i → l[j].1 ≠ tr) ∧ St W w1 (fy tb (rgC rg0) T.i :: [])
theorem bdv {l : je} {k : Int} (h : ∀ p ∈ l, p.1 ≠ k) : lk l k = none := by
 unfold lk
 rw [List.find?_eq_none.2 fun p hp => by simpa using h p hp]
 rfl
theorem bbi {l : je} {k : Int} {i : Nat} (hi : i < l.length) (he : l[i].1 = k) (h : ∀ j (hj : j < l.length), j < i → l[j].1 ≠ k) : lk l k = some l[i].2 := by
 unfold lk
 have : l.find? (fun p => decide (p.1 = k)) = some l[i] := by
  rw [List.find?_eq_some_iff_getElem]
  exact ⟨by simpa using he, i, hi, rfl, fun j hj => by simpa using h j (by omega) hj⟩
 rw [this]; rfl
theorem bas {w : World} {v : Value} {l : je} (hs : SlO w v l) (hl : l.length ≤ 1000000) (tr : Int) {K : KV} (h : ∀ w', Fr (fun _ => False) w w' → K (ju (lq l tr)) w') : fj P F.dx [v, .int .u64 tr] w K := by
 rw [M.da.fcall]
 apply M.da.calls
 unfold M.da
 simp
 have S1 := tf (St.jc w) T.i
 generalize w.heap.size = tb at *
 generalize w.alloc _ = w1 at *
 have hlen : ∀ w' K, biT P .len #[T.h] T.b [false] [v] w' K = K (.int .i64 l.length) w' := fun w' K => hs.ip (by kernel_rfl) [false]
 have out : ∀ (r : Rg) w', St w w' (fy tb (rgC rg0) T.i :: []) → r = lq l tr → stN P tb 0 [.int .u64 r.p.n, .int .u64 r.p.gg, .int .u64 r.t.n, .int .u64 r.t.gg, .int .i64 r.v] w' fun _ w => la P T.i (.pointer (some ⟨tb, 0, none⟩)) w fun r0 w' => w' = w ∧ K r0 w := fun r w' S' e => by
  refine ot S' fun w3 S3 => ?_
  obtain ⟨_, _, _, rl⟩ := iu S3
  rw [yw, rl, e]
  exact ⟨rfl, h w3 S3.fr⟩
 refine ⟨GtI w l tr tb, fun x _ => l.length - ms x 0, ⟨0, rfl, Nat.zero_le _, fun j _ h => by omega, S1⟩, ?_⟩
 rintro x w2 ⟨i, rfl, hi, hpre, S2⟩
 by_cases hil : i < l.length
 ·have hwi : IntKind.i64.wrap ((i : Int) + 1) = ((i + 1 : Nat) : Int) := by rw [fp (by omega) (by omega)]; rfl
  simp [hlen, hil]
  unfold M.da.j2
  obtain ⟨b, o, cap, hv, _, _, hc⟩ := (hs.fr S2.fr fun _ _ _ h => h : SlO w2 v l).at hil
  have hia : ∀ w' K, iaT P T.h v (.int .i64 (i : Nat)) w' K = K (.pointer (some ⟨b, o + i * 6, none⟩)) w' := fun w' K => by rw [hv]; simp [hil]
  have c0 : ft w2 b (o + i * 6) = some (.int .u64 l[i].1) := hc 0 _ rfl
  have lr := fun K => bhd hc K
  by_cases he : l[i].1 = tr
  ·simp [hia, c0, he, lr]
   unfold ju
   simp
   exact out l[i].2 w2 S2 (by unfold lq; rw [bbi hil he hpre]; rfl)
  ·simp [hia, c0, he, hwi]
   refine ⟨⟨i + 1, rfl, by omega, fun j hj hlt => ?_, S2⟩, by simp [ms, gv]; omega⟩
   by_cases hji : j = i
   ·subst hji; exact he
   ·exact hpre j hj (by omega)
 ·simp [hlen, hil]
  refine out rg0 w2 S2 ?_
  unfold lq
  rw [bdv fun p hp => by
   obtain ⟨j, hj, rfl⟩ := List.getElem_of_mem hp
   exact hpre j hj (by omega)]
  rfl
theorem atg : ∀ {l : je} {tr : Int} {r : Rg} {k : Nat}, k ≤ l.length → (∀ j (h : j < l.length), j < k → l[j].1 < tr) → (∀ h : k < l.length, ¬ l[k].1 < tr) →
  oz l tr r = l.take k ++ [(tr, r)] ++ (if h : k < l.length then if l[k].1 = tr then l.drop (k + 1) else l.drop k else [])
 | [], tr, r, k, hk, _, _ => by
  have : k = 0 := by simpa using hk
  subst this
  rfl
 | (x, y) :: t, tr, r, 0, _, _, h2 => by
  have h0 := h2 (by simp)
  simp only [List.getElem_cons_zero] at h0
  rw [oz, if_neg h0]
  by_cases he : x = tr
  ·rw [if_pos he]; simp [he]
  ·rw [if_neg he]; simp [he]
 | (x, y) :: t, tr, r, k + 1, hk, h1, h2 => by
  have h0 := h1 0 (by simp) (by omega)
  simp only [List.getElem_cons_zero] at h0
  rw [oz, if_pos h0]
  have ih := atg (l := t) (tr := tr) (r := r) (k := k) (by simpa using hk) (fun j hj hlt => by have := h1 (j + 1) (by simpa using hj) (by omega); simpa using this) (fun hh => by have := h2 (by simpa using hh); simpa using this)
  rw [ih]
  simp
def PtI (W : World) (l : je) (tr : Int) (r : Rg) (tb : Nat) : KL := fun x w1 => ∃ (i : Nat), x = [.int .i64 (i : Nat)] ∧ i ≤ l.length ∧ (∀ j (h : j < l.length), j < i → l[j].1 < tr) ∧ St W w1 (fy tb (rgC r) T.i :: [])
theorem afw {w w1 : World} {v v3 : Value} {l rest : je} {tr : Int} {r : Rg} {tb k : Nat} (S : St w w1 (fy tb (rgC r) T.i :: [])) (hs : SlO w v l) (hl : l.length ≤ 1000000) (hk : k ≤ l.length) (s3 : SlO w1 v3 rest) (hr : rest.length ≤ l.length) (hown : ∀ b, v.ownBlock = some b → b < w.heap.size) (hown3 : ∀ b, v3.ownBlock = some b → b < w.heap.size) {K : KV}
  (h : ∀ w' v', Ow w' w.heap.size T.v 6 wd v' (l.take k ++ [(tr, r)] ++ rest) → Fr (fun _ => False) w w' → K v' w') : M.ba.j3 v [.int .i64 (k : Nat)] (.pointer (some ⟨tb, 0, none⟩)) (.int .u64 tr) [v3] w1 K := by
 unfold M.ba.j3
 have hs1 : SlO w1 v l := hs.fr S.fr fun _ _ _ h => h
 obtain ⟨v', s', hob, hsub⟩ := hs1.sub (P := P) (t := T.h) (lo := none) (hi := some (.int .i64 (k : Nat))) (i := 0) (j := k) (by kernel_rfl) (by kernel_rfl) (.inl ⟨rfl, rfl⟩) (.inr ⟨_, rfl⟩) (Nat.zero_le _) hk
 rw [List.drop_zero, Nat.sub_zero] at s'
 have rl : ∀ {w'}, Fr (fun _ => False) w1 w' → ∀ K, ldN P 5 tb 0 w' K = K (.agg #[.int .u64 r.p.n, .int .u64 r.p.gg, .int .u64 r.t.n, .int .u64 r.t.gg, .int .i64 r.v]) w' := fun f K => (iu (S.ir f)).2.2.2 K
 have rld : ∀ K, ldN P 5 tb 0 (Eng.dr w1 1) K = K (.agg #[.int .u64 r.p.n, .int .u64 r.p.gg, .int .u64 r.t.n, .int .u64 r.t.gg, .int .i64 r.v]) (Eng.dr w1 1) := rl ((Fr.refl _ w1).dr 1)
 have g12 : ∀ (b0 b1 b2 b3 b4 b5 b6 b7 b8 b9 b10 b11 b12 : Value), gv [b0, b1, b2, b3, b4, b5, b6, b7, b8, b9, b10, b11, b12] 12 = b12 := fun _ _ _ _ _ _ _ _ _ _ _ _ _ => rfl
 have hsz := S.fr.size
 simp [hsub, rld, g12]
 exact bga (P := P) (ty := T.h) et.h xa aos (x := (tr, r)) (cells := #[.int .u64 tr, .int .u64 r.p.n, .int .u64 r.p.gg, .int .u64 r.t.n, .int .u64 r.t.gg, .int .i64 r.v]) rfl s' s3 (fun b hb => by have := hown b (hob b hb); omega) (fun b hb => by have := hown3 b hb; omega) (by simp; omega) (by decide)
  (Q := fun w1 => ldN P 5 tb 0 w1 fun v' w' => w' = w1 ∧ v' = .agg #[.int .u64 r.p.n, .int .u64 r.p.gg, .int .u64 r.t.n, .int .u64 r.t.gg, .int .i64 r.v]) (fun w' f => by rw [rl f]; exact ⟨rfl, rfl⟩)
  (c1 := [false, false]) (c2 := [false, false]) (c3 := [false, false]) (c4 := [false, false]) (c5 := [false, false]) (c6 := [false, false]) (c7 := [false, false]) (c8 := [false, false]) (c9 := [false, false]) (K := K) fun w' v' o f => h w' v' (o.mono hsz) (S.fr.trans f)
theorem bak {w : World} {v : Value} {l : je} (hs : SlO w v l) (hl : l.length ≤ 1000000) (hown : ∀ b, v.ownBlock = some b → b < w.heap.size) (tr : Int) (r : Rg) {K : KV}
  (h : ∀ w' v', Ow w' w.heap.size T.v 6 wd v' (oz l tr r) → Fr (fun _ => False) w w' → K v' w') : fj P F.dy [v, .int .u64 tr, ju r] w K := by
 rw [M.ba.fcall]
 apply M.ba.calls
 unfold M.ba
 refine St.pg (St.jc w) fun tb w1 S1 => ?_
 have hlen : ∀ w' K, biT P .len #[T.h] T.b [false] [v] w' K = K (.int .i64 l.length) w' := fun w' K => hs.ip (by kernel_rfl) [false]
 simp only [fm]
 refine ⟨PtI w l tr r tb, fun x _ => l.length - ms x 0, ⟨0, rfl, Nat.zero_le _, fun j _ h => by omega, S1⟩, ?_⟩
 rintro x w2 ⟨i, rfl, hi, hpre, S2⟩
 unfold M.ba.j1
 have q0 : gv [.int .i64 (i : Nat)] 0 = .int .i64 (i : Nat) := rfl
 have hs2 : SlO w2 v l := hs.fr S2.fr fun _ _ _ h => h
 -- where it stops
 have gc : (∀ h : i < l.length, ¬ l[i].1 < tr) → M.ba.j0 v [.int .i64 (i : Nat)] (.int .u64 tr) (.pointer (some ⟨tb, 0, none⟩)) w2 K := fun h2 => by
  have hput := atg (r := r) hi hpre h2
  unfold M.ba.j0
  obtain ⟨v', s', hob, hsub⟩ := hs2.sub (P := P) (t := T.h) (lo := some (.int .i64 (i : Nat))) (hi := none) (i := i) (j := l.length) (by kernel_rfl) (by kernel_rfl) (.inr ⟨_, rfl⟩) (.inl ⟨rfl, rfl⟩) hi (Nat.le_refl _)
  rw [List.take_of_length_le (by simp)] at s'
  have hlen2 : ∀ w' K, biT P .len #[T.h] T.b [false] [v'] w' K = K (.int .i64 ((l.length - i : Nat) : Int)) w' := fun w' K => by
   have := s'.ip (P := P) (t := T.h) (ty := T.b) (w := w') (by kernel_rfl) [false] (K := K)
   rwa [List.length_drop] at this
  have hown2 : ∀ b, v'.ownBlock = some b → b < w.heap.size := fun b hb => hown b (hob b hb)
  rw [q0, hsub]
  by_cases hil : i < l.length
  ·have hpos : (0 : Int) < ((l.length - i : Nat) : Int) := by omega
   rw [dif_pos hil] at hput
   have hdl : 0 < (l.drop i).length := by rw [List.length_drop]; omega
   obtain ⟨b, o, cap, hv, _, _, hc⟩ := s'.at (i := 0) hdl
   have e0 : (l.drop i)[0]'hdl = l[i] := by rw [List.getElem_drop]; rfl
   rw [e0] at hc
   have c0 : ft w2 b o = some (.int .u64 l[i].1) := by have := hc 0 _ rfl; simpa using this
   have hia : ∀ w' K, iaT P T.h v' (.int .i64 0) w' K = K (.pointer (some ⟨b, o, none⟩)) w' := fun w' K => by
    have hpn : 0 < l.length - i := by omega
    rw [hv]; simp [hpn, hil]
   have hpn : 0 < l.length - i := by omega
   by_cases he : l[i].1 = tr
   ·rw [if_pos he] at hput
    simp only [fm]
    rw [hlen2]
    obtain ⟨v3, s3, hob3, hsub3⟩ := s'.sub (P := P) (t := T.h) (lo := some (.int .i64 (1 : Nat))) (hi := none) (i := 1) (j := (l.drop i).length) (by kernel_rfl) (by kernel_rfl) (.inr ⟨_, rfl⟩) (.inl ⟨rfl, rfl⟩) hdl (Nat.le_refl _)
    rw [List.take_of_length_le (by simp; omega), List.drop_drop] at s3
    have hsub3' : ∀ w1 K, slT P T.h v' (some (.int .i64 1)) none none w1 K = K v3 w1 := hsub3
    simp [hpn, hia, c0, he, hsub3']
    refine afw S2 hs hl hi s3 (by simp) hown (fun b hb => hown2 b (hob3 b hb)) fun w' v4 o4 f4 => ?_
    rw [← hput] at o4
    exact h w' v4 o4 f4
   ·rw [if_neg he] at hput
    simp only [fm]
    rw [hlen2]
    simp [hpn, hia, c0, he]
    refine afw S2 hs hl hi s' (by simp) hown hown2 fun w' v4 o4 f4 => ?_
    rw [← hput] at o4
    exact h w' v4 o4 f4
  ·have hpos : ¬ (0 : Int) < ((l.length - i : Nat) : Int) := by omega
   rw [dif_neg hil] at hput
   simp only [fm]
   rw [hlen2]
   simp only [ng, decide_eq_false hpos]
   simp
   refine afw S2 hs hl hi s' (by simp) hown hown2 fun w' v4 o4 f4 => ?_
   rw [List.drop_of_length_le (by omega), ← hput] at o4
   exact h w' v4 o4 f4
 by_cases hil : i < l.length
 ·have hwi : IntKind.i64.wrap ((i : Int) + 1) = ((i + 1 : Nat) : Int) := by rw [fp (by omega) (by omega)]; rfl
  obtain ⟨b, o, cap, hv, _, _, hc⟩ := hs2.at hil
  have hia : ∀ w' K, iaT P T.h v (.int .i64 (i : Nat)) w' K = K (.pointer (some ⟨b, o + i * 6, none⟩)) w' := fun w' K => by rw [hv]; simp [hil]
  have c0 : ft w2 b (o + i * 6) = some (.int .u64 l[i].1) := hc 0 _ rfl
  by_cases hlt : l[i].1 < tr
  ·simp [hlen, hil, hia, c0, hlt, hwi]
   refine ⟨⟨i + 1, rfl, by omega, fun j hj hj2 => ?_, S2⟩, by simp [ms, gv]; omega⟩
   by_cases hji : j = i
   ·subst hji; exact hlt
   ·exact hpre j hj (by omega)
  ·simp [hlen, hil, hia, c0, hlt]
   exact gc fun _ => hlt
 ·simp [hlen, hil]
  exact gc fun h => absurd h hil
def avd (m : je) (p : Pk) (ls : List Spn) (lm : List Mem) (lu : List Int) : je := if pk p ls lm lu = true then acd m (decide (p.fu = 6)) p.tr p.b p.v else m
def tx (m : je) (p : Pk) (ls : List Spn) (lm : List Mem) (lu : List Int) : Pk := if pk p ls lm lu = true then aeg (jk m (decide (p.fu = 6)) p.tr p.b p.v).1 p.tr p.b (jk m (decide (p.fu = 6)) p.tr p.b p.v).2 (decide (p.fu = 6)) else pkZ
abbrev yk (v : Value) (l : je) : Asn := rdA 6 wd v l
section
variable {w0 w : World} {R : List Asn} {v : Value} {m : je} {p : Pk} {ls : List Spn} {lm : List Mem} {lu : List Int}
theorem bfi {α : Type} {sz : Nat} {enc : α → List Value} {l : List α} (S : St w0 w (rdA sz enc v l :: R)) : ∀ b, v.ownBlock = some b → b < w.heap.size := fun b hb => by
 obtain ⟨B, h1, h2, _⟩ := S.open
 exact (h2 b (h1.2 b hb)).2
abbrev atx (w w' : World) (v : Value) (m : je) (v' : Value) (m' : je) : Prop := (v' = v ∧ m' = m) ∨ (SlO w' v' m' ∧ ∀ b, v'.ownBlock = some b → w.heap.size ≤ b ∧ b < w'.heap.size)
theorem bfw {w w' : World} {v v' : Value} {m m' : je} (S : St w w' (yk v' m' :: [])) : atx w w' v m v' m' := .inr ⟨S.rd, fun b hb => by
 obtain ⟨B, h1, h2, _⟩ := S.open
 exact h2 b (h1.2 b hb)⟩
theorem avk (hs : SlO w v m) (hown : ∀ b, v.ownBlock = some b → b < w.heap.size) (hml : m.length ≤ 1000000) (hp : nu w p ls lm lu) (hr : vr p) (hls : LsR ls lm lu) {K : KV}
  (h : ∀ w' v', Fr (fun _ => False) w w' → atx w w' v m v' (avd m p ls lm lu) → K (.tuple #[v', pkA (tx m p ls lm lu), .bool (pk p ls lm lu)]) w') : fj P F.bg [v, pkA p] w K := by
 rw [M.ae.fcall]
 apply M.ae.calls
 unfold M.ae
 refine St.pg (St.jc w) fun pb w1 S1 => ?_
 have S1' : St w w1 (fy pb (pkC p).toArray T.a :: []) := S1
 simp
 have S2 := tu S1'
 generalize w1.heap.size = tb at *
 generalize w1.alloc _ = w2 at *
 obtain ⟨c0, c1, c2, c4, c6, _⟩ := ij S2.swap
 unfold avd tx at h
 have no : ∀ w3, St w w3 (fy tb (pkC pkZ).toArray T.a :: fy pb (pkC p).toArray T.a :: []) → pk p ls lm lu = false → stN P tb 0 [.int .i64 0, .int .u64 0, .int .u64 0, .int .u64 0, .int .u64 0, .int .u64 0, .int .i64 0, .bool false, .slice none 0 0, .slice none 0 0, .slice none 0 0] w3 fun _ w => la P T.a (.pointer (some ⟨tb, 0, none⟩)) w fun r0 w' => w' = w ∧ K (.tuple #[v, r0, .bool false]) w := fun w3 S3 he =>
  zt (q := pkZ) S3 rfl (oo _ _ _ _ _ _) (K := fun r0 w => K (.tuple #[v, r0, .bool false]) w) fun w4 S4 => by
   have := h w4 v S4.fr
   rw [he] at this
   simp only [Bool.false_eq_true, if_false] at this
   exact this (.inl ⟨rfl, rfl⟩)
 have hask : (p.fu = 4 ∨ p.fu = 6) → pk p ls lm lu = rj p ls lm lu := fun hk => by
  unfold pk
  have : (decide (p.fu = 4) || decide (p.fu = 6)) = true := by simpa using hk
  rw [this, Bool.true_and]
 -- what is granted, in the end
 have fin : ∀ (r : Rg) (ok tk : Bool) (rb : Nat) w3, pk p ls lm lu = true → tk = decide (p.fu = 6) → (r, ok) = jk m tk p.tr p.b p.v → St w w3 (fy rb (rgC r) T.i :: fy tb (pkC pkZ).toArray T.a :: fy pb (pkC p).toArray T.a :: []) →
   M.ae.j1 [.bool ok] (.pointer (some ⟨pb, 0, none⟩)) (.pointer (some ⟨rb, 0, none⟩)) v (.pointer (some ⟨tb, 0, none⟩)) w3 K := fun r ok tk rb w3 he htk hrk S3 => by
  rw [he] at h
  simp only [if_true] at h
  rw [← htk, ← hrk] at h
  have hM : acd m tk p.tr p.b p.v = if ok = true then oz m p.tr r else m := by unfold acd; rw [← hrk]
  rw [hM] at h
  simp only at h
  have out : ∀ (v2 : Value) (m2 : je) (X : List Asn) w4, m2 = (if ok = true then oz m p.tr r else m) → (∀ w', St w w' X → atx w w' v m v2 m2) → St w w4 (fy rb (rgC r) T.i :: fy tb (pkC pkZ).toArray T.a :: fy pb (pkC p).toArray T.a :: X) →
    M.ae.j2 (.pointer (some ⟨rb, 0, none⟩)) (.pointer (some ⟨pb, 0, none⟩)) [.bool ok] (.pointer (some ⟨tb, 0, none⟩)) [v2] w4 K := fun v2 m2 X w4 em hn S4 => by
   obtain ⟨_, _, _, rl⟩ := iu S4
   obtain ⟨d0, d1, d2, _⟩ := ij S4.up2
   unfold M.ae.j2
   simp [rl, d0, d1, d2]
   refine ava _ _ _ _ _ fun w5 f5 => ?_
   rw [adh]
   have S5 := S4.ir f5
   rw [← htk]
   refine zt S5.swap rfl (oo _ _ _ _ _ _) (K := fun r0 w => K (.tuple #[v2, r0, .bool true]) w) fun w6 S6 => ?_
   refine h w6 v2 S6.fr ?_
   rw [← em]
   exact hn w6 S6.drop.drop.drop
  unfold M.ae.j1
  cases ok with
  | false =>
   simp
   exact out v m [] w3 (by simp) (fun _ _ => .inl ⟨rfl, rfl⟩) S3
  | true =>
   obtain ⟨_, _, _, rl⟩ := iu S3
   obtain ⟨d0, d1, d2, _⟩ := ij S3.up2
   simp [d1, rl]
   have hsz := S3.fr.size
   refine bak (hs.fr S3.fr fun _ _ _ h => h) hml (fun b hb => by have := hown b hb; omega) p.tr r fun w4 v4 o4 f4 => ?_
   have S4 : St w w4 (yk v4 (oz m p.tr r) :: _) := S3.add f4 (B := fun x => v4.ownBlock = some x) ⟨o4.sl xa, fun b hb => hb⟩ fun b hb => o4.lt hb
   exact out v4 _ _ w4 (by simp) (fun _ => bfw) (St.dn3 S4)
 -- an ask
 have ask : ∀ w3, St w w3 (fy tb (pkC pkZ).toArray T.a :: fy pb (pkC p).toArray T.a :: []) → (p.fu = 4 ∨ p.fu = 6) → rj p ls lm lu = true → M.ae.j0 (.pointer (some ⟨pb, 0, none⟩)) v (.pointer (some ⟨tb, 0, none⟩)) w3 K := fun w3 S3 hk hre => by
  have hae : pk p ls lm lu = true := by rw [hask hk]; exact hre
  obtain ⟨d0, d1, d2, _, d6, _⟩ := ij S3.swap
  unfold M.ae.j0
  simp [d1]
  refine bas (hs.fr S3.fr fun _ _ _ h => h) hml p.tr fun w4 f4 => ?_
  have S4 := S3.ir f4
  have S5 := tf S4 T.i
  generalize w4.heap.size = rb at *
  generalize w4.alloc _ = w5 at *
  unfold ju
  simp
  refine ot (r' := lq m p.tr) S5 fun w6 S6 => ?_
  obtain ⟨d0, d1, d2, _, d6, _⟩ := ij S6.up2
  obtain ⟨_, _, _, rl⟩ := iu S6
  by_cases h4 : p.fu = 4
  ·have h6 : ¬ p.fu = 6 := by omega
   simp [d0, h4, rl, d2]
   refine azq _ _ hr.b.1.1 fun w7 f7 => ?_
   have S7 := S6.ir f7
   simp
   unfold ju
   simp
   refine ot (r' := ((lq m p.tr).qh p.b).1) S7 fun w8 S8 => ?_
   exact fin _ _ false rb w8 hae (by simp [h6]) (by unfold jk; simp) S8
  ·have h6 : p.fu = 6 := by omega
   simp [d0, h6, rl, d2, d6]
   refine bea _ _ _ hr.b.1.1 fun w7 f7 => ?_
   have S7 := S6.ir f7
   simp
   unfold ju
   simp
   refine ot (r' := ((lq m p.tr).acc p.b p.v).1) S7 fun w8 S8 => ?_
   exact fin _ _ true rb w8 hae (by simp [h6]) (by unfold jk; simp) S8
 by_cases hk : p.fu = 4 ∨ p.fu = 6
 ·have pl := fun K => px S2.swap K
  have rt : ∀ {Q : KV}, (∀ w3, Fr (fun _ => False) w2 w3 → Q (.int .i64 (zk p ls lm lu)) w3) → fj P F.cb [pkA p] w2 Q := fun {Q} hq => amz (hp.fr S2.fr) hr (fun x hx => (hls.m x hx).1) (fun x hx => (hls.u x hx).1) hq
  have go : ∀ w3, Fr (fun _ => False) w2 w3 → fl (.bool !decide (zk p ls lm lu = 0)) (stN P tb 0 [.int .i64 0, .int .u64 0, .int .u64 0, .int .u64 0, .int .u64 0, .int .u64 0, .int .i64 0, .bool false, .slice none 0 0, .slice none 0 0, .slice none 0 0] w3 fun _ w => la P T.a (.pointer (some ⟨tb, 0, none⟩)) w fun r0 w' => w' = w ∧ K (.tuple #[v, r0, .bool false]) w) (M.ae.j0 (.pointer (some ⟨pb, 0, none⟩)) v (.pointer (some ⟨tb, 0, none⟩)) w3 K) := fun w3 f3 => by
   have S3 := S2.ir f3
   unfold zk
   cases hre : rj p ls lm lu with
   | false =>
    simp
    exact no w3 S3 (by rw [hask hk]; exact hre)
   | true =>
    simp
    exact ask w3 S3 hk hre
  by_cases h4 : p.fu = 4
  ·simp [c0, h4, pl]
   exact rt fun w3 f3 => by simpa using go w3 f3
  ·have h6 : p.fu = 6 := by omega
   simp [c0, h6, pl]
   exact rt fun w3 f3 => by simpa using go w3 f3
 ·have h4 : ¬ p.fu = 4 := fun h => hk (.inl h)
  have h6 : ¬ p.fu = 6 := fun h => hk (.inr h)
  simp [c0, h4, h6]
  exact no w2 S2 (by unfold pk; simp [h4, h6])
theorem bdu {v' : Value} {m' : je} {w' : World} (S : St w0 w (yk v m :: R)) (f : Fr (fun _ => False) w w') (hn : atx w w' v m v' m') : St w0 w' (yk v' m' :: R) := by
 rcases hn with ⟨rfl, rfl⟩ | ⟨h1, h2⟩
 ·exact S.ir f
 ·exact S.drop.add f (B := fun x => v'.ownBlock = some x) ⟨h1, fun b hb => hb⟩ h2
theorem aet (S : St w0 w (yk v m :: R)) (hml : m.length ≤ 1000000) (hp : nu w0 p ls lm lu) (hr : vr p) (hls : LsR ls lm lu) {K : KV}
  (h : ∀ w' v', St w0 w' (yk v' (avd m p ls lm lu) :: R) → K (.tuple #[v', pkA (tx m p ls lm lu), .bool (pk p ls lm lu)]) w') : fj P F.bg [v, pkA p] w K :=
 avk S.rd (bfi S) hml (hp.fr S.fr) hr hls fun w' v' f hn => h w' v' (bdu S f hn)
end
set_option maxRecDepth 100000
open Go.Eng Go.Proofs.YtfnhoaemapheoaaGreat.Sint
def bgw (W : World) (l1 l2 : je) : KL := fun x w1 => ∃ (u : Value) (i : Nat), x = [u, .int .i64 (i : Nat)] ∧ i ≤ l1.length ∧ (∀ j (h1 : j < l1.length) (h2 : j < l2.length), j < i → l1[j] = l2[j]) ∧ Fr (fun _ => False) W w1
theorem awj {w : World} {v1 v2 : Value} {l1 l2 : je} (s1 : SlO w v1 l1) (s2 : SlO w v2 l2) (hlen : l1.length ≤ 1000000) {K : KV} (h : ∀ w', Fr (fun _ => False) w w' → K (.bool (decide (l1 = l2))) w') : fj P F.dj [v1, v2] w K := by
 rw [M.bt.fcall]
 apply M.bt.calls
 unfold M.bt
 have k1 : ∀ w' K, biT P .len #[T.h] T.b [false] [v1] w' K = K (.int .i64 l1.length) w' := fun w' K => s1.ip (by kernel_rfl) [false]
 have k2 : ∀ w' K, biT P .len #[T.h] T.b [false] [v2] w' K = K (.int .i64 l2.length) w' := fun w' K => s2.ip (by kernel_rfl) [false]
 by_cases hne : l1.length = l2.length
 case neg =>
  have hne' : ¬ (l1.length : Int) = (l2.length : Int) := by omega
  simp [k1, k2, hne']
  have := h w (Fr.refl _ _)
  rwa [decide_eq_false fun he => hne (congrArg List.length he)] at this
 have hne' : (l1.length : Int) = (l2.length : Int) := by omega
 simp [k1, k2, hne']
 refine ⟨bgw w l1 l2, fun x _ => l1.length - ms x 1, ⟨_, 0, rfl, Nat.zero_le _, fun j _ _ h => by omega, Fr.refl _ _⟩, ?_⟩
 rintro x w1 ⟨u, i, rfl, hi, hpre, f1⟩
 unfold M.bt.j2
 by_cases hil : i < l1.length
 ·have hil2 : i < l2.length := by omega
  have hwi : IntKind.i64.wrap ((i : Int) + 1) = ((i + 1 : Nat) : Int) := by rw [fp (by omega) (by omega)]; rfl
  obtain ⟨b1, o1, c1, e1, _, _, g1⟩ := (s1.fr f1 fun _ _ _ h => h : SlO w1 v1 l1).at hil
  obtain ⟨b2, o2, c2, e2, _, _, g2⟩ := (s2.fr f1 fun _ _ _ h => h : SlO w1 v2 l2).at hil2
  have i1 : ∀ w' K, iaT P T.h v1 (.int .i64 (i : Nat)) w' K = K (.pointer (some ⟨b1, o1 + i * 6, none⟩)) w' := fun w' K => by rw [e1]; simp [hil]
  have i2 : ∀ w' K, iaT P T.h v2 (.int .i64 (i : Nat)) w' K = K (.pointer (some ⟨b2, o2 + i * 6, none⟩)) w' := fun w' K => by rw [e2]; simp [hil2]
  have d1 : ∀ K, ldN P 6 b1 (o1 + i * 6) (dr w1 1) K = K (aek l1[i]) (dr w1 1) := fun K => ldO (fun k v hk => by rw [ly]; exact g1 k v hk) K
  have d2 : ∀ K, ldN P 6 b2 (o2 + i * 6) (dr w1 1) K = K (aek l2[i]) (dr w1 1) := fun K => ldO (fun k v hk => by rw [ly]; exact g2 k v hk) K
  simp [k1, hil]
  unfold M.bt.j3
  by_cases he : l1[i] = l2[i]
  ·simp [i1, i2, d1, d2, avz, he, hwi]
   refine ⟨⟨_, i + 1, rfl, by omega, fun j a1 a2 hj => ?_, f1.dr 1⟩, by simp [ms, gv]; omega⟩
   by_cases hji : j = i
   ·subst hji; exact he
   ·exact hpre j a1 a2 (by omega)
  ·simp [i1, i2, d1, d2, avz, he]
   have := h _ (f1.dr 1)
   rwa [decide_eq_false fun hee => he (by simp [hee])] at this
 ·simp [k1, hil]
  have := h _ f1
  rwa [decide_eq_true (ajl hne fun j a1 a2 => hpre j a1 a2 (by omega))] at this
section
variable {w0 w : World} {R : List Asn} {q hb : Nat} {m : je} {L : Lg} {dn : Bool}
def bhh (w0 : World) (tv : Value) (q hb : Nat) (m : je) (L : Lg) (dn : Bool) (R : List Asn) : KL := fun x w1 => ∃ (v : Value) (i : Nat), x = [v, .int .i64 (i : Nat)] ∧ i ≤ m.length ∧ St w0 w1 (te T.v 6 wd v (m.take i) :: rdA 1 yo tv (m.map (·.1)) :: me q hb m L dn :: R)
theorem axg (S : St w0 w (me q hb m L dn :: R)) (ha : Asc m) (hl : m.length ≤ 50000) {K : KV} (h : ∀ w' v', St w0 w' (te T.v 6 wd v' m :: me q hb m L dn :: R) → K v' w') : fj P F.cr [jh q] w K := by
 rw [M.cz.fcall]
 apply M.cz.calls
 unfold M.cz
 refine afj S ha (by omega) fun w2 tv S2 => ?_
 have hl5 := fun w' K => (S2.rd).ip (P := P) (t := T.f) (ty := T.b) (w := w') (by kernel_rfl) [false] (K := K)
 rw [List.length_map] at hl5
 simp only [fm]
 refine ⟨bhh w0 tv q hb m L dn R, fun x _ => m.length - ms x 1, ⟨_, 0, rfl, Nat.zero_le _, Go.Eng.qv S2⟩, ?_⟩
 rintro x w3 ⟨v, i, rfl, hi, S3⟩
 by_cases hil : i < m.length
 ·have hwi : IntKind.i64.wrap ((i : Int) + 1) = ((i + 1 : Nat) : Int) := by rw [fp (by omega) (by omega)]; rfl
  have hrd : ∀ {w' : World} {L' : List Asn}, St w0 w' (rdA 1 yo tv (m.map (·.1)) :: L') → SlU w' tv (m.map (·.1)) := fun S' => S'.rd
  obtain ⟨b, o, cap, hv, _, hc⟩ := yf (hrd S3.swap) (i := i) (by simpa using hil)
  rw [List.getElem_map] at hc
  have hia : ∀ w' K, iaT P T.f tv (.int .i64 (i : Nat)) w' K = K (.pointer (some ⟨b, o + i, none⟩)) w' := fun w' K => by rw [hv]; simp [hil]
  have hcell : ∀ {w' : World} {L' : List Asn}, St w0 w' (rdA 1 yo tv (m.map (·.1)) :: L') → ft w' b (o + i) = some (.int .u64 m[i].1) := fun {w' L'} S' => by
   obtain ⟨b', o', cap', hv', _, hc'⟩ := yf (hrd S') (i := i) (by simpa using hil)
   rw [List.getElem_map] at hc'
   rw [hv] at hv'
   simp only [Value.slice.injEq, Option.some.injEq, Addr.mk.injEq] at hv'
   obtain ⟨⟨rfl, rfl, _⟩, _⟩ := hv'
   exact hc'
  simp [hl5, hil]
  unfold M.cz.j2
  have S3d := S3.ir ((Fr.refl _ w3).dr 1)
  simp [hia, hc]
  have hq : (Value.pointer (some ⟨q, 0, none⟩)) = jh q := rfl
  refine avr S3d.up2 m[i].1 fun w4 S4 => ?_
  have S4' := S4.dn2
  have e : lq m m[i].1 = m[i].2 := by unfold lq; rw [awb ha hil]; rfl
  rw [e]
  simp [hcell S4'.swap]
  refine bec _ fun w5 f5 => ?_
  have S5 := S4'.ir f5
  simp [hcell S5.swap]
  unfold ju
  simp
  have S6 : St w0 (w5.alloc (.cells #[.int .u64 m[i].1, .int .u64 (m[i].2).p.n, .int .u64 (m[i].2).p.gg, .int .u64 (m[i].2).t.n, .int .u64 (m[i].2).t.gg, .int .i64 (m[i].2).v] T.v)) (te T.v 6 wd (.slice (some ⟨w5.heap.size, 0, none⟩) 1 1) [m[i]] :: _) := St.adx (l := [m[i]]) S5 xa rfl (by simp [maxLen])
  refine Go.Eng.xn et.h xa aos S6.swap (l2 := [m[i]]) (S6.row xa) (by simp; omega) (by decide) fun w7 v7 S7 => ?_
  rw [hwi]
  refine ⟨⟨v7, i + 1, rfl, by omega, ?_⟩, by simp [ms, gv]; omega⟩
  have e2 : m.take (i + 1) = m.take i ++ [m[i]] := by rw [List.take_add_one, List.getElem?_eq_getElem hil]; rfl
  rw [e2]
  exact S7.swap.drop
 ·have hie : i = m.length := by omega
  subst hie
  rw [List.take_length] at S3
  simp [hl5]
  exact h w3 v S3.swap.drop
end
set_option maxRecDepth 100000
open Go.Eng Go.Proofs.YtfnhoaemapheoaaGreat.Sint
section
variable {w0 w : World} {R : List Asn} {p hb : Nat} {v : Value} {L : Lg} {D : Dk} {s f : Int} {G : Nat} {l : List PB} {ls : List (List Int)} {vs : List SV}
end
set_option maxRecDepth 100000
open Go.Eng Go.Proofs.YtfnhoaemapheoaaGreat.Sint
def Cut (ds : List (List Int)) (F : Nat) (m1 m2 : je) : Prop := ∀ j, F ≤ (ds.take j).length → nf (ds.take j) = m1 ∨ nf (ds.take j) = m2
theorem alc {ds : List (List Int)} {F : Nat} {m : je} (h : xq ds F m) : Cut ds F m m := fun j hj => .inl (abe h hj)
theorem baq {ds : List (List Int)} {F : Nat} {m : je} {p : Int × Rg} (h : xq ds F m) (hF : F ≤ ds.length) (hp : okE p) : Cut (ds ++ [mi p.1 p.2]) F m (oz m p.1 p.2) := fun j hj => aof h hF hp hj
theorem bdn {ds : List (List Int)} {F : Nat} {m : je} (p : je) (h : xq ds F m) : Cut ds F m p := fun j hj => .inl (abe h hj)
theorem aia (ic gk : Int) : pq 0 0 ⟨gk, []⟩ 0 ⟨ic, 0, false, false, []⟩ :=
 ⟨⟨trivial, by omega, by omega, by simp, by simp [gu], .inl ⟨rfl, rfl, rfl⟩, fun _ => ⟨rfl, rfl⟩, fun q h => by simp at h⟩, fun q h => by simp at h, rfl⟩
theorem ajm (ic gk : Int) : RI 0 0 ⟨gk, []⟩ 0 ⟨ic, 0, false, false, []⟩ [] :=
 ⟨aia ic gk, fun d hd => by simp [gu] at hd, fun j _ => by simp [gu, nf], Nat.zero_le _⟩
section
variable {w0 w : World} {R : List Asn} {q hb : Nat} {m m1 m2 : je} {L : Lg} {D : Dk} {G : Nat} {s f : Int} {Q : List Prt} {x : Prop} {gk : Int}
theorem afn (S : St w0 w (gj hb D :: R)) (hv : Vir s f Q G D x) (hd : D.gr = false) (hm : 64 ≤ gk ∧ gk ≤ 1048576) (hr : zy (gu Q)) (hc : Cut (gu Q) G m1 m2) {K : KV}
  (h : ∀ w' q m' s' f' L' D', (m' = m1 ∨ m' = m2) → RI s' f' L' (gu L'.fq).length D' m' → L'.gk = gk → f' + (gu L'.fq).length ≤ f + (gu Q).length → D'.iq = D.iq → D'.ic = D.ic → (x → L'.fq = Q) → (gu L'.fq).length ≤ (gu Q).length → St w0 w' (me q hb m' L' false :: gj hb D' :: R) → K (.tuple #[jh q, .int .i64 0]) w') : fj P F.cg [.pointer (some ⟨hb, 0, none⟩), .int .i64 gk] w K := by
 obtain ⟨s', f', Q', D', eo, g, e2, e3, ⟨j, e4⟩, e5, _, e6, _, _, e7⟩ := bev hv hd hm
 obtain ⟨y1, y2, y3, y4, _, y6, _⟩ := ann g.vir g.up
 have hr' : zy (gu Q') := by rw [e4]; exact axs hr j
 refine bbc S (by omega) eo g y1 hr' fun w2 q S2 => ?_
 have hl : (gu Q').length ≤ (gu Q).length := by rw [e4]; exact List.length_take_le' _ _
 have hcm : nf (gu Q') = m1 ∨ nf (gu Q') = m2 := by rw [e4]; exact hc j (by rw [← e4]; exact e5)
 exact h w2 q (nf (gu Q')) s' f' ⟨gk, Q'⟩ _ hcm ⟨⟨y2, g.size, y3⟩, hr', afq _, Nat.le_refl _⟩ rfl (by show f' + ((gu Q').length : Int) ≤ _; omega) (by rw [y4, e2]) (by rw [y6, e3]) (fun hx => (e6 hx).2.1) hl S2
inductive aoh (s f : Int) (gk : Int) (B : Int) (arm : Bool) (ic : Int) (m1 m2 : je) : Int → je → Bool → Lg → Dk → Prop
 | ok (F : Nat) (L : Lg) (D : Dk) (s' f' : Int) : RI s' f' L F D m2 → L.gk = gk → f' + (gu L.fq).length ≤ B → (arm = false → D.iq = false) → D.ic = ic → aoh s f gk B arm ic m1 m2 0 m2 false L D
 | tq (F : Nat) (L : Lg) (D : Dk) : RI s f L F D m1 → L.gk = gk → f + (gu L.fq).length ≤ B → (arm = false → D.iq = false) → D.ic = ic → aoh s f gk B arm ic m1 m2 9 m1 false L D
 | gr (F : Nat) (L : Lg) (D : Dk) (Q : List Prt) : arm = true → D.gr = true → Vir s f Q F D False → zy (gu Q) → Cut (gu Q) F m1 m2 → f + (gu Q).length ≤ B → D.ic = ic → L.gk = gk → f + (gu L.fq).length ≤ B → aoh s f gk B arm ic m1 m2 10 m1 true L D
variable {p : Pk} {ls : List Spn} {lm : List Mem} {lu : List Int} {F0 : Nat}
theorem aug {B : Int} {k : Int × Rg} (I : RI s f L F0 D m) (hp : okE k) (hB : f + (gu L.fq).length + 1 ≤ B) (hB2 : B ≤ 1000000000000) :
  ((na L D k.1 k.2).2 = 0 → aoh s f L.gk B D.iq D.ic m (oz m k.1 k.2) 0 (oz m k.1 k.2) false (na L D k.1 k.2).1.1 (na L D k.1 k.2).1.2) ∧ ((na L D k.1 k.2).2 ≠ 0 → aoh s f L.gk B D.iq D.ic m (oz m k.1 k.2) (na L D k.1 k.2).2 m (decide ((na L D k.1 k.2).2 = 10)) (na L D k.1 k.2).1.1 (na L D k.1 k.2).1.2) := by
 have hw : WrR s f L F0 D [mi k.1 k.2] (na L D k.1 k.2) := ast I.vm (fun b hb => by rw [List.mem_singleton.1 hb, yq]; omega) (by simp; omega)
 have hsnoc : ∀ {ds : List (List Int)}, zy ds → zy (ds ++ [mi k.1 k.2]) := fun {ds} hr d hd => by
  rcases List.mem_append.1 hd with hd | hd
  ·exact hr d hd
  ·exact ⟨k, hp, List.mem_singleton.1 hd⟩
 generalize na L D k.1 k.2 = z at *
 cases hw with
 | ok L' D' g e1 e2 e3 e4 =>
  refine ⟨fun _ => .ok _ L' D' s f ⟨g, by rw [e1]; exact hsnoc I.ge, ?_, Nat.le_refl _⟩ e2 (by rw [e1, List.length_append, List.length_singleton]; omega) e4 e3, fun h => by simp at h⟩
  have : oz m k.1 k.2 = nf (gu L'.fq) := by rw [e1, agj hp.1 hp.2.1 hp.2.2.1 hp.2.2.2, I.bap]
  rw [this]
  exact afq _
 | tq i L' D' hi g e1 e2 e3 e4 =>
  refine ⟨fun h => by simp at h, fun _ => ?_⟩
  have hi0 : i = 0 := by simpa using hi
  rw [hi0, List.take_zero, List.append_nil] at e1
  exact .tq F0 L' D' ⟨g, by rw [e1]; exact I.ge, by rw [e1]; exact I.set, by rw [e1]; exact I.le⟩ e2 (by rw [e1]; omega) e4 e3
 | gr i L' D' Q b1 b2 b3 b4 b5 b6 b7 b8 =>
  refine ⟨fun h => by simp at h, fun _ => ?_⟩
  have hQ : Cut (gu Q) F0 m (oz m k.1 k.2) ∧ zy (gu Q) := by
   cases i with
   | zero => rw [b6, List.take_zero, List.append_nil]; exact ⟨bdn _ I.set, I.ge⟩
   | succ i => rw [b6, List.take_of_length_le (by simp)]; exact ⟨baq I.set I.le hp, hsnoc I.ge⟩
  exact .gr F0 L' D' Q b1 b4 b5 hQ.2 hQ.1 (by rw [b6, List.length_append, List.length_take, List.length_singleton]; omega) b7 b2 (by simp at b8; omega)
end
set_option maxRecDepth 100000
open Go.Eng Go.Proofs.YtfnhoaemapheoaaGreat.Sint
theorem ajv {s f : Int} {L : Lg} {G : Nat} {D : Dk} (g : pq s f L G D) (h : L.fq = []) : D.gx = 0 := by
 rcases g.vir.dsc with ⟨_, hf, _⟩ | ⟨Q0, q, _, _, _, hq, _⟩
 ·unfold Dk.gx; rw [hf]; rfl
 ·rw [h] at hq; simp at hq
theorem baf {s f : Int} {L : Lg} {G : Nat} {D : Dk} {k : Int} {r : Rg} (g : pq s f L G D) (hn : f + (gu L.fq).length + 1 ≤ 1000000000000) (h1 : L.fq.length < 63) (h2 : D.iq = false) (h3 : (D.gx : Int) + 65 ≤ D.ic) : (na L D k r).2 = 0 := by
 have ha := ave (b := mi k r) g hn
 have hb := yq k r
 unfold na
 have h0 : (L.append D (mi k r)).2 = 0 := by
  generalize L.append D (mi k r) = z at *
  cases ha with
  | ahb hx => omega
  | tq D' hx _ _ _ => rcases hx with hx | hx <;> omega
  | gr D' Q hx => rw [h2] at hx; cases hx
  | ok => rfl
 rw [aqb h0]
 generalize L.append D (mi k r) = z at *
 cases ha with
 | ahb hx => simp at h0
 | tq => simp at h0
 | gr => simp at h0
 | ok L' D' g' =>
  have e0 : wrF L' D' [] = ((L', (L'.mj D').1), (L'.mj D').2) := by unfold wrF qk; simp
  rw [e0]
  exact (ann g'.vir g'.up).1
section
variable {w0 w : World} {R : List Asn} {q hb : Nat} {m : je} {L : Lg} {D : Dk} {s f : Int} {p : Pk} {ls : List Spn} {lm : List Mem} {lu : List Int} {F0 : Nat}
theorem axq {B : Int} (S : St w0 w (me q hb m L false :: gj hb D :: R)) (hp : nu w0 p ls lm lu) (hr : vr p) (I : RI s f L F0 D m) (hB : f + (gu L.fq).length + 1 ≤ B) (hB2 : B ≤ 1000000000000) (hae : pk p ls lm lu = true) (h1 : L.fq.length < 63) (h2 : D.iq = false) (h3 : (D.gx : Int) + 65 ≤ D.ic) {K : KV}
  (hl : ∀ w' s' f' F' L' D', RI s' f' L' F' D' (acd m (decide (p.fu = 6)) p.tr p.b p.v) → L'.gk = L.gk → f' + (gu L'.fq).length ≤ B → D'.iq = false → D'.ic = D.ic → St w0 w' (me q hb (acd m (decide (p.fu = 6)) p.tr p.b p.v) L' false :: gj hb D' :: R) → K (.tuple #[pkA (tx m p ls lm lu), .int .i64 0]) w') :
  fj P F.v [jh q, pkA p] w K := by
 have up : D.gr = false := I.vm.up
 obtain ⟨_, htr, _⟩ := aic hae hr
 have hok : okE (p.tr, (jk m (decide (p.fu = 6)) p.tr p.b p.v).1) := aoj I.ok hr.tr htr hr.b
 have hM := bah (m := m) (km := decide (p.fu = 6)) (tr := p.tr) (b := p.b) (v := p.v) I.asc
 have hPk : tx m p ls lm lu = aeg (jk m (decide (p.fu = 6)) p.tr p.b p.v).1 p.tr p.b (jk m (decide (p.fu = 6)) p.tr p.b p.v).2 (decide (p.fu = 6)) := by unfold tx; rw [if_pos hae]
 rw [hPk] at hl
 have hw0 : ∀ r, (na L D p.tr r).2 = 0 := fun r => baf I.vm (by omega) h1 h2 h3
 refine aln S (fun w' R' S' => hp.fr S'.fr) hr (fun _ _ => ⟨F0, I⟩) (by omega) (fun he => by rw [hae] at he; cases he) (fun _ hd => by rw [up] at hd; cases hd) (fun _ _ _ he w' S' => ?_) (fun _ _ _ hne h0 => absurd (hw0 _) h0) fun _ _ _ hne h0 w' S' => ?_
 ·rw [if_pos he] at hM
  rw [hM] at hl
  exact hl w' s f F0 L D I rfl (by omega) h2 rfl S'
 ·rw [if_neg hne] at hM
  rw [hM] at hl
  have hL := (aug I hok hB hB2).1 h0
  simp only at hL
  generalize (na L D p.tr (jk m (decide (p.fu = 6)) p.tr p.b p.v).1).1 = z at *
  cases hL with
  | ok F1 _ _ s' f' I' e1 e2 e3 e4 => exact hl w' s' f' F1 _ _ I' e1 e2 (e3 h2) e4 S'
end
theorem bdt {w : World} {K : KV} (h : ∀ w', Fr (fun _ => False) w w' → K (.bool true) w') : fj P F.az [] w K := by
 rw [M.cj.fcall]
 apply M.cj.calls
 unfold M.cj
 refine atk (St.jc w) 10000 (fun h => by omega) fun _ _ w1 hb S1 => ?_
 simp
 refine afn (m1 := []) (m2 := []) S1 (aia 10000 256).vir rfl (by omega) (ajm 10000 256).ge (alc (ajm 10000 256).set) fun w2 q m' s f L D hm I hmost hfl harm hroom hx _ S2 => ?_
 have hm' : m' = [] := by rcases hm with h | h <;> exact h
 subst hm'
 have hp0 : L.fq = [] := hx trivial
 simp only [jh]
 simp
 unfold M.cj.j0
 simp
 have S3 : St w (w2.alloc (.cells #[.int .u64 0, .int .u64 0] T.c)) (fy w2.heap.size #[.int .u64 0, .int .u64 0] T.c :: _) := S2.mkB #[.int .u64 0, .int .u64 0] T.c
 generalize w2.heap.size = bb at *
 generalize w2.alloc _ = w3 at *
 refine St.put (cs' := #[.int .u64 3, .int .u64 1]) (vs := [.int .u64 3, .int .u64 1]) S3 (by simp) (by simp) rfl fun w4 S4 => ?_
 have bl : ∀ {w' : World} {L' : List Asn}, St w w' (fy bb #[.int .u64 3, .int .u64 1] T.c :: L') → ∀ K, ldN P 2 bb 0 w' K = K (ja ⟨3, 1⟩) w' := fun S' K => S'.ldA [.int .u64 3, .int .u64 1] rfl rfl K
 rw [bl S4]
 unfold ja
 simp
 have ep : Value.agg #[.int .i64 4, .int .u64 5, .int .u64 3, .int .u64 1, .int .u64 0, .int .u64 0, .int .i64 0, .bool false, .slice none 0 0, .slice none 0 0, .slice none 0 0] = pkA (pk0 4 5 ⟨3, 1⟩ gq 0 false) := rfl
 rw [ep]
 have hae : pk (pk0 4 5 ⟨3, 1⟩ gq 0 false) [] [] [] = true := by decide
 have hrng : vr (pk0 4 5 ⟨3, 1⟩ gq 0 false) := ⟨⟨by decide, by decide⟩, ⟨⟨by decide, by decide⟩, by decide, by decide⟩, ⟨by decide, by decide⟩, by decide, by decide⟩
 have hM : acd [] (decide ((pk0 4 5 ⟨3, 1⟩ gq 0 false).fu = 6)) (pk0 4 5 ⟨3, 1⟩ gq 0 false).tr (pk0 4 5 ⟨3, 1⟩ gq 0 false).b (pk0 4 5 ⟨3, 1⟩ gq 0 false).v = [(5, ⟨⟨3, 1⟩, gq, 0⟩)] := by rfl
 have hP : tx [] (pk0 4 5 ⟨3, 1⟩ gq 0 false) [] [] [] = pk0 5 5 ⟨3, 1⟩ gq 0 true := by rfl
 have hu : D.gx = 0 := ajv I.vm hp0
 refine axq (B := 1) (St.dn2 S4) (beg _ _ _ _ _ _ _) hrng I (by rw [hp0] at hfl ⊢; simp [gu] at hfl ⊢; omega) (by omega) hae (by rw [hp0]; simp) harm (by rw [hu, hroom]; simp) fun w5 s2 f2 F2 L2 D2 I2 hm2 hb2 ha2 hr2 S5 => ?_
 rw [hM] at I2 S5
 rw [hP]
 simp
 have S6 := tu S5
 generalize w5.heap.size = tb at *
 generalize w5.alloc _ = w6 at *
 unfold pkA pkC
 simp
 refine yj (q := pk0 5 5 ⟨3, 1⟩ gq 0 true) S6 rfl (oo _ _ _ _ _ _) fun w7 S7 => ?_
 refine azw (kl := []) S7.up2 (fun _ _ _ => Sl.nil) fun w8 S8 => ?_
 obtain ⟨c1, c2, c3, c4⟩ := bew I2.vm.vir []
 refine afn (m1 := [(5, ⟨⟨3, 1⟩, gq, 0⟩)]) (m2 := [(5, ⟨⟨3, 1⟩, gq, 0⟩)]) S8 c1 c2 (by omega) I2.ge (alc I2.set) fun w9 q2 m' s3 f3 L3 D3 hm3 I3 _ _ _ _ _ _ S9 => ?_
 have hm' : m' = [(5, ⟨⟨3, 1⟩, gq, 0⟩)] := by rcases hm3 with h | h <;> exact h
 subst hm'
 have Z := S9.ir ((Fr.refl _ w9).dr 1)
 obtain ⟨k0, _, _, _, _, k7, _⟩ := ij Z.up2
 simp only [ly] at k0 k7
 have b9 := bl Z.up4
 simp [k0, k7, b9, pk0, jh]
 refine avr Z 5 fun w10 Z1 => ?_
 have e5 : lq [(5, (⟨⟨3, 1⟩, gq, 0⟩ : Rg))] 5 = ⟨⟨3, 1⟩, gq, 0⟩ := rfl
 rw [e5]
 have b10 := bl Z1.up4
 simp [b10, ju]
 have eb : Value.agg #[.int .u64 3, .int .u64 1] = ja ⟨3, 1⟩ := rfl
 simp only [eb, pn]
 simp
 refine afj Z1 I3.asc (by simp) fun w11 tv Z2 => ?_
 have hl5 := fun w' K => (Z2.rd).ip (P := P) (t := T.f) (ty := T.b) (w := w') (by kernel_rfl) [false] (K := K)
 simp at hl5
 simp [hl5]
 exact h w11 Z2.fr
set_option maxRecDepth 100000
open Go.Eng Go.Proofs.YtfnhoaemapheoaaGreat.Sint
structure bho where
 fu : Int
 n : Int
 p : Pk
 ls : List Spn
 lm : List Mem
 lu : List Int
 kv : Value
 jn : List Int
section
variable {w0 w w' : World} {R : List Asn} {v : Value} {l : List bho}
end
set_option maxRecDepth 100000
open Go.Eng Go.Proofs.YtfnhoaemapheoaaGreat.Sint
theorem beb {p : Pk} {ls : List Spn} {lm : List Mem} {lu : List Int} (h : pk p ls lm lu = true) (hr : vr p) : (jk [] (decide (p.fu = 6)) p.tr p.b p.v).1 ≠ lq [] p.tr := by
 obtain ⟨hk, ht, hb⟩ := aic h hr
 have hz : lq [] p.tr = rg0 := rfl
 have hs : rg0.ku p.b = true := by
  unfold Rg.ku
  have := bgp hr.b
  have e : rg0.p = gq := rfl
  rw [e, this]
  simpa using hb
 have hne : p.b ≠ gq := fun e => by rw [e] at hb; exact absurd hb (by decide)
 rw [hz]
 intro he
 have hp := congrArg Rg.p he
 unfold jk at hp
 rw [hz] at hp
 by_cases h6 : p.fu = 6
 ·have htv : kb p.v = true := by
   unfold pk rj kj at h
   simp [h6] at h
   exact h.2.2
  rw [decide_eq_true h6, if_pos rfl] at hp
  unfold Rg.acc at hp
  rw [if_pos ⟨hs, htv, fun hh => hne hh.1.symm⟩] at hp
  exact hne hp
 ·rw [decide_eq_false h6, if_neg (by simp)] at hp
  unfold Rg.qh at hp
  rw [if_pos hs] at hp
  exact hne hp
theorem axu {w : World} {n : Nat} {c : Array Value} (h : TV P w n T.a c.toList) : ∃ p ls lm lu, Value.agg c = pkA p ∧ yt w p ls lm lu ∧ vr p ∧ LsR ls lm lu := by
 obtain ⟨p, ls, lm, lu, e, h1, h2, h3⟩ := bgh h
 refine ⟨p, ls, lm, lu, ?_, h1, h2, h3⟩
 unfold pkA
 congr 1
 exact Array.toList_inj.1 (by rw [e])
theorem ajo {W : World} {n0 : Nat} {c0 : Array Value} (h0 : TV P W n0 T.a c0.toList) {n1 : Nat} {c1 : Array Value} (h1 : TV P W n1 T.a c1.toList) {a2 : Int} (h2 : (Lit.int .i64 a2).wf = true) {K : KV}
  (h : ∀ w', Fr (fun _ => False) W w' → K (.bool true) w') : iz P F.cn [.agg c0, .agg c1, .int .i64 a2] W K := by
 obtain ⟨p, ls, lm, lu, ep, hp0, hpr, hpl⟩ := axu h0
 obtain ⟨q, ms, mm, mu, eq', hq0, hqr, hql⟩ := axu h1
 rw [ep, eq']
 apply M.x.calls
 unfold M.x
 refine St.pg (St.jc W) fun pb w1 S1 => ?_
 refine St.pg S1 fun qb w2 S2 => ?_
 have S2' : St W w2 (fy qb (pkC q).toArray T.a :: fy pb (pkC p).toArray T.a :: []) := S2
 have pl := fun K => px S2'.swap K
 simp [pl]
 have ex : ∀ {w'}, Fr (fun _ => False) W w' → (fj P F.az [] w' fun v w => K v w) := fun f => bdt fun w'' f'' => h w'' (f.trans f'')
 refine amp (hp0.fr S2'.fr) fun b1 w3 hb1 f3 => ?_
 cases b1 with
 | false =>
  simp
  exact ex (S2'.ir f3).fr
 | true =>
 have S3 := S2'.ir f3
 have ql := fun K => px S3 K
 simp [ql]
 refine amp (hq0.fr S3.fr) fun b2 w4 hb2 f4 => ?_
 have S4 := S3.ir f4
 cases b2 with
 | false =>
  simp
  exact ex S4.fr
 | true =>
 have hP : nu W p ls lm lu := hp0.ank (hb1 rfl)
 have hQ : nu W q ms mm mu := hq0.ank (hb2 rfl)
 by_cases n1 : a2 < 0
 ·simp [n1]
  exact ex S4.fr
 by_cases n2 : 40 < a2
 ·simp [n1, n2]
  exact ex S4.fr
 simp [n1, n2]
 unfold M.x.j0
 refine atk S4 1048576 (fun h => by omega) fun _ _ w5 hb S5 => ?_
 simp
 refine afn (m1 := []) (m2 := []) S5 (aia 1048576 256).vir rfl (by omega) (ajm 1048576 256).ge (alc (ajm 1048576 256).set) fun w6 rp m' s f L D hm I hmost hfl harm hroom hx _ S6 => ?_
 have hm' : m' = [] := by rcases hm with h | h <;> exact h
 subst hm'
 have hp1 : L.fq = [] := hx trivial
 simp only [jh]
 simp
 unfold M.x.j1
 refine bfu S6.swap (by omega) fun w7 S7 => ?_
 have hu : D.gx = 0 := ajv I.vm hp1
 have dfs : decide (0 ≤ a2) = true := by simp; omega
 rw [dfs] at S7
 simp only at hroom
 have S7' : St W w7 (me rp hb [] L false :: gj hb { D with iq := true, left := a2 } :: fy qb (pkC q).toArray T.a :: fy pb (pkC p).toArray T.a :: []) := S7.swap
 have I7 : RI s f L (gu L.fq).length { D with iq := true, left := a2 } [] := by
  obtain ⟨⟨⟨v1, v2, v3, v4, v5, v6, v7, v8⟩, g2, g3⟩, r1, r2, r3⟩ := I
  exact ⟨⟨⟨v1, v2, v3, v4, v5, v6, v7, v8⟩, g2, g3⟩, r1, r2, r3⟩
 have hf0 : f = 0 := (I.vm.vir.nil hp1).2
 have hlen0 : (gu L.fq).length = 0 := by rw [hp1]; rfl
 refine axg S7' .nil (by simp) fun w8 wv S8 => ?_
 have pl8 := fun K => px S8.up4 K
 simp [pl8]
 have S8' : St W w8 (me rp hb [] L false :: gj hb { D with iq := true, left := a2 } :: te T.v 6 wd wv [] :: fy qb (pkC q).toArray T.a :: fy pb (pkC p).toArray T.a :: []) := St.dn2 S8
 have shp : ∀ r, (na L { D with iq := true, left := a2 } p.tr r).2 = 10 ∧ (na L { D with iq := true, left := a2 } p.tr r).1.1 = L := fun r => by
  obtain ⟨gk, qs⟩ := L
  simp only at hp1
  subst hp1
  have e10 := axw (gk := gk) (D := { D with iq := true, left := a2 }) (b := mi p.tr r) I.vm.up rfl (by show a2 < 41; omega) (yq _ _) (by
   show (D.gx : Int) + 1000 ≤ D.ic
   rw [hu, hroom]; simp)
  have hap := ave (b := mi p.tr r) I7.vm (by rw [hf0, hlen0]; omega)
  unfold na
  rw [aqc (by rw [e10]; simp)]
  refine ⟨e10, ?_⟩
  generalize Lg.append ⟨gk, []⟩ { D with iq := true, left := a2 } (mi p.tr r) = z at *
  cases hap with
  | ahb => simp at e10
  | tq => simp at e10
  | gr => rfl
  | ok => simp at e10
 refine aln S8' (fun w' R' S' => hP.fr S'.fr) hpr (fun _ _ => ⟨_, I7⟩) (by rw [hf0, hlen0]; omega) (fun hae w9 S9 => ?_) (fun _ hd => by have := I7.vm.up; rw [this] at hd; cases hd) (fun hae _ _ he => absurd he (beb hae hpr)) (fun hae _ _ _ _ w9 S9 => ?_) (fun _ _ _ _ hz => by rw [(shp _).1] at hz; cases hz)
 ·simp
  have S10 := tu S9
  generalize w9.heap.size = tb at *
  generalize w9.alloc _ = w10 at *
  unfold pkA pkC
  simp
  refine yj (q := pkZ) S10 rfl (oo _ _ _ _ _ _) fun w11 S11 => ?_
  have pl11 := fun K => px (up5 S11) K
  simp [pl11]
  have N1 : St W w11 (yk (.slice none 0 0) [] :: _) := S11.add (Fr.refl _ _) (B := fun _ => False) ⟨Sl.nil, fun b hb => by simp [Value.ownBlock] at hb⟩ fun b hb => hb.elim
  refine aet N1 (by simp) hP hpr hpl fun w12 v12 S12 => ?_
  rw [hae]
  simp
  have S13 := tu S12
  generalize w12.heap.size = tb2 at *
  generalize w12.alloc _ = w13 at *
  have eZ : tx [] p ls lm lu = pkZ := by unfold tx; rw [hae]; simp
  rw [eZ, adh]
  refine yj (q := pkZ) S13 rfl (oo _ _ _ _ _ _) fun w14 S14 => ?_
  exact ex S14.fr
 ·obtain ⟨e10, eL⟩ := shp (jk [] (decide (p.fu = 6)) p.tr p.b p.v).1
  rw [e10, eL] at S9
  rw [e10]
  generalize (na L { D with iq := true, left := a2 } p.tr (jk [] (decide (p.fu = 6)) p.tr p.b p.v).1).1.2 = D9 at *
  have hd10 : decide ((10 : Int) = 10) = true := by decide
  rw [hd10] at S9
  simp
  have S10 := tu S9
  generalize w9.heap.size = tb at *
  generalize w9.alloc _ = w10 at *
  have eZ : pkA pkZ = .agg #[.int .i64 0, .int .u64 0, .int .u64 0, .int .u64 0, .int .u64 0, .int .u64 0, .int .i64 0, .bool false, .slice none 0 0, .slice none 0 0, .slice none 0 0] := rfl
  rw [eZ]
  simp
  refine yj (q := pkZ) S10 rfl (oo _ _ _ _ _ _) fun w11 S11 => ?_
  have pl11 := fun K => px (up5 S11) K
  simp [pl11]
  have N1 : St W w11 (yk (.slice none 0 0) [] :: _) := S11.add (Fr.refl _ _) (B := fun _ => False) ⟨Sl.nil, fun b hb => by simp [Value.ownBlock] at hb⟩ fun b hb => hb.elim
  refine aet N1 (by simp) hP hpr hpl fun w12 v12 S12 => ?_
  rw [hae]
  simp
  have S13 := tu S12
  generalize w12.heap.size = tb2 at *
  generalize w12.alloc _ = w13 at *
  have ans1 : ∀ u ∈ pkC (tx [] p ls lm lu), jq u = true := by
   unfold tx aeg
   split <;> exact oo _ _ _ _ _ _
  rw [adh]
  refine yj (q := tx [] p ls lm lu) S13 rfl ans1 fun w14 S14 => ?_
  unfold M.x.j2
  -- [tb2, row, tb, rep, disk, was, qb, pb]
  have T1 : St W w14 (fy tb (pkC pkZ).toArray T.a :: me rp hb [] L true :: gj hb D9 :: te T.v 6 wd wv [] :: fy qb (pkC q).toArray T.a :: fy pb (pkC p).toArray T.a :: []) := S14.drop.drop
  have T2 := T1.drop
  have ql2 := fun K => px T2.up3 K
  simp [ql2]
  refine aln (s := s) (f := f) T2 (fun w' R' S' => hQ.fr S'.fr) hqr (fun hd => by cases hd) (by rw [hf0, hlen0]; omega) (fun haq w15 T3 => ?_) (fun haq _ w15 T3 => ?_) (fun _ hd => by cases hd) (fun _ hd => by cases hd) (fun _ hd => by cases hd)
  all_goals
   simp
   have T4 := tu T3
   generalize w15.heap.size = tb3 at *
   generalize w15.alloc _ = w16 at *
   rw [eZ]
   simp
   refine yj (q := pkZ) T4 rfl (oo _ _ _ _ _ _) fun w17 T5 => ?_
   have ql5 := fun K => px T5.up4 K
   simp [ql5]
   have N2 : St W w17 (yk (.slice none 0 0) [] :: _) := T5.add (Fr.refl _ _) (B := fun _ => False) ⟨Sl.nil, fun b hb => by simp [Value.ownBlock] at hb⟩ fun b hb => hb.elim
   refine aet N2 (by simp) hQ hqr hql fun w18 v18 T6 => ?_
   rw [haq]
   simp
   have T7 := tu T6
   generalize w18.heap.size = tb4 at *
   generalize w18.alloc _ = w19 at *
   have ans2 : ∀ u ∈ pkC (tx [] q ms mm mu), jq u = true := by
    unfold tx aeg
    split <;> exact oo _ _ _ _ _ _
   rw [adh]
   refine yj (q := tx [] q ms mm mu) T7 rfl ans2 fun w20 T8 => ?_
   have T9 : St W w20 (me rp hb [] L true :: gj hb D9 :: te T.v 6 wd wv [] :: fy qb (pkC q).toArray T.a :: fy pb (pkC p).toArray T.a :: []) := T8.drop.drop.drop
   unfold M.x.j3
   simp
   refine axg T9 .nil (by simp) fun w21 xv T10 => ?_
   refine awj (T10.row xa) (T10.up3.row xa) (by simp) fun w22 f22 => ?_
   have T11 := T10.ir f22
   simp
   refine bdo (s := s) (f := f) (St.dn2 T11) (fun hd => by cases hd) (by rw [hf0, hlen0]; simp) (by simp) (fun _ w23 T12 => ?_) (fun hd => by cases hd) (fun hd => by cases hd)
   simp
   exact ex T12.fr
end Go.Proofs.YtfnhoaemapheoaaGreat
