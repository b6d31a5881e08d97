/-
  Packets: the document's only, what is right of an ask. No condition.
-/
import Derived.Test.YtfnhoaemapheoaaGreatZSrtUD
import Derived.Test.YtfnhoaemapheoaaGreatZSpn0
import Derived.Test.YtfnhoaemapheoaaGreatZKeyD
import Derived.Test.YtfnhoaemapheoaaGreatZEngSl
set_option maxRecDepth 100000
namespace Go.Proofs.YtfnhoaemapheoaaGreat
open Go.Eng
def qr (p : Pk) : Pk := ⟨p.fu, if p.fu = 3 then 0 else p.tr, if p.fu = 4 ∨ p.fu = 5 ∨ p.fu = 6 ∨ p.fu = 7 ∨ p.fu = 9 then p.b else gy, if p.fu = 5 ∨ p.fu = 7 then p.ic else gy, if p.fu = 5 ∨ p.fu = 6 ∨ p.fu = 8 then p.v else 0, if p.fu = 5 ∨ p.fu = 7 then p.ok else false,
 if p.fu = 1 ∨ p.fu = 2 ∨ p.fu = 9 then p.sv else .slice none 0 0, if p.fu = 3 then p.mv else .slice none 0 0, if p.fu = 10 then p.iv else .slice none 0 0⟩
def ot (p : Pk) (l : List Spn) : List Spn := if p.fu = 1 ∨ p.fu = 2 ∨ p.fu = 9 then l else []
def oz (p : Pk) (l : List Mem) : List Mem := if p.fu = 3 then l else []
def ou (p : Pk) (l : List Int) : List Int := if p.fu = 10 then l else []
theorem xj (b : Nat) (q : Pk) (w : World) (K : KV) : stT P T.a (.pointer (some ⟨b, 0, none⟩)) (pkA q) w K = stN P b 0 (pkC q) w K := by simp [pkA, pkC]
set_option maxRecDepth 100000
def bgq (W : World) (l1 l2 : List Spn) : KL := fun x w1 => ∃ (u0 u1 : Value) (i : Nat), x = [u0, u1, .int .i64 (i : Nat)] ∧ i ≤ l1.length ∧ (∀ j (h1 : j < l1.length) (h2 : j < l2.length), j < i → yd l1[j] l2[j] = true) ∧ Fr (fun _ => False) W w1
def bgm (W : World) (l1 l2 : List Int) : KL := fun x w1 => ∃ (u0 u1 : Value) (i : Nat), x = [u0, u1, .int .i64 (i : Nat)] ∧ i ≤ l1.length ∧ (∀ j (h1 : j < l1.length) (h2 : j < l2.length), j < i → l1[j] = l2[j]) ∧ Fr (fun _ => False) W w1
theorem aws {w : World} {v1 v2 : Value} {l1 l2 : List Spn} (s1 : SlS w v1 l1) (s2 : SlS w v2 l2) (hlen : l1.length ≤ 1000000) {K : KV} (h : ∀ w', Fr (fun _ => False) w w' → K (.bool (vk l1 l2)) w') : ey P F.ap [v1, v2] w K := by
 rw [M.w.fcall]
 apply M.w.calls
 unfold M.w
 simp only [fh]
 rw [s1.ii (by kernel_rfl), s2.ii (by kernel_rfl)]
 by_cases hne : l1.length = l2.length
 ·simp [hne]
  unfold M.w.j0
  simp only [fh]
  rw [s1.ii (by kernel_rfl)]
  refine ⟨bgq w l1 l2, fun x _ => l1.length - ms x 2, ⟨_, _, 0, rfl, Nat.zero_le _, fun j _ _ h => by omega, Fr.refl _ _⟩, ?_⟩
  rintro x w1 ⟨u0, u1, i, rfl, hi, hpre, f1⟩
  by_cases hil : i < l1.length
  ·have hili : (i : Int) < (l1.length : Int) := by omega
   obtain ⟨b1, o1, cap1, hv1, _, _, e1⟩ := (s1.fr f1 fun _ _ _ h => h : SlS w1 v1 l1).at hil
   obtain ⟨b2, o2, cap2, hv2, _, _, e2⟩ := (s2.fr f1 fun _ _ _ h => h : SlS w1 v2 l2).at (show i < l2.length by omega)
   have hl2i : i < l2.length := by omega
   have q1 : ∀ w' K, iaT P T.ad v1 (.int .i64 (i : Nat)) w' K = K (.pointer (some ⟨b1, o1 + i * 8, none⟩)) w' := fun w' K => by rw [hv1]; simp [hil]
   have q2 : ∀ w' K, iaT P T.ad v2 (.int .i64 (i : Nat)) w' K = K (.pointer (some ⟨b2, o2 + i * 8, none⟩)) w' := fun w' K => by rw [hv2]; simp [hl2i]
   have g1 : ∀ K, ldN P 8 b1 (o1 + i * 8) (dr w1 1) K = K (xd l1[i]) (dr w1 1) := fun K => ldS (fun k v hk => by rw [qe]; exact e1 k v hk) K
   have g2 : ∀ K, ldN P 8 b2 (o2 + i * 8) (dr w1 1) K = K (xd l2[i]) (dr w1 1) := fun K => ldS (fun k v hk => by rw [qe]; exact e2 k v hk) K
   have hw : IntKind.i64.wrap ((i : Int) + 1) = ((i + 1 : Nat) : Int) := by rw [fj (by omega) (by omega)]; omega
   simp [hili]
   unfold M.w.j3
   simp [q1, q2, g1, g2, bbo]
   cases hs : yd l1[i] l2[i] with
   | true =>
    simp
    rw [hw]
    refine ⟨⟨_, _, i + 1, rfl, hil, fun j a1 a2 hj => ?_, f1.dr 1⟩, by simp [ms, gv]; omega⟩
    by_cases hji : j = i
    ·subst hji; exact hs
    ·exact hpre j a1 a2 (by omega)
   | false =>
    simp
    have := h _ (f1.dr 1)
    rw [awg hil hl2i hs] at this
    exact this
  ·have hili : ¬ (i : Int) < (l1.length : Int) := by omega
   simp [hili]
   have := h w1 f1
   rw [asl hne fun j a1 a2 => hpre j a1 a2 (by omega)] at this
   exact this
 ·have hni : ¬ (l1.length : Int) = (l2.length : Int) := by omega
  simp [hni]
  have := h w (Fr.refl _ _)
  have hz : vk l1 l2 = false := by unfold vk; simp [hne]
  rw [hz] at this
  exact this
theorem awb {w : World} {v1 v2 : Value} {l1 l2 : List Int} (s1 : SlU w v1 l1) (s2 : SlU w v2 l2) (hlen : l1.length ≤ 1000000) {K : KV} (h : ∀ w', Fr (fun _ => False) w w' → K (.bool (decide (l1 = l2))) w') : ey P F.ay [v1, v2] w K := by
 rw [M.af.fcall]
 apply M.af.calls
 unfold M.af
 simp only [fh]
 rw [s1.ii (by kernel_rfl), s2.ii (by kernel_rfl)]
 by_cases hne : l1.length = l2.length
 ·simp [hne]
  unfold M.af.j0
  simp only [fh]
  rw [s1.ii (by kernel_rfl)]
  refine ⟨bgm w l1 l2, fun x _ => l1.length - ms x 2, ⟨_, _, 0, rfl, Nat.zero_le _, fun j _ _ h => by omega, Fr.refl _ _⟩, ?_⟩
  rintro x w1 ⟨u0, u1, i, rfl, hi, hpre, f1⟩
  by_cases hil : i < l1.length
  ·have hili : (i : Int) < (l1.length : Int) := by omega
   have hl2i : i < l2.length := by omega
   obtain ⟨b1, o1, cap1, hv1, _, e1⟩ := awd (s1.fr f1 fun _ _ _ h => h : SlU w1 v1 l1) hil
   obtain ⟨b2, o2, cap2, hv2, _, e2⟩ := awd (s2.fr f1 fun _ _ _ h => h : SlU w1 v2 l2) hl2i
   have q1 : ∀ w' K, iaT P T.h v1 (.int .i64 (i : Nat)) w' K = K (.pointer (some ⟨b1, o1 + i, none⟩)) w' := fun w' K => by rw [hv1]; simp [hil]
   have q2 : ∀ w' K, iaT P T.h v2 (.int .i64 (i : Nat)) w' K = K (.pointer (some ⟨b2, o2 + i, none⟩)) w' := fun w' K => by rw [hv2]; simp [hl2i]
   have hw : IntKind.i64.wrap ((i : Int) + 1) = ((i + 1 : Nat) : Int) := by rw [fj (by omega) (by omega)]; omega
   simp [hili]
   unfold M.af.j3
   simp [q1, q2, e1, e2]
   by_cases hs : l1[i] = l2[i]
   ·simp [hs]
    rw [hw]
    refine ⟨⟨_, _, i + 1, rfl, hil, fun j a1 a2 hj => ?_, f1.dr 1⟩, by simp [ms, gv]; omega⟩
    by_cases hji : j = i
    ·subst hji; exact hs
    ·exact hpre j a1 a2 (by omega)
   ·simp [hs]
    have := h _ (f1.dr 1)
    rw [decide_eq_false fun he => hs (by simp [he])] at this
    exact this
  ·have hili : ¬ (i : Int) < (l1.length : Int) := by omega
   simp [hili]
   have := h w1 f1
   rw [decide_eq_true (bex hne fun j a1 a2 => hpre j a1 a2 (by omega))] at this
   exact this
 ·have hni : ¬ (l1.length : Int) = (l2.length : Int) := by omega
  simp [hni]
  have := h w (Fr.refl _ _)
  rw [decide_eq_false fun he => hne (congrArg List.length he)] at this
  exact this
theorem azs {w : World} {p q : Pk} {ls ls' : List Spn} {lm lm' : List Mem} {lu lu' : List Int} (hp : sk w p ls lm lu) (hq : sk w q ls' lm' lu') {K : KV}
  (h : ∀ w', Fr (fun _ => False) w w' → K (.bool (yh p q ls ls' lm lm' lu lu')) w') : ey P F.dk [pkA p, pkA q] w K := by
 rw [M.dl.fcall]
 apply M.dl.calls
 unfold M.dl
 rw [amw hp, amw (hq.fr ((Fr.refl _ w).alloc _))]
 have S1 : St w (w.alloc (.cells (pkC p).toArray T.a)) (fq w.heap.size (pkC p).toArray T.a :: []) := (St.jy w).add ((Fr.refl _ w).alloc _) (B := fun x => x = w.heap.size) ⟨by rw [fx, if_pos rfl], rfl⟩ fun x hx => by subst hx; rw [ig]; omega
 generalize w.alloc (.cells (pkC p).toArray T.a) = w1 at *
 have S2 : St w (w1.alloc (.cells (pkC q).toArray T.a)) (fq w1.heap.size (pkC q).toArray T.a :: _) := S1.add ((Fr.refl _ w1).alloc _) (B := fun x => x = w1.heap.size) ⟨by rw [fx, if_pos rfl], rfl⟩ fun x hx => by subst hx; rw [ig]; omega
 generalize w1.alloc (.cells (pkC q).toArray T.a) = w2 at *
 generalize w.heap.size = pb at *
 generalize w1.heap.size = qb at *
 obtain ⟨q0, q1, q2, q4, q6, q7, q8, q9, q10, _⟩ := km S2
 obtain ⟨p0, p1, p2, p4, p6, p7, p8, p9, p10, _⟩ := km S2.swap
 have hbo : air P T.au = true := by kernel_rfl
 have no : ∀ bb : Bool, bb = false → (jt p q = false) → K (.bool bb) w2 := fun bb hb hl => by
  subst hb
  have := h w2 S2.fr
  unfold yh at this
  rw [hl, Bool.and_false, Bool.and_false, Bool.and_false] at this
  exact this
 by_cases a0 : p.fu = q.fu
 case neg =>
  simp [p0, q0, a0]
  exact no false rfl (by simp [jt, a0])
 by_cases a1 : p.tr = q.tr
 case neg =>
  simp [p0, q0, a0, p1, q1, a1]
  exact no false rfl (by simp [jt, a1])
 by_cases a2 : p.b = q.b
 case neg =>
  simp [p0, q0, a0, p1, q1, a1, p2, q2, ux, a2]
  exact no false rfl (by simp [jt, a2])
 by_cases a3 : p.ic = q.ic
 case neg =>
  simp [p0, q0, a0, p1, q1, a1, p2, q2, ux, a2, p4, q4, a3]
  exact no false rfl (by simp [jt, a3])
 by_cases a4 : p.v = q.v
 case neg =>
  simp [p0, q0, a0, p1, q1, a1, p2, q2, ux, a2, p4, q4, a3, p6, q6, a4]
  exact no false rfl (by simp [jt, a4])
 by_cases a5 : p.ok = q.ok
 case neg =>
  have a5' : (p.ok == q.ok) = false := by simpa using a5
  simp [p0, q0, a0, p1, q1, a1, p2, q2, ux, a2, p4, q4, a3, p6, q6, a4, p7, q7, aoh hbo, a5']
  exact no false rfl (by simp [jt, a5])
 obtain ⟨⟨sa, sc, es⟩, ⟨ma, mc, em⟩, ua, uc, eu⟩ := hp.one
 obtain ⟨⟨sa', sc', es'⟩, ⟨ma', mc', em'⟩, ua', uc', eu'⟩ := hq.one
 simp [p0, q0, a0, p1, q1, a1, p2, q2, ux, a2, p4, q4, a3, p6, q6, a4, p7, q7, aoh hbo, a5, p8, q8]
 have hp2 := hp.fr S2.fr
 have hq2 := hq.fr S2.fr
 have fb : jt p q = true := by simp [jt, a0, a1, a2, a3, a4, a5]
 have fin := h
 unfold yh at fin
 rw [fb] at fin
 refine aws hp2.s hq2.s hp.ls fun w3 f3 => ?_
 have S3 := S2.iq f3
 obtain ⟨_, _, _, _, _, _, _, q9, _, _⟩ := km S3
 obtain ⟨_, _, _, _, _, _, _, p9, _, _⟩ := km S3.swap
 have hp3 := hp.fr S3.fr
 have hq3 := hq.fr S3.fr
 cases hb1 : vk ls ls' with
 | false =>
  simp
  have := fin w3 S3.fr
  rw [hb1] at this
  simpa using this
 | true =>
 rw [hb1] at fin
 simp [p9, q9]
 refine awi hp3.m hq3.m hp.lm fun w4 f4 => ?_
 have S4 := S3.iq f4
 obtain ⟨_, _, _, _, _, _, _, _, q10, _⟩ := km S4
 obtain ⟨_, _, _, _, _, _, _, _, p10, _⟩ := km S4.swap
 have hp4 := hp.fr S4.fr
 have hq4 := hq.fr S4.fr
 by_cases hm : lm = lm'
 case neg =>
  simp [hm]
  have := fin w4 S4.fr
  simpa [hm] using this
 simp [hm, p10, q10]
 refine awb hp4.u hq4.u hp.lu fun w5 f5 => ?_
 have := fin w5 (S4.iq f5).fr
 simpa [hm] using this
def avs (ok : Bool) (ic : Bal) (v : Int) : Bool := (decide (v = 0) || (mu v && !(decide (ic = gy)))) && (if ok = true then !(decide (v = 0)) || decide (ic = gy) else decide (v = 0) && !(decide (ic = gy)))
def tf (p : Pk) (ls : List Spn) (lm : List Mem) (lu : List Int) : Bool :=
 if p.fu = 1 ∨ p.fu = 2 then vh p.tr ls else if p.fu = 3 then aeq lm else if p.fu = 4 then decide (0 < p.b.n) else if p.fu = 5 then decide (0 < p.b.n) && avs p.ok p.ic p.v else if p.fu = 6 then decide (0 < p.b.n) && mu p.v else if p.fu = 7 then decide (0 < p.b.n) && (p.ok == decide (p.ic = gy)) else if p.fu = 8 then mu p.v else if p.fu = 9 then decide (0 < p.b.n) && vh p.tr ls else if p.fu = 10 then wz 0 lu && (decide (0 < lu.length) && decide (lu.length ≤ 16)) else false
def bbh (p : Pk) (ls : List Spn) (lm : List Mem) (lu : List Int) : Bool := yh p (qr p) ls (ot p ls) lm (oz p lm) lu (ou p lu)
def vd (p : Pk) (ls : List Spn) (lm : List Mem) (lu : List Int) : Bool := (bbh p ls lm lu && (decide (p.fu = 3) || decide (0 < p.tr))) && tf p ls lm lu
def ane (p : Pk) (ls : List Spn) (lm : List Mem) (lu : List Int) : Int := if vd p ls lm lu = true then 0 else 6
def oa (p : Pk) : Pk := if p.fu = 4 ∨ p.fu = 6 then ⟨if p.v = 0 then 4 else 6, p.tr, p.b, gy, p.v, false, ir, ir, ir⟩ else if p.fu = 5 ∨ p.fu = 7 then ⟨p.fu, p.tr, p.b, p.ic, p.v, p.ok, ir, ir, ir⟩ else qr p
theorem bao {p : Pk} {ls : List Spn} {lm : List Mem} {lu : List Int} (hr : vn p) (hk : 1 ≤ p.fu ∧ p.fu ≤ 10) : (qk p ls lm lu && yh p (oa p) ls (ot p ls) lm (oz p lm) lu (ou p lu)) = vd p ls lm lu := by
 have h1 := hr.tr.1
 have h2 := hr.b.1.1
 have core : (qk p ls lm lu && jt p (oa p)) = ((jt p (qr p) && (decide (p.fu = 3) || decide (0 < p.tr))) && tf p ls lm lu) := by
  obtain ⟨k, tr, b, ic, v, ok, sv, mv, iv⟩ := p
  simp only at hk h1 h2
  have hcase : k = 1 ∨ k = 2 ∨ k = 3 ∨ k = 4 ∨ k = 5 ∨ k = 6 ∨ k = 7 ∨ k = 8 ∨ k = 9 ∨ k = 10 := by omega
  rcases hcase with rfl | rfl | rfl | rfl | rfl | rfl | rfl | rfl | rfl | rfl
  ·simp [qk, tf, oa, qr, jt, aez]
   cases vh tr ls <;> by_cases ht : 0 < tr <;> by_cases hb : b = gy <;> by_cases hs : ic = gy <;> by_cases hv : v = 0 <;> cases ok <;> simp [ht, hb, hs, hv]
  ·simp [qk, tf, oa, qr, jt, aez]
   cases vh tr ls <;> by_cases ht : 0 < tr <;> by_cases hb : b = gy <;> by_cases hs : ic = gy <;> by_cases hv : v = 0 <;> cases ok <;> simp [ht, hb, hs, hv]
  ·simp [qk, tf, oa, qr, jt]
   cases aeq lm <;> by_cases ht : tr = 0 <;> by_cases hb : b = gy <;> by_cases hs : ic = gy <;> by_cases hv : v = 0 <;> cases ok <;> simp [ht, hb, hs, hv]
  ·simp [qk, tf, oa, qr, jt, aoy]
   by_cases ht : 0 < tr <;> by_cases hb : 0 < b.n <;> by_cases hs : ic = gy <;> by_cases hv : v = 0 <;> cases ok <;> simp [ht, hb, hs, hv]
  ·simp [qk, tf, oa, qr, jt, afd, avs]
   by_cases ht : tr = 0 <;> by_cases hb : b.n = 0 <;> by_cases hs : ic = gy <;> by_cases hv : v = 0 <;> cases ok <;> cases htl : mu v <;> simp [ht, hb, hs, hv, htl] <;> first | omega | (subst hv; simp [mu] at htl) | skip
  ·simp [qk, tf, oa, qr, jt, aoy]
   by_cases ht : 0 < tr <;> by_cases hb : 0 < b.n <;> by_cases hs : ic = gy <;> by_cases hv : v = 0 <;> cases ok <;> simp [ht, hb, hs, hv] <;> first | rfl | (simp [mu]; done) | skip
  ·simp [qk, tf, oa, qr, jt, afd]
   by_cases ht : tr = 0 <;> by_cases hb : b.n = 0 <;> by_cases hs : ic = gy <;> by_cases hv : v = 0 <;> cases ok <;> simp [ht, hb, hs, hv] <;> first | omega | skip
  ·simp [qk, tf, oa, qr, jt, amu]
   by_cases ht : 0 < tr <;> by_cases hb : b = gy <;> by_cases hs : ic = gy <;> cases ok <;> simp [ht, hb, hs]
  ·simp [qk, tf, oa, qr, jt, agq]
   cases vh tr ls <;> by_cases ht : 0 < tr <;> by_cases hb : 0 < b.n <;> by_cases hs : ic = gy <;> by_cases hv : v = 0 <;> cases ok <;> simp [ht, hb, hs, hv]
  ·simp [qk, tf, oa, qr, jt, ajk]
   cases wz 0 lu <;> by_cases ht : 0 < tr <;> by_cases hb : b = gy <;> by_cases hs : ic = gy <;> by_cases hv : v = 0 <;> cases ok <;> simp [ht, hb, hs, hv]
 unfold vd bbh yh
 generalize decide (lm = oz p lm) = A
 generalize decide (lu = ou p lu) = B
 generalize vk ls (ot p ls) = C
 cases A <;> cases B <;> cases C <;> simp <;> simpa using core
theorem tp {p q q' : Pk} (h1 : q.fu = q'.fu) (h2 : q.tr = q'.tr) (h3 : q.b = q'.b) (h4 : q.ic = q'.ic) (h5 : q.v = q'.v) (h6 : q.ok = q'.ok) : jt p q = jt p q' := by
 unfold jt; rw [h1, h2, h3, h4, h5, h6]
theorem awu {w : World} {p : Pk} {ls : List Spn} {lm : List Mem} {lu : List Int} {t : Value} (ht : ThR w p ls lm lu t) (hk : 1 ≤ p.fu ∧ p.fu ≤ 10) (l1 : ls.length ≤ 1000000) (l2 : lm.length ≤ 1000000) (l3 : lu.length ≤ 1000000) {K : KV}
  (h : ∀ w' q, sk w' q (ot p ls) (oz p lm) (ou p lu) → (∀ x, jt x q = jt x (oa p)) → Fr (fun _ => False) w w' → K (pkA q) w') : ey P F.ac [t] w K := by
 have e0 : ([] : List Spn).length ≤ 1000000 := by simp
 have e1 : ([] : List Mem).length ≤ 1000000 := by simp
 have e2 : ([] : List Int).length ≤ 1000000 := by simp
 cases ht with
 | qt v q hs =>
  have hS : ot p ls = ls := by unfold ot; rw [if_pos (by omega)]
  have hM : oz p lm = [] := by unfold oz; rw [if_neg (by omega)]
  have hU : ou p lu = [] := by unfold ou; rw [if_neg (by omega)]
  rw [hS, hM, hU] at h
  refine ajz hs l1 fun w' v' s f => h w' _ ⟨s, Sl.nil, Sl.nil, l1, e1, e2⟩ (fun x => tp ?_ ?_ ?_ ?_ ?_ ?_) f
  all_goals rcases q with q | q <;> simp [oa, qr, q]
 | afn v q hs =>
  have hS : ot p ls = [] := by unfold ot; rw [if_neg (by omega)]
  have hM : oz p lm = lm := by unfold oz; rw [if_pos (by omega)]
  have hU : ou p lu = [] := by unfold ou; rw [if_neg (by omega)]
  rw [hS, hM, hU] at h
  refine atl hs l2 fun w' v' s f => h w' ⟨3, 0, gy, gy, 0, false, ir, v', ir⟩ ⟨Sl.nil, s, Sl.nil, e0, l2, e2⟩ (fun x => tp ?_ ?_ ?_ ?_ ?_ ?_) f
  all_goals simp [oa, qr, q]
 | ask q =>
  have hS : ot p ls = [] := by unfold ot; rw [if_neg (by omega)]
  have hM : oz p lm = [] := by unfold oz; rw [if_neg (by omega)]
  have hU : ou p lu = [] := by unfold ou; rw [if_neg (by omega)]
  rw [hS, hM, hU] at h
  refine aoo fun w' f => h w' _ ⟨Sl.nil, Sl.nil, Sl.nil, e0, e1, e2⟩ (fun x => tp ?_ ?_ ?_ ?_ ?_ ?_) f
  all_goals rcases q with q | q <;> simp [oa, axx, q]
 | xc q =>
  have hS : ot p ls = [] := by unfold ot; rw [if_neg (by omega)]
  have hM : oz p lm = [] := by unfold oz; rw [if_neg (by omega)]
  have hU : ou p lu = [] := by unfold ou; rw [if_neg (by omega)]
  rw [hS, hM, hU] at h
  refine ake fun w' f => h w' _ ⟨Sl.nil, Sl.nil, Sl.nil, e0, e1, e2⟩ (fun x => tp ?_ ?_ ?_ ?_ ?_ ?_) f
  all_goals rcases q with q | q <;> simp [oa, q]
 | qa q =>
  have hS : ot p ls = [] := by unfold ot; rw [if_neg (by omega)]
  have hM : oz p lm = [] := by unfold oz; rw [if_neg (by omega)]
  have hU : ou p lu = [] := by unfold ou; rw [if_neg (by omega)]
  rw [hS, hM, hU] at h
  refine ami fun w' f => h w' _ ⟨Sl.nil, Sl.nil, Sl.nil, e0, e1, e2⟩ (fun x => tp ?_ ?_ ?_ ?_ ?_ ?_) f
  all_goals simp [oa, qr, q]
 | uh v q hs =>
  have hS : ot p ls = ls := by unfold ot; rw [if_pos (by omega)]
  have hM : oz p lm = [] := by unfold oz; rw [if_neg (by omega)]
  have hU : ou p lu = [] := by unfold ou; rw [if_neg (by omega)]
  rw [hS, hM, hU] at h
  refine ajo hs l1 fun w' v' s f => h w' _ ⟨s, Sl.nil, Sl.nil, l1, e1, e2⟩ (fun x => tp ?_ ?_ ?_ ?_ ?_ ?_) f
  all_goals simp [oa, qr, q]
 | xn v q hs =>
  have hS : ot p ls = [] := by unfold ot; rw [if_neg (by omega)]
  have hM : oz p lm = [] := by unfold oz; rw [if_neg (by omega)]
  have hU : ou p lu = lu := by unfold ou; rw [if_pos (by omega)]
  rw [hS, hM, hU] at h
  refine akv hs l3 fun w' v' s f => h w' _ ⟨Sl.nil, Sl.nil, s, e0, e1, l3⟩ (fun x => tp ?_ ?_ ?_ ?_ ?_ ?_) f
  all_goals simp [oa, qr, q]
 | none q => exact absurd hk q
theorem axi {p : Pk} {ls : List Spn} {lm : List Mem} {lu : List Int} (h : ¬ (1 ≤ p.fu ∧ p.fu ≤ 10)) : vd p ls lm lu = false := by
 unfold vd tf
 rw [if_neg (by omega), if_neg (by omega), if_neg (by omega), if_neg (by omega), if_neg (by omega), if_neg (by omega), if_neg (by omega), if_neg (by omega), if_neg (by omega), Bool.and_false]
theorem ann {w : World} {p : Pk} {ls : List Spn} {lm : List Mem} {lu : List Int} (hp : sk w p ls lm lu) (hr : vn p) {K : KV} (h : ∀ w', Fr (fun _ => False) w w' → K (.int .i64 (ane p ls lm lu)) w') : ey P F.dj [pkA p] w K := by
 rw [M.dj.fcall]
 apply M.dj.calls
 unfold M.dj
 refine St.vr (St.jy w) fun pb w1 S1 => ?_
 have S1' : St w w1 (fq pb (pkC p).toArray T.a :: []) := S1
 have pl := fun K => uj S1' K
 simp [pl]
 refine alk (hp.fr S1.fr) fun w2 t ht f2 => ?_
 have S2 := S1'.iq f2
 have S3 := S2.iq ((Fr.refl _ w2).dr 1)
 unfold ane at h
 by_cases hk : 1 ≤ p.fu ∧ p.fu ≤ 10
 case neg =>
  rw [ht.bfy hk]
  rw [axi hk] at h
  simp [bcg]
  exact h _ S3.fr
 rw [← bao hr hk] at h
 simp [ht.eqn hk]
 have ht3 := ht.fr ((Fr.refl _ w2).dr 1)
 refine bbk ht3 hk hp.ls hp.lm hp.lu fun w4 f4 => ?_
 have S4 := S3.iq f4
 have pl4 := fun K => uj S4 K
 cases hb : qk p ls lm lu with
 | false =>
  rw [hb] at h
  simp
  exact h _ S4.fr
 | true =>
 rw [hb, Bool.true_and] at h
 simp [pl4]
 refine awu (ht3.fr f4) hk hp.ls hp.lm hp.lu fun w5 q hq hf f5 => ?_
 have S5 := S4.iq f5
 have pl5 := fun K => uj S5 K
 simp [pl5]
 refine azs (hp.fr S5.fr) hq fun w6 f6 => ?_
 have S6 := S5.iq f6
 have fin := h w6 S6.fr
 have e : yh p q ls (ot p ls) lm (oz p lm) lu (ou p lu) = yh p (oa p) ls (ot p ls) lm (oz p lm) lu (ou p lu) := by unfold yh; rw [hf p]
 rw [e]
 generalize yh p (oa p) ls (ot p ls) lm (oz p lm) lu (ou p lu) = bb at *
 cases bb with
 | true => simp at fin ⊢; exact fin
 | false => simp at fin ⊢; exact fin
theorem azg {w : World} {p : Pk} {ls : List Spn} {lm : List Mem} {lu : List Int} (hp : sk w p ls lm lu) (hr : vn p) {K : KV} (h1 : vd p ls lm lu = true → ∀ w' t, ThR w' p ls lm lu t → Fr (fun _ => False) w w' → K (.tuple #[t, .int .i64 0]) w') (h0 : vd p ls lm lu = false → ∀ w', Fr (fun _ => False) w w' → K (.tuple #[.nilIface, .int .i64 6]) w') : ey P F.dt [pkA p] w K := by
 rw [M.dz.fcall]
 apply M.dz.calls
 unfold M.dz
 refine St.vr (St.jy w) fun pb w1 S1 => ?_
 have S1' : St w w1 (fq pb (pkC p).toArray T.a :: []) := S1
 have pl := fun K => uj S1' K
 simp [pl]
 refine ann (hp.fr S1.fr) hr fun w2 f2 => ?_
 have S2 := S1'.iq f2
 unfold ane
 cases he : vd p ls lm lu with
 | false =>
  simp
  exact h0 he w2 S2.fr
 | true =>
  simp
  have pl2 := fun K => uj S2 K
  simp [pl2]
  refine alk (hp.fr S2.fr) fun w3 t ht f3 => ?_
  exact h1 he w3 t ht (S2.iq f3).fr
structure Agr (i : Nat) (g : Nat → Rg) (val fo : Nat → Int) (prop : Nat → Prop) (tk : List (Nat × Nat)) : Prop where
 reg : ∀ x, x < 3 → ((g x).t = gy ∧ (g x).v = 0) ∨ ∃ k, k < i ∧ prop k ∧ (g x).t = ⟨(k : Int) + 1, fo k⟩ ∧ (g x).v = val k
 ji : ∀ p ∈ tk, p.1 < 3 ∧ p.2 < i ∧ prop p.2 ∧ (p.2 : Int) + 1 ≤ (g p.1).t.n
 qa : ∀ k, k < i → prop k → val k ≠ 0
 one : ∀ k k' x y, k < k' → k' < i → prop k' → x ≠ y → (x, k) ∈ tk → (y, k) ∈ tk → val k' = val k
def bey (g : Nat → Rg) (q : Nat → Prop) (jj v : Int) : Prop :=
 ((∀ x, q x → (g x).v = 0) ∧ v = jj) ∨ ∃ z, q z ∧ v = (g z).v ∧ v ≠ 0 ∧ ∀ x, q x → (g x).v ≠ 0 → (g z).t.mo (g x).t = false
theorem bdt {q : Nat → Prop} {a b x y : Nat} (ha : q a) (hb : q b) (hab : a ≠ b) (a3 : a < 3) (b3 : b < 3) (hxy : x ≠ y) (x3 : x < 3) (y3 : y < 3) : q x ∨ q y := by
 by_cases h1 : x = a
 ·subst h1; exact .inl ha
 by_cases h2 : x = b
 ·subst h2; exact .inl hb
 by_cases h3 : y = a
 ·subst h3; exact .inr ha
 by_cases h4 : y = b
 ·subst h4; exact .inr hb
 omega
theorem azf {i : Nat} {g : Nat → Rg} {val fo : Nat → Int} {prop : Nat → Prop} {tk : List (Nat × Nat)} (h : Agr i g val fo prop tk) {q : Nat → Prop} {jj v : Int} (hp : bey g q jj v) (h3 : ∀ x, q x → x < 3) {a b : Nat} (ha : q a) (hb : q b) (hab : a ≠ b) :
  ∀ k x y, x ≠ y → (x, k) ∈ tk → (y, k) ∈ tk → v = val k := by
 have main : ∀ k x y, x ≠ y → (x, k) ∈ tk → (y, k) ∈ tk → q x → v = val k := by
  intro k x y hxy hx hy hq
  obtain ⟨x3, hk, hpk, ht⟩ := h.ji _ hx
  simp only at x3 hk hpk ht
  rcases h.reg x x3 with ⟨h1, _⟩ | ⟨k1, hk1, hp1, ht1, hv1⟩
  ·rw [h1] at ht; simp [gy] at ht; omega
  ·rw [ht1] at ht
   simp only at ht
   have hn : (g x).v ≠ 0 := by rw [hv1]; exact h.qa k1 hk1 hp1
   rcases hp with ⟨hz, _⟩ | ⟨z, hz, hv, hv0, hmax⟩
   ·exact absurd (hz x hq) hn
   ·have hl := hmax x hq hn
    rcases h.reg z (h3 z hz) with ⟨_, h2⟩ | ⟨k2, hk2, hp2, ht2, hv2⟩
    ·rw [h2] at hv; exact absurd hv hv0
    ·rw [ht1, ht2] at hl
     unfold Bal.mo at hl
     simp at hl
     have hle : k ≤ k2 := by omega
     rw [hv, hv2]
     rcases Nat.eq_or_lt_of_le hle with he | hlt
     ·rw [he]
     ·exact h.one k k2 x y hlt hk2 hp2 hxy hx hy
 intro k x y hxy hx hy
 have x3 := (h.ji _ hx).1
 have y3 := (h.ji _ hy).1
 rcases bdt ha hb hab (h3 a ha) (h3 b hb) hxy x3 y3 with hq | hq
 ·exact main k x y hxy hx hy hq
 ·exact main k y x (fun he => hxy he.symm) hy hx hq
theorem bcy {i : Nat} {g : Nat → Rg} {val fo : Nat → Int} {prop : Nat → Prop} {tk : List (Nat × Nat)} (h : Agr i g val fo prop tk) {k k' x y x' y' : Nat} (hxy : x ≠ y) (hx : (x, k) ∈ tk) (hy : (y, k) ∈ tk) (hx' : (x', k') ∈ tk) (_ : (y', k') ∈ tk) (hxy' : x' ≠ y') (hy' : (y', k') ∈ tk) : val k = val k' := by
 have p := h.ji _ hx
 have p' := h.ji _ hx'
 rcases Nat.lt_trichotomy k k' with hlt | he | hgt
 ·exact (h.one k k' x y hlt p'.2.1 p'.2.2.1 hxy hx hy).symm
 ·rw [he]
 ·exact h.one k' k x' y' hgt p.2.1 p.2.2.1 hxy' hx' hy'
def pm {α : Type} (g : Nat → α) (i : Nat) (a : α) : Nat → α := fun k => if k = i then a else g k
section
variable {i : Nat} {g : Nat → Rg} {val fo : Nat → Int} {prop : Nat → Prop} {tk : List (Nat × Nat)}
theorem baf (val fo : Nat → Int) (hg : ∀ x, x < 3 → (g x).t = gy ∧ (g x).v = 0) : Agr 0 g val fo prop [] :=
 ⟨fun x hx => .inl (hg x hx), fun p hp => by simp at hp, fun k hk => by omega, fun k k' _ _ _ hk => by omega⟩
theorem apz (h : Agr i g val fo prop tk) {g' : Nat → Rg} (hg : ∀ x, x < 3 → (g' x).t = (g x).t ∧ (g' x).v = (g x).v) : Agr i g' val fo prop tk :=
 ⟨fun x hx => by rw [(hg x hx).1, (hg x hx).2]; exact h.reg x hx, fun p hp => by
  obtain ⟨h1, h2, h3, h4⟩ := h.ji p hp
  exact ⟨h1, h2, h3, by rw [(hg _ h1).1]; exact h4⟩, h.qa, h.one⟩
theorem ang (h : Agr i g val fo prop tk) : Agr (i + 1) g val fo (fun k => prop k ∧ k < i) tk := by
 refine ⟨fun x hx => ?_, fun p hp => ?_, fun k hk hp => h.qa k hp.2 hp.1, fun k k' x y hk hk' hp => h.one k k' x y hk hp.2 hp.1⟩
 ·rcases h.reg x hx with hr | ⟨k, hk, hp, h1, h2⟩
  ·exact .inl hr
  ·exact .inr ⟨k, by omega, ⟨hp, hk⟩, h1, h2⟩
 ·obtain ⟨h1, h2, h3, h4⟩ := h.ji p hp
  exact ⟨h1, by omega, ⟨h3, h2⟩, h4⟩
theorem azr (h : Agr i g val fo prop tk) {v nd : Int} (hv : v ≠ 0) (ho : ∀ k x y, x ≠ y → (x, k) ∈ tk → (y, k) ∈ tk → v = val k) : Agr (i + 1) g (pm val i v) (pm fo i nd) (fun k => k = i ∨ (prop k ∧ k < i)) tk := by
 have lo : ∀ {α : Type} (f : Nat → α) (a : α) {k : Nat}, k < i → pm f i a k = f k := fun f a k hk => by unfold pm; rw [if_neg (by omega)]
 have at_ : ∀ {α : Type} (f : Nat → α) (a : α), pm f i a i = a := fun f a => by unfold pm; rw [if_pos rfl]
 refine ⟨fun x hx => ?_, fun p hp => ?_, fun k hk hp => ?_, fun k k' x y hk hk' hp hxy hx hy => ?_⟩
 ·rcases h.reg x hx with hr | ⟨k, hk, hp, h1, h2⟩
  ·exact .inl hr
  ·exact .inr ⟨k, by omega, .inr ⟨hp, hk⟩, by rw [lo fo nd hk]; exact h1, by rw [lo val v hk]; exact h2⟩
 ·obtain ⟨h1, h2, h3, h4⟩ := h.ji p hp
  exact ⟨h1, by omega, .inr ⟨h3, h2⟩, h4⟩
 ·rcases hp with rfl | hp
  ·rw [at_]; exact hv
  ·rw [lo val v hp.2]; exact h.qa k hp.2 hp.1
 ·have hki : k < i := (h.ji _ hx).2.1
  rw [lo val v hki]
  rcases hp with rfl | hp
  ·rw [at_]; exact ho k x y hxy hx hy
  ·rw [lo val v hp.2]; exact h.one k k' x y hk hp.2 hp.1 hxy hx hy
theorem bal (h : Agr (i + 1) g val fo prop tk) (hp : prop i) {x : Nat} (x3 : x < 3) {p : Bal} : Agr (i + 1) (pm g x ⟨p, ⟨(i : Int) + 1, fo i⟩, val i⟩) val fo prop (tk ++ [(x, i)]) := by
 refine ⟨fun y hy => ?_, fun q hq => ?_, h.qa, fun k k' a b hk hk' hpk hab ha hb => ?_⟩
 ·unfold pm
  split
  ·exact .inr ⟨i, by omega, hp, rfl, rfl⟩
  ·exact h.reg y hy
 ·rcases List.mem_append.1 hq with hq | hq
  ·obtain ⟨h1, h2, h3, h4⟩ := h.ji q hq
   refine ⟨h1, h2, h3, ?_⟩
   unfold pm
   split
   ·simp only; omega
   ·exact h4
  ·rw [List.mem_singleton] at hq
   subst hq
   refine ⟨x3, by omega, hp, ?_⟩
   unfold pm
   rw [if_pos rfl]
   exact Int.le_refl _
 ·have hki : k < i := by omega
  have old : ∀ c, (c, k) ∈ tk ++ [(x, i)] → (c, k) ∈ tk := fun c hc => by
   rcases List.mem_append.1 hc with hc | hc
   ·exact hc
   ·rw [List.mem_singleton] at hc
    have := congrArg Prod.snd hc
    simp only at this
    omega
  exact h.one k k' a b hk hk' hpk hab (old a ha) (old b hb)
end
set_option maxRecDepth 100000
open Go.Eng Go.Proofs.YtfnhoaemapheoaaGreat.Sint
structure RI (s f : Int) (L : Lg) (F : Nat) (D : Dk) (m : jc) : Prop where
 afy : oh s f L F D
 ft : yz (ge L.fl)
 set : wx (ge L.fl) F m
 le : F ≤ (ge L.fl).length
section
variable {s f : Int} {L : Lg} {F : Nat} {D : Dk} {m : jc}
theorem RI.azw (h : RI s f L F D m) : lr (ge L.fl) = m := ahb h.set h.le
theorem RI.ok (h : RI s f L F D m) : ∀ p ∈ m, okE p := by rw [← h.azw]; exact bct h.ft
theorem RI.asc (h : RI s f L F D m) : Asc m := by rw [← h.azw]; exact anc _
end
set_option maxRecDepth 100000
open Go.Eng Go.Proofs.YtfnhoaemapheoaaGreat.Sint
theorem bgg (a b c d e : Int) (w : World) (K : KV) : ik P T.aj #[(0, .int .u64 a), (1, .int .u64 b), (2, .int .u64 c), (3, .int .u64 d), (4, .int .u64 e)] w K = K (.agg #[.int .u64 a, .int .u64 b, .int .u64 c, .int .u64 d, .int .u64 e]) w := .trans (by kernel_rfl) rfl
theorem bfk (a b c d e : Value) (w : World) (K : KV) : ixT P T.aj (.agg #[a, b, c, d, e]) (.int .i64 0) w K = K a w := .trans (by kernel_rfl) rfl
theorem bfq (a b c d e : Value) (w : World) (K : KV) : ixT P T.aj (.agg #[a, b, c, d, e]) (.int .i64 1) w K = K b w := .trans (by kernel_rfl) rfl
theorem bfz (a b c d e : Value) (w : World) (K : KV) : ixT P T.aj (.agg #[a, b, c, d, e]) (.int .i64 2) w K = K c w := .trans (by kernel_rfl) rfl
theorem bfw (a b c d e : Value) (w : World) (K : KV) : ixT P T.aj (.agg #[a, b, c, d, e]) (.int .i64 3) w K = K d w := .trans (by kernel_rfl) rfl
theorem bfo (a b c d e : Value) (w : World) (K : KV) : ixT P T.aj (.agg #[a, b, c, d, e]) (.int .i64 4) w K = K e w := .trans (by kernel_rfl) rfl
theorem bba (b : Nat) (w : World) (K : KV) : iaT P T.aj (.pointer (some ⟨b, 0, none⟩)) (.int .i64 0) w K = K (.pointer (some ⟨b, 0, none⟩)) w := .trans (by kernel_rfl) rfl
theorem bav (b : Nat) (w : World) (K : KV) : iaT P T.aj (.pointer (some ⟨b, 0, none⟩)) (.int .i64 1) w K = K (.pointer (some ⟨b, 1, none⟩)) w := .trans (by kernel_rfl) rfl
theorem bay (b : Nat) (w : World) (K : KV) : iaT P T.aj (.pointer (some ⟨b, 0, none⟩)) (.int .i64 2) w K = K (.pointer (some ⟨b, 2, none⟩)) w := .trans (by kernel_rfl) rfl
theorem bbj (b : Nat) (w : World) (K : KV) : iaT P T.aj (.pointer (some ⟨b, 0, none⟩)) (.int .i64 3) w K = K (.pointer (some ⟨b, 3, none⟩)) w := .trans (by kernel_rfl) rfl
theorem bax (b : Nat) (w : World) (K : KV) : iaT P T.aj (.pointer (some ⟨b, 0, none⟩)) (.int .i64 4) w K = K (.pointer (some ⟨b, 4, none⟩)) w := .trans (by kernel_rfl) rfl
theorem adu : ∀ l : List Int, (l.flatMap kb).length = l.length * 8
 | [] => rfl
 | x :: l => by rw [List.flatMap_cons, List.length_append, ph, adu l, List.length_cons]; omega
def acd (k : Int) (r : Rg) : List Int := [k, r.p.n, r.p.fo, r.t.n, r.t.fo]
def ShI (w0 : World) (k : Int) (r : Rg) (R : List Asn) : KL := fun x w1 => ∃ (u v : Value) (i : Nat), x = [u, v, .int .i64 (i : Nat)] ∧ i ≤ 5 ∧ St w0 w1 (jd v (((acd k r).take i).flatMap kb) :: R)
section
variable {w0 w : World} {R : List Asn}
theorem bdi (a b c d e : Int) {i : Nat} (hi : i < 5) (w : World) (K : KV) : ixT P T.aj (.agg #[.int .u64 a, .int .u64 b, .int .u64 c, .int .u64 d, .int .u64 e]) (.int .i64 (i : Nat)) w K = K (.int .u64 ([a, b, c, d, e][i]'hi)) w := by
 match i, hi with
 | 0, _ => exact bfk _ _ _ _ _ _ _
 | 1, _ => exact bfq _ _ _ _ _ _ _
 | 2, _ => exact bfz _ _ _ _ _ _ _
 | 3, _ => exact bfw _ _ _ _ _ _ _
 | 4, _ => exact bfo _ _ _ _ _ _ _
theorem beo (b : Nat) {i : Nat} (hi : i < 5) (w : World) (K : KV) : iaT P T.aj (.pointer (some ⟨b, 0, none⟩)) (.int .i64 (i : Nat)) w K = K (.pointer (some ⟨b, i, none⟩)) w := by
 match i, hi with
 | 0, _ => exact bba _ _ _
 | 1, _ => exact bav _ _ _
 | 2, _ => exact bay _ _ _
 | 3, _ => exact bbj _ _ _
 | 4, _ => exact bax _ _ _
theorem bcc (S : St w0 w R) (k : Int) {r : Rg} (hv : 0 ≤ r.v ∧ r.v ≤ 3) {K : KV} (h : ∀ w' v', St w0 w' (jd v' (ly k r) :: R) → K v' w') : ey P F.dm [.int .u64 k, li r] w K := by
 rw [M.ce.fcall]
 apply M.ce.calls
 unfold M.ce
 refine St.vr S fun b w1 S1 => ?_
 have S1' : St w0 w1 (fq b (rgC r) T.f :: R) := S1
 have c0 : fi w1 b 0 = some (.int .u64 r.p.n) := by rw [S1'.cell]; rfl
 have c1 : fi w1 b 1 = some (.int .u64 r.p.fo) := by rw [S1'.cell]; rfl
 have c2 : fi w1 b 2 = some (.int .u64 r.t.n) := by rw [S1'.cell]; rfl
 have c3 : fi w1 b 3 = some (.int .u64 r.t.fo) := by rw [S1'.cell]; rfl
 simp [c0, c1, c2, c3, bgg]
 refine ⟨ShI w0 k r (fq b (rgC r) T.f :: R), fun x _ => 5 - ms x 2, ⟨_, _, 0, rfl, Nat.zero_le _, oc S1'⟩, ?_⟩
 rintro x w2 ⟨u, v, i, rfl, hi, S2⟩
 by_cases hil : i < 5
 ·have hili : (i : Int) < 5 := by omega
  have hwi : IntKind.i64.wrap ((i : Int) + 1) = ((i + 1 : Nat) : Int) := by rw [fj (by omega) (by omega)]; rfl
  simp [hili]
  unfold M.ce.j2
  simp [bdi _ _ _ _ _ hil]
  have hlen : (((acd k r).take i).flatMap kb).length ≤ 100000000 := by
   rw [adu, List.length_take]
   omega
  refine anw S2 hlen _ fun w3 v3 S3 => ?_
  simp [hwi]
  refine ⟨⟨_, _, i + 1, rfl, by omega, ?_⟩, by simp [ms, gv]; omega⟩
  have e : (((acd k r).take (i + 1)).flatMap kb) = (((acd k r).take i).flatMap kb) ++ kb ((acd k r)[i]'hil) := by
   rw [List.take_add_one, List.getElem?_eq_getElem (show i < (acd k r).length from hil), List.flatMap_append]
   show _ ++ ([_] : List Int).flatMap kb = _
   simp only [List.flatMap_cons, List.flatMap_nil, List.append_nil]
   rfl
  rw [e]
  exact S3
 ·have hi5 : i = 5 := by omega
  subst hi5
  simp
  unfold M.ce.j0
  have cv : fi w2 b 4 = some (.int .i64 r.v) := by rw [S2.swap.cell]; rfl
  simp [cv]
  rw [kf (ks := .i64) (kd := .u8) (by kernel_rfl) (by kernel_rfl)]
  have hw8 : IntKind.u8.wrap r.v = r.v := by
   obtain ⟨n, hn⟩ : ∃ n : Nat, r.v = n := ⟨r.v.toNat, by omega⟩
   rw [hn]; exact baw (by omega)
  rw [hw8]
  simp
  have S3 := axu S2 r.v
  refine Go.Eng.ri et.d il wk S3.swap (l2 := [r.v]) (S3.row il) ?_ (by decide) fun w4 v4 S4 => ?_
  ·have : (((acd k r).take 5).flatMap kb).length = 40 := by
    rw [adu]
    rfl
   rw [this]; simp
  ·refine h w4 v4 ?_
   have e : ((acd k r).take 5).flatMap kb ++ [r.v] = ly k r := by
    show ((acd k r).flatMap kb) ++ [r.v] = _
    unfold acd ly
    simp only [List.flatMap_cons, List.flatMap_nil, List.append_nil, List.append_assoc]
   rw [e] at S4
   exact (S4.swap.drop).swap.drop
end
def ahu (b : List Int) (i : Nat) : Array Value := ((List.range 5).map fun j => if j < i then Value.int .u64 (lj (b.drop (8 * j))) else .int .u64 0).toArray
theorem ayv (b : List Int) {i : Nat} (hi : i < 5) : (ahu b i).setIfInBounds i (.int .u64 (lj (b.drop (8 * i)))) = ahu b (i + 1) := by
 match i, hi with
 | 0, _ => rfl
 | 1, _ => rfl
 | 2, _ => rfl
 | 3, _ => rfl
 | 4, _ => rfl
def RdI (W : World) (ab rb : Nat) (b : List Int) : KL := fun x w1 => ∃ (u : Value) (i : Nat), x = [u, .int .i64 (i : Nat)] ∧ i ≤ 5 ∧ St W w1 (fq ab (ahu b i) T.aj :: fq rb (rgC rg0) T.f :: [])
theorem azu {w : World} {v : Value} {b : List Int} (hs : SlB w v b) {k : Int} {r : Rg} (hr : agk b = some (k, r)) {K : KV} (h : ∀ w', Fr (fun _ => False) w w' → K (.tuple #[.int .u64 k, li r, .bool true]) w') : ey P F.dl [v] w K := by
 unfold agk at hr
 by_cases hl : b.length = 41
 case neg => rw [if_pos hl] at hr; cases hr
 rw [if_neg (by simp [hl])] at hr
 split at hr
 case isFalse => cases hr
 rename_i hc
 obtain ⟨hk0, hrt⟩ := hc
 simp only [Option.some.injEq, Prod.mk.injEq] at hr
 obtain ⟨ek, er⟩ := hr
 rw [er] at hrt
 have hln : ∀ w' K, biT P .len #[T.d] T.b [false] [v] w' K = K (.int .i64 (41 : Nat)) w' := fun w' K => by rw [hs.ii (by kernel_rfl) [false], hl]
 rw [M.bi.fcall]
 apply M.bi.calls
 unfold M.bi
 simp
 have S1 := ym (St.jy w) T.f
 generalize w.heap.size = rb at *
 generalize w.alloc _ = w1 at *
 simp [hln]
 unfold M.bi.j0
 simp
 have S2 : St w (w1.alloc (.cells #[.int .u64 0, .int .u64 0, .int .u64 0, .int .u64 0, .int .u64 0] T.aj)) (fq w1.heap.size (ahu b 0) T.aj :: _) := S1.mkB (ahu b 0) T.aj
 generalize w1.heap.size = ab at *
 generalize w1.alloc _ = w2 at *
 refine ⟨RdI w ab rb b, fun x _ => 5 - ms x 1, ⟨_, 0, rfl, Nat.zero_le _, S2⟩, ?_⟩
 rintro x w3 ⟨u, i, rfl, hi, S3⟩
 by_cases hil : i < 5
 ·have hili : (i : Int) < 5 := by omega
  have hwi : IntKind.i64.wrap ((i : Int) + 1) = ((i + 1 : Nat) : Int) := by rw [fj (by omega) (by omega)]; rfl
  have hw8 : IntKind.i64.wrap (8 * (i : Int)) = ((8 * i : Nat) : Int) := by rw [fj (by omega) (by omega)]; omega
  simp [hili]
  unfold M.bi.j3
  have hs3 : SlB w3 v b := hs.fr S3.fr fun _ _ _ h => h
  obtain ⟨v', s', _, hsub⟩ := hs3.sub (P := P) (t := T.d) (lo := some (.int .i64 ((8 * i : Nat) : Int))) (hi := none) (i := 8 * i) (j := b.length) (by kernel_rfl) (by kernel_rfl) (.inr ⟨_, rfl⟩) (.inl ⟨rfl, rfl⟩) (by omega) (Nat.le_refl _)
  have e4 : (List.take (b.length - 8 * i) (List.drop (8 * i) b)) = b.drop (8 * i) := List.take_of_length_le (by simp)
  rw [e4] at s'
  simp [hw8]
  rw [show (8 * (i : Int)) = ((8 * i : Nat) : Int) by omega, hsub]
  refine aut s' (by simp; omega) ?_
  simp [beo ab hil]
  refine S3.ahp rfl (by simp [ahu]; omega) fun w4 S4 => ?_
  rw [ayv b hil] at S4
  simp [hwi]
  exact ⟨⟨_, i + 1, rfl, by omega, S4⟩, by simp [ms, gv]; omega⟩
 ·have hi5 : i = 5 := by omega
  subst hi5
  simp
  unfold M.bi.j1
  have S3d := S3.iq ((Fr.refl _ w3).dr 1)
  have c0 : fi w3 ab 0 = some (.int .u64 (lj b)) := by rw [S3.cell]; rfl
  have c1 : fi w3 ab 1 = some (.int .u64 (lj (b.drop 8))) := by rw [S3.cell]; rfl
  have c2 : fi w3 ab 2 = some (.int .u64 (lj (b.drop 16))) := by rw [S3.cell]; rfl
  have c3 : fi w3 ab 3 = some (.int .u64 (lj (b.drop 24))) := by rw [S3.cell]; rfl
  have c4 : fi w3 ab 4 = some (.int .u64 (lj (b.drop 32))) := by rw [S3.cell]; rfl
  obtain ⟨vb, vo, vc, hv, hvb, _, hcv⟩ := hs.at (i := 40) (by omega)
  have cb0 := hcv 0 _ rfl
  simp only [Nat.mul_one, Nat.add_zero] at cb0
  have eg : b[40]'(by omega) = r.v := by
   have := congrArg Rg.v er
   simp only at this
   rw [List.getD_eq_getElem?_getD, List.getElem?_eq_getElem (by omega)] at this
   exact this
  rw [eg] at cb0
  have cbW : ∀ {w' : World}, Fr (fun _ => False) w w' → fi w' vb (vo + 40) = some (.int .u8 r.v) := fun f => by rw [sr (f.ip vb hvb fun h => h)]; exact cb0
  have cb := cbW S3.fr
  have hiv : ∀ w' K, iaT P T.d v (.int .i64 40) w' K = K (.pointer (some ⟨vb, vo + 40, none⟩)) w' := fun w' K => by rw [hv]; simp [hl]
  have hvr : 0 ≤ r.v ∧ r.v ≤ 3 := by
   unfold Rg.right at hrt
   split at hrt
   ·simp at hrt; omega
   ·simp [mu] at hrt; omega
  have hcvt : ∀ w' K, cvT P T.aq T.l (.int .u8 r.v) w' K = K (.int .i64 r.v) w' := fun w' K => by
   rw [kf (ks := .u8) (kd := .i64) (by kernel_rfl) (by kernel_rfl), fj (by omega) (by omega)]
  simp [bba, bav, bay, bbj, bax, c0, c1, c2, c3, c4, hiv, cb, hcvt]
  have er1 : r.p.n = lj (b.drop 8) := by rw [← er]
  have er2 : r.p.fo = lj (b.drop 16) := by rw [← er]
  have er3 : r.t.n = lj (b.drop 24) := by rw [← er]
  have er4 : r.t.fo = lj (b.drop 32) := by rw [← er]
  rw [← er1, ← er2, ← er3, ← er4]
  rw [← er1] at c1
  rw [← er2] at c2
  rw [← er3] at c3
  rw [← er4] at c4
  rw [ek] at c0
  have S4 : St w ((dr w3 1).alloc (.cells #[.int .u64 0, .int .u64 0, .int .u64 0, .int .u64 0, .int .i64 0] T.f)) (fq (dr w3 1).heap.size (rgC rg0) T.f :: _) := ym S3d T.f
  rw [show (dr w3 1).heap.size = w3.heap.size from rfl] at S4
  generalize w3.heap.size = qb at *
  generalize (dr w3 1).alloc _ = w4 at *
  have cb4 := cbW S4.fr
  have arrC : ∀ {w' : World} {L : List Asn}, St w w' (fq ab (ahu b 5) T.aj :: L) → fi w' ab 0 = some (.int .u64 k) ∧ fi w' ab 1 = some (.int .u64 r.p.n) ∧ fi w' ab 2 = some (.int .u64 r.p.fo) ∧ fi w' ab 3 = some (.int .u64 r.t.n) ∧ fi w' ab 4 = some (.int .u64 r.t.fo) := fun {w' L} S' => by
   have e0 : fi w' ab 0 = some (.int .u64 (lj b)) := by rw [S'.cell]; rfl
   have e1 : fi w' ab 1 = some (.int .u64 (lj (b.drop 8))) := by rw [S'.cell]; rfl
   have e2 : fi w' ab 2 = some (.int .u64 (lj (b.drop 16))) := by rw [S'.cell]; rfl
   have e3 : fi w' ab 3 = some (.int .u64 (lj (b.drop 24))) := by rw [S'.cell]; rfl
   have e4 : fi w' ab 4 = some (.int .u64 (lj (b.drop 32))) := by rw [S'.cell]; rfl
   rw [ek] at e0
   rw [← er1] at e1
   rw [← er2] at e2
   rw [← er3] at e3
   rw [← er4] at e4
   exact ⟨e0, e1, e2, e3, e4⟩
  obtain ⟨d0, d1, d2, d3, d4⟩ := arrC S4.swap
  simp [cb4, d1, d2, d3, d4]
  refine uf (r' := r) S4 fun w5 S5 => ?_
  have S5d := S5.iq ((Fr.refl _ w5).dr 1)
  obtain ⟨e0, _⟩ := arrC S5d.swap
  simp only [qe] at e0
  obtain ⟨_, _, _, rl5⟩ := jn S5d
  have hkp : 0 < k := by omega
  simp [e0, rl5, hkp]
  refine ave r fun w6 f6 => ?_
  have S6 := S5d.iq f6
  obtain ⟨g0, _⟩ := arrC S6.swap
  obtain ⟨_, _, _, rl6⟩ := jn S6
  rw [hrt]
  simp [g0, rl6]
  unfold li
  simp
  refine uf (r' := r) S6.up2 fun w7 S7 => ?_
  obtain ⟨_, _, _, rl7⟩ := jn S7
  rw [zs, rl7]
  exact ⟨rfl, h w7 S7.fr⟩
end Go.Proofs.YtfnhoaemapheoaaGreat
set_option maxRecDepth 100000
namespace Go.Proofs.YtfnhoaemapheoaaGreat.KeyR
open Go.Eng Go.Sort Go.Proofs.YtfnhoaemapheoaaGreat.Suint64
def KI (w W : World) (U : Nat → Prop) (r : Nat) (m : MP) (J : List Int → Asn) : KL := fun x w1 => ∃ (done : List Int) (U1 : Nat → Prop), x.length = 1 ∧ xh w1 W.heap.size r .u64 m done ∧ (J done.reverse).ok w1 U1 ∧ (∀ b, U1 b → w.heap.size ≤ b ∧ b < w1.heap.size ∧ b ≠ W.heap.size) ∧ Fr (fun b => w.heap.size ≤ b) W w1
theorem aas {w : World} {it r : Nat} {k : IntKind} {m : MP} {done : List Int} (h : xh w it r k m done) : done.Nodup ∧ ∀ x ∈ done, x ∈ im m := by
 obtain ⟨es, clk, since, c0, ic, _, _, _, _, _, _, _, _, _, h1, h2⟩ := h
 exact ⟨h1, h2⟩
theorem aig {w : World} {r Bm : Nat} {m : MP} {e : TypeId} (hm : nj w r .u64 m) (hn : (im m).Nodup) (hB : w.heap[Bm]? = some (.cells #[.map (some r)] e (0, 0))) (hl : m.length < 60000) :
  aii P F.a [.pointer (some ⟨Bm, 0, none⟩)] aab (fun xs => xs.Perm (im m)) 60000 w := by
 intro l J W U K hf hJ hU hround hend
 apply M.s.calls
 unfold M.s
 have hBm : W.heap[Bm]? = some (.cells #[.map (some r)] e (0, 0)) := hf.heap hB fun h => h
 have c0 := fm hBm 0
 simp only [List.size_toArray, List.getElem?_toArray, List.getElem?_cons_zero] at c0
 have hm' : nj W r .u64 m := hm.xu (hf.ip r hm.lt fun h => h)
 have hrw := hm.lt
 simp [c0]
 refine avc mt.p hm' fun w1 hi f1 => ?_
 have hWs := hf.size
 have hWlt := (hi.lt).1
 refine ⟨KI w W U r m J, fun _ w1 => tj w1 W.heap.size m.length, ⟨[], U, rfl, hi, (J []).ip hJ f1 fun _ _ h => h, fun b hb => ?_, f1.mono fun _ _ h => h.elim⟩, ?_⟩
 ·have := hU b hb
  have := f1.size
  exact ⟨by omega, by omega, by omega⟩
 rintro x w2 ⟨done, U1, hx1, hi2, hJ2, hU2, f2⟩
 unfold M.s.j0
 refine avx hi2 hn T.bg (fun hall => ?_) fun y v w3 hy hyd hc3 f3 hlt => ?_
 ·have e0 : ∀ w K, exT P (.tuple #[.bool false]) 0 w K = K (.bool false) w := fun _ _ => rfl
  simp [e0]
  obtain ⟨h1, h2⟩ := aas hi2
  refine hend _ w2 done.reverse U1 ?_ hJ2 f2
  refine (List.reverse_perm done).trans ?_
  refine (List.perm_ext_iff_of_nodup h1 hn).2 fun z => ⟨h2 z, fun hz => ?_⟩
  obtain ⟨p, hp, rfl⟩ := List.mem_map.1 hz
  exact hall p hp
 ·simp
  rw [axd hc3]
  simp
  have hnit : ∀ b, U1 b → ¬ b = W.heap.size := fun b hb => (hU2 b hb).2.2
  have hJ3 := (J done.reverse).ip hJ2 f3 hnit
  have hlen : done.length < m.length := by
   obtain ⟨h1, h2⟩ := aas hi2
   have := sp (l := y :: done) (l' := im m) (List.nodup_cons.2 ⟨hyd, h1⟩) fun z hz => by
    rcases List.mem_cons.1 hz with rfl | hz
    ·exact List.mem_map_of_mem hy
    ·exact h2 z hz
   simp only [im, List.length_map, List.length_cons] at this
   omega
  have hs3 := f3.size
  refine hround done.reverse y w3 U1 _ hJ3 (fun b hb => ⟨(hU2 b hb).1, by have := (hU2 b hb).2.1; omega⟩) (by simp; omega) fun w4 U4 hJ4 hU4 f4 => ?_
  simp
  have hit : ¬ U1 W.heap.size := fun h => hnit _ h rfl
  have hr1 : ¬ U1 r := fun h => by have := (hU2 r h).1; omega
  have hi3 : xh w3 W.heap.size r .u64 m (y :: done) := hc3.1
  have hi4 := hi3.ip (f4.ip _ hi3.lt.1 hit) (f4.ip _ hi3.lt.2 hr1)
  refine ⟨⟨y :: done, U4, rfl, hi4, by simpa using hJ4, fun b hb => ?_, ?_⟩, ?_⟩
  ·rcases hU4 b hb with h | h
   ·have := hU2 b h
    have := f4.size
    exact ⟨by omega, by omega, by omega⟩
   ·have := hi3.lt.1
    have := f2.size
    exact ⟨by omega, by omega, by omega⟩
  ·refine (f2.kg f3 fun b hb he => by omega).kg f4 fun b hb he => (hU2 b he).1
  ·have : tj w4 W.heap.size m.length = tj w3 W.heap.size m.length := by
    unfold tj
    rw [f4.ip _ hi3.lt.1 hit]
   rw [this]; exact hlt
theorem ajw {w : World} {r : Nat} {m : MP} (hm : nj w r .u64 m) (hn : (im m).Nodup) (hl : m.length < 60000) {K : KV}
  (h : ∀ w' v, OwN w' w.heap.size v (mn (im m)) → Fr (fun _ => False) w w' → K v w') :
  ey P F.e [.map (some r)] w fun t w => ey P F.aw [t] w K := by
 rw [M.z.fcall]
 apply M.z.calls
 unfold M.z
 rw [xm, amz]
 show ey P F.aw _ _ K
 rw [M.cm.fcall]
 have f1 : Fr (fun _ => False) w (w.alloc (.cells #[.map (some r)] T.p)) := (Fr.refl _ w).alloc _
 have hB : (w.alloc (.cells #[.map (some r)] T.p)).heap[w.heap.size]? = some (.cells #[.map (some r)] T.p (0, 0)) := by rw [fx, if_pos rfl]
 have hsz : w.heap.size ≤ (w.alloc (.cells #[.map (some r)] T.p)).heap.size := by simp
 refine aga (ks := im m) FN.a.at (by kernel_rfl) (by kernel_rfl) (by simpa [im] using hl) (aig (hm.xu (f1.ip r hm.lt fun h => h)) hn hB hl) fun w2 v o2 f2 => ?_
 exact h w2 v (o2.mono hsz) (f1.trans f2)
end Go.Proofs.YtfnhoaemapheoaaGreat.KeyR
set_option maxRecDepth 100000
namespace Go.Proofs.YtfnhoaemapheoaaGreat
open Go.Eng Go.Proofs.YtfnhoaemapheoaaGreat.Sint
def adw (m : jc) (mm : MP) : Prop := ∀ k, ko mm k = (lk m k).map li
def nf (hb p r : Nat) (gh : Bool) : Array Value := #[.pointer (some ⟨hb, 0, none⟩), .pointer (some ⟨p, 0, none⟩), .map (some r), .bool gh]
def lg (q hb : Nat) (m : jc) (L : Lg) (gh : Bool) : Asn where
 ok w B := ∃ p r mm, adw m mm ∧ Rs [fq q (nf hb p r gh) T.m, jz r .u64 mm, kr p hb L] w B
 ip := by
  rintro w w' B S ⟨p, r, mm, h1, h2⟩ hf hn
  exact ⟨p, r, mm, h1, h2.ip hf hn⟩
section
variable {w0 w : World} {R : List Asn} {q hb p r : Nat} {m : jc} {L : Lg} {gh : Bool} {mm : MP}
theorem St.s22 {a b c d : Asn} (S : St w0 w (a :: b :: c :: d :: R)) : St w0 w (c :: d :: a :: b :: R) := S.perm ((List.perm_append_comm (l₁ := [a, b]) (l₂ := [c, d])).append_right R)
theorem aji (S : St w0 w (lg q hb m L gh :: R)) : ∃ p r mm, adw m mm ∧ St w0 w (fq q (nf hb p r gh) T.m :: jz r .u64 mm :: kr p hb L :: R) := by
 obtain ⟨B, ⟨p, r, mm, h1, h2⟩, _, cl⟩ := S.open
 exact ⟨p, r, mm, h1, cl w [fq q (nf hb p r gh) T.m, jz r .u64 mm, kr p hb L] (Fr.refl _ _) (h2.mono fun b hb => .inl hb)⟩
theorem ajv (h : adw m mm) (S : St w0 w (fq q (nf hb p r gh) T.m :: jz r .u64 mm :: kr p hb L :: R)) : St w0 w (lg q hb m L gh :: R) := by
 obtain ⟨U, h4, _, g⟩ := St.zj (L := [fq q (nf hb p r gh) T.m, jz r .u64 mm, kr p hb L]) (R := R) S
 exact g w [lg q hb m L gh] (Fr.refl _ _) ⟨U, ⟨p, r, mm, h, h4⟩, fun b hb => .inl hb, trivial⟩
theorem qd (S : St w0 w (fq q (nf hb p r gh) T.m :: R)) : fi w q 0 = some (.pointer (some ⟨hb, 0, none⟩)) ∧ fi w q 1 = some (iz p) ∧ fi w q 2 = some (.map (some r)) ∧ fi w q 3 = some (.bool gh) :=
 ⟨by rw [S.cell]; rfl, by rw [S.cell]; rfl, by rw [S.cell]; rfl, by rw [S.cell]; rfl⟩
theorem apt (h : adw m mm) (ha : Asc m) (k : Int) (x : Rg) : adw (oe m k x) (qg mm k (li x)) := fun k' => by
 rw [abm, aqa ha, h k']
 split <;> rfl
theorem axy : adw [] [] := fun k => rfl
theorem awv (h : adw m mm) (ha : Asc m) (hn : (im mm).Nodup) : Suint64.mn (im mm) = m.map (·.1) := by
 have hmem : ∀ k, k ∈ im mm ↔ k ∈ m.map (·.1) := fun k => by
  have h1 := aep mm k
  have h2 : lk m k = none ↔ k ∉ m.map (·.1) := by
   unfold lk
   rw [Option.map_eq_none_iff, List.find?_eq_none]
   simp only [decide_eq_true_eq, List.mem_map, not_exists, not_and]
  have h3 := h k
  constructor
  ·intro hk
   apply Classical.byContradiction
   intro hc
   rw [h2.2 hc] at h3
   exact h1.1 h3 hk
  ·intro hk
   apply Classical.byContradiction
   intro hc
   rw [h1.2 hc] at h3
   have : lk m k = none := by
    cases hl : lk m k with
    | none => rfl
    | some x => rw [hl] at h3; cases h3
   exact h2.1 this hk
 have hnd : (m.map (·.1)).Nodup := by
  unfold Asc at ha
  rw [List.nodup_iff_pairwise_ne, List.pairwise_map]
  exact ha.imp fun h => by omega
 have hp : (im mm).Perm (m.map (·.1)) := (List.perm_ext_iff_of_nodup hn hnd).2 hmem
 have hs : (m.map (·.1)).Pairwise fun a b => a ≤ b := by
  unfold Asc at ha
  rw [List.pairwise_map]
  exact ha.imp fun h => by omega
 rw [Suint64.th hp]
 show List.mergeSort _ _ = _
 exact List.mergeSort_of_pairwise (hs.imp fun h => by simpa using h)
theorem beb (S : St w0 w (lg q hb m L gh :: R)) (k : Int) {K : KV} (h : ∀ w', St w0 w' (lg q hb m L gh :: R) → K (li (kz m k)) w') : ey P F.bz [iz q, .int .u64 k] w K := by
 obtain ⟨p, r, mm, hm, S1⟩ := aji S
 rw [M.bg.fcall]
 apply M.bg.calls
 unfold M.bg iz
 simp
 have S2 := ym S1 T.f
 generalize w.heap.size = tb at *
 generalize w.alloc _ = w2 at *
 obtain ⟨_, _, c2, _⟩ := qd S2.swap
 unfold M.bg.j0
 simp [c2]
 rw [abi mt.p (xx S2.up2).1, hm k]
 have e : ((lk m k).map li).getD (.agg #[.int .u64 0, .int .u64 0, .int .u64 0, .int .u64 0, .int .i64 0]) = li (kz m k) := by
  unfold kz
  cases lk m k <;> rfl
 rw [e]
 unfold li
 simp
 refine uf (r' := kz m k) S2 fun w3 S3 => ?_
 obtain ⟨_, _, _, rl⟩ := jn S3
 rw [zs, rl]
 exact ⟨rfl, h w3 (ajv hm S3.drop)⟩
theorem aux (S : St w0 w (lg q hb m L gh :: R)) (ha : Asc m) (hl : m.length < 60000) {K : KV} (h : ∀ w' v', St w0 w' (rdA 1 akp v' (m.map (·.1)) :: lg q hb m L gh :: R) → K v' w') : ey P F.bm [iz q] w K := by
 obtain ⟨p, r, mm, hm, S1⟩ := aji S
 rw [M.az.fcall]
 apply M.az.calls
 unfold M.az iz
 simp
 unfold M.az.j0
 obtain ⟨_, _, c2, _⟩ := qd S1
 simp [c2]
 obtain ⟨hmp, hn⟩ := xx S1.swap
 have hk := awv hm ha hn
 have hlen : mm.length < 60000 := by
  have := congrArg List.length hk
  rw [(Suint64.mf _).length_eq] at this
  simp [im] at this
  omega
 refine KeyR.ajw hmp hn hlen fun w2 v2 o2 f2 => ?_
 rw [hk] at o2
 have o3 : OwU w2 w.heap.size v2 (m.map (·.1)) := o2
 exact h w2 v2 (S.add f2 (B := fun x => v2.ownBlock = some x) ⟨o3.sl ahn, fun b hb => hb⟩ fun b hb => o3.lt hb)
end
set_option maxRecDepth 100000
open Go.Eng Go.Proofs.YtfnhoaemapheoaaGreat.Sint
def wrF (L : Lg) (D : Dk) (ft : List (List Int)) : (Lg × Dk) × Int :=
 if (px L D ft).2 = 0 then (((px L D ft).1.1, ((px L D ft).1.1.lf (px L D ft).1.2).1), ((px L D ft).1.1.lf (px L D ft).1.2).2) else px L D ft
theorem aop {L : Lg} {D : Dk} {b : List Int} {r : List (List Int)} (h : (L.append D b).2 = 0) : wrF L D (b :: r) = wrF (L.append D b).1.1 (L.append D b).1.2 r := by
 have e : px L D (b :: r) = px (L.append D b).1.1 (L.append D b).1.2 r := by rw [px, if_pos h]
 unfold wrF; rw [e]
theorem aze {L : Lg} {D : Dk} {b : List Int} {r : List (List Int)} (h : (L.append D b).2 ≠ 0) : wrF L D (b :: r) = L.append D b := by
 have e : px L D (b :: r) = L.append D b := by rw [px, if_neg h]
 unfold wrF; rw [e, if_neg h]
def wrL (lv : Value) (vs : List SV) (ft : List (List Int)) (q p hb r : Nat) (dn : Bool) (mm : MP) (L : Lg) (D : Dk) (R : List Asn) : List Asn :=
 kr p hb L :: fy hb D :: nv (lw vs ft) :: Eng.je T.d 1 lz lv vs :: fq q (nf hb p r dn) T.m :: jz r .u64 mm :: R
section
variable {w0 w : World} {R : List Asn} {q hb p r : Nat} {m : jc} {L : Lg} {dn : Bool} {mm : MP} {D : Dk} {G : Nat} {s f : Int} {lv : Value} {vs : List SV} {ft : List (List Int)}
def WrI (w0 : World) (lv : Value) (vs : List SV) (ft : List (List Int)) (q p hb r : Nat) (dn : Bool) (mm : MP) (s f : Int) (G : Nat) (L : Lg) (D : Dk) (R : List Asn) : KL := fun x w1 => ∃ (u : Value) (i : Nat) (Li : Lg) (Di : Dk), x = [u, .int .i64 0, .int .i64 (i : Nat)] ∧ i ≤ ft.length ∧ oh s f Li G Di ∧ f + (ge Li.fl).length + (ft.length - i : Nat) ≤ 1000000000000 ∧ wrF L D ft = wrF Li Di (ft.drop i) ∧ St w0 w1 (wrL lv vs ft q p hb r dn mm Li Di R)
theorem avb (S : St w0 w (wrL lv vs ft q p hb r dn mm L D R)) {k : Int} {x4 : List Value} (hx : gv x4 0 = .int .i64 k) {K : KV} (h : ∀ w', St w0 w' (wrL lv vs ft q p hb r (dn || decide (k = 10)) mm L D R) → K (.int .i64 k) w') : M.v.j4 (iz q) x4 w K := by
 have S1 : St w0 w (fq q (nf hb p r dn) T.m :: kr p hb L :: fy hb D :: nv (lw vs ft) :: Eng.je T.d 1 lz lv vs :: jz r .u64 mm :: R) := St.up4 (R := jz r .u64 mm :: R) S
 obtain ⟨_, _, _, c3⟩ := qd S1
 unfold M.v.j4 iz
 rw [hx]
 have fin : ∀ d, d = (dn || decide (k = 10)) → ∀ w', St w0 w' (fq q ((nf hb p r dn).setIfInBounds 3 (.bool d)) T.m :: kr p hb L :: fy hb D :: nv (lw vs ft) :: Eng.je T.d 1 lz lv vs :: jz r .u64 mm :: R) → K (.int .i64 k) w' := fun d e w' S' => by
  subst e
  exact h w' (St.dn4 (R := jz r .u64 mm :: R) S')
 cases dn with
 | true =>
  simp [c3]
  exact S1.ahp rfl (by simp [nf]) fun w' S' => fin true (by simp) w' S'
 | false =>
  by_cases hk : k = 10
  ·simp [c3, hk]
   refine S1.ahp rfl (by simp [nf]) fun w' S' => ?_
   have := fin true (by simp [hk]) w' S'
   rwa [hk] at this
  ·simp [c3, hk]
   exact S1.ahp rfl (by simp [nf]) fun w' S' => fin false (by simp [hk]) w' S'
theorem azn (S : St w0 w (lg q hb m L dn :: fy hb D :: jk lv ft :: R)) (hg : oh s f L G D) (hr : ∀ b ∈ ft, b.length ≤ 8192) (hn : f + (ge L.fl).length + ft.length ≤ 1000000000000) (hrl : ft.length ≤ 100000) {K : KV}
  (h : ∀ w', St w0 w' (lg q hb m (wrF L D ft).1.1 (dn || decide ((wrF L D ft).2 = 10)) :: fy hb (wrF L D ft).1.2 :: R) → K (.int .i64 (wrF L D ft).2) w') : ey P F.br [iz q, lv] w K := by
 obtain ⟨p, r, mm, hm, S1⟩ := aji S
 have S2 : St w0 w (jk lv ft :: fq q (nf hb p r dn) T.m :: jz r .u64 mm :: kr p hb L :: fy hb D :: R) := St.up4 S1
 obtain ⟨vs, hvs, S3⟩ := acn S2
 have hlen := fun w' K => aai S2 w' K
 have S4 : St w0 w (wrL lv vs ft q p hb r dn mm L D R) := S3.perm (by
  have p1 := List.perm_append_comm (l₁ := [Eng.je T.d 1 lz lv vs, nv (lw vs ft), fq q (nf hb p r dn) T.m, jz r .u64 mm]) (l₂ := [kr p hb L, fy hb D])
  refine (p1.append_right R).trans ?_
  exact List.Perm.cons _ (List.Perm.cons _ (List.Perm.swap _ _ _)))
 rw [M.v.fcall]
 apply M.v.calls
 unfold M.v
 simp [hlen]
 have atf : ∀ {L' : Lg} {D' : Dk} {dn' : Bool} {w' : World}, St w0 w' (wrL lv vs ft q p hb r dn' mm L' D' R) → St w0 w' (lg q hb m L' dn' :: fy hb D' :: R) := fun {L' D' dn' w'} S' => by
  have T1 : St w0 w' (nv (lw vs ft) :: kr p hb L' :: fy hb D' :: Eng.je T.d 1 lz lv vs :: fq q (nf hb p r dn') T.m :: jz r .u64 mm :: R) := St.up2 S'
  have T2 := T1.drop
  have T3 : St w0 w' (Eng.je T.d 1 lz lv vs :: kr p hb L' :: fy hb D' :: fq q (nf hb p r dn') T.m :: jz r .u64 mm :: R) := St.up2 T2
  exact ajv hm (St.s22 T3.drop)
 refine ⟨WrI w0 lv vs ft q p hb r dn mm s f G L D R, fun x _ => ft.length - ms x 2, ⟨_, 0, L, D, rfl, Nat.zero_le _, hg, by simpa using hn, by simp, S4⟩, ?_⟩
 rintro x w1 ⟨u, i, Li, Di, rfl, hi, gi, bi, ei, Si⟩
 by_cases hil : i < ft.length
 ·have hili : (i : Int) < (ft.length : Int) := by omega
  have hwi : IntKind.i64.wrap ((i : Int) + 1) = ((i + 1 : Nat) : Int) := by rw [fj (by omega) (by omega)]; rfl
  have hdrop : ft.drop i = ft[i] :: ft.drop (i + 1) := List.drop_eq_getElem_cons hil
  simp [hil]
  unfold M.v.j2 iz
  have hi' : i < vs.length := by omega
  have Srow : St w0 w1 (Eng.je T.d 1 lz lv vs :: kr p hb Li :: fy hb Di :: nv (lw vs ft) :: fq q (nf hb p r dn) T.m :: jz r .u64 mm :: R) := St.up3 Si
  obtain ⟨b, o, cap, hv, _, _, hc⟩ := (Srow.je qv : Sl w1 1 lz lv vs).at hi'
  have c0 := hc 0 _ rfl
  simp only [Nat.mul_one, Nat.add_zero] at c0
  have hia : ∀ w' K, iaT P T.i lv (.int .i64 (i : Nat)) w' K = K (.pointer (some ⟨b, o + i, none⟩)) w' := fun w' K => by rw [hv]; simp [hi']
  have Sq : St w0 w1 (fq q (nf hb p r dn) T.m :: kr p hb Li :: fy hb Di :: nv (lw vs ft) :: Eng.je T.d 1 lz lv vs :: jz r .u64 mm :: R) := St.up4 Si
  obtain ⟨_, c1, _, _⟩ := qd Sq
  simp [hia, c0, c1]
  refine auf (av := (vs[i]).v) (rec := ft[i]) Si (bdn Si.swap gi) (by have := hr _ (List.getElem_mem hil); omega) (fun w' L' S' => ?_) fun w2 S5 => ?_
  ·have S6 : St w0 w' (nv (lw vs ft) :: (L' ++ Eng.je T.d 1 lz lv vs :: fq q (nf hb p r dn) T.m :: jz r .u64 mm :: R)) := S'.perm List.perm_middle
   have S7 := St.apv (j := i) (L := lw vs ft) (by simp [lw]; omega) S6
   unfold lw at S7
   rw [List.getElem_zipWith] at S7
   exact S7.row il
  have ha := ayl (b := ft[i]) gi (by omega)
  rw [hdrop] at ei
  by_cases h0 : (Li.append Di ft[i]).2 = 0
  ·rw [aop h0] at ei
   generalize Li.append Di ft[i] = z at *
   cases ha with
   | ajc => simp at h0
   | sw => simp at h0
   | gh => simp at h0
   | ok L' D' g' e1 =>
    simp [hwi]
    refine ⟨⟨_, i + 1, L', D', rfl, by omega, g', ?_, ei, S5⟩, by simp [ms, gv]; omega⟩
    rw [e1, List.length_append, List.length_singleton]
    omega
  ·rw [aze h0] at ei
   rw [ei] at h
   simp [h0]
   unfold M.v.j0
   simp [h0]
   exact avb S5 rfl fun w3 S8 => h w3 (atf S8)
 ·have hili : ¬ (i : Int) < (ft.length : Int) := by omega
  have hie : i = ft.length := by omega
  subst hie
  rw [List.drop_length] at ei
  have e0 : wrF Li Di [] = ((Li, (Li.lf Di).1), (Li.lf Di).2) := by unfold wrF px; simp
  rw [e0] at ei
  rw [ei] at h
  simp
  unfold M.v.j0 iz
  have Sq : St w0 w1 (fq q (nf hb p r dn) T.m :: kr p hb Li :: fy hb Di :: nv (lw vs ft) :: Eng.je T.d 1 lz lv vs :: jz r .u64 mm :: R) := St.up4 Si
  obtain ⟨_, c1, _, _⟩ := qd Sq
  simp [c1]
  refine aot Si (by have := gi.vir.len; omega) fun w2 S5 => ?_
  exact avb S5 rfl fun w3 S8 => h w3 (atf S8)
end
set_option maxRecDepth 100000
open Go.Eng Go.Proofs.YtfnhoaemapheoaaGreat.Sint
section
variable {w0 w : World} {R : List Asn} {q hb p r : Nat} {m : jc} {L : Lg} {dn : Bool} {mm : MP} {D D' : Dk} {G : Nat} {s f : Int} {gg : Int} {Q' : List Prt}
def OpR (w0 : World) (rv : Value) (ft : List (List Int)) (q p hb r : Nat) (L : Lg) (D : Dk) (R : List Asn) : KL := fun x w1 => ∃ (u0 u1 u2 u3 u4 u5 : Value) (i : Nat) (mm : MP), x = [u0, u1, u2, u3, u4, u5, .int .i64 (i : Nat)] ∧ i ≤ ft.length ∧ adw (lr (ft.take i)) mm ∧
 St w0 w1 (jk rv ft :: fq q (nf hb p r false) T.m :: jz r .u64 mm :: kr p hb L :: fy hb D :: R)
theorem bcp (S : St w0 w R) : St w0 (w.alloc (.map #[] 0)) (jz w.heap.size .u64 [] :: R) := S.add (a := jz w.heap.size .u64 []) ((Fr.refl _ w).alloc _) (B := fun x => x = w.heap.size) ⟨⟨afo w .u64, List.nodup_nil⟩, rfl⟩ fun b hb => by subst hb; rw [ig]; omega
theorem ayt (S : St w0 w (fy hb D :: R)) (hmx : gg < 9223372036854775808) (eo : yb D gg = ((D', some Q'), 0)) (g : oh s f ⟨gg, Q'⟩ G D') (es : (Lg.lf ⟨gg, Q'⟩ D').2 = 0) (hr : yz (ge Q')) {K : KV}
  (h : ∀ w' q, St w0 w' (lg q hb (lr (ge Q')) ⟨gg, Q'⟩ false :: fy hb (Lg.lf ⟨gg, Q'⟩ D').1 :: R) → K (.tuple #[iz q, .int .i64 0]) w') : ey P F.bs [.pointer (some ⟨hb, 0, none⟩), .int .i64 gg] w K := by
 rw [M.ba.fcall]
 apply M.ba.calls
 unfold M.ba
 refine bfg S hmx (fun w2 hn _ => by rw [eo] at hn; cases hn) fun w2 p qs hs S2 => ?_
 rw [eo] at hs S2
 have hqs : qs = Q' := by simpa using (congrArg (·.1.2) hs).symm
 subst hqs
 simp only at S2
 simp only [iz]
 simp
 unfold M.ba.j0
 rw [apm]
 have S3 := bcp S2
 have z3 : (w2.alloc (.map #[] 0)).heap.size = w2.heap.size + 1 := ig _ _
 generalize hrr : w2.heap.size = r at *
 generalize w2.alloc (.map #[] 0) = w3 at *
 have e : ik P T.m #[(0, .pointer (some ⟨hb, 0, none⟩)), (1, .pointer (some ⟨p, 0, none⟩)), (2, .map (some r))] w3 = fun K => K (.agg (nf hb p r false)) w3 := by funext K; simp [nf]
 rw [e]
 refine St.vr S3 fun q w4 S4 => ?_
 have S5 : St w0 w4 (kr p hb ⟨gg, qs⟩ :: fy hb D' :: fq q (nf hb p r false) T.m :: jz r .u64 [] :: R) := St.s22 S4
 simp
 refine ban S5 g fun w5 rv S6 => ?_
 have hlen := fun w' K => aai S6 w' K
 simp only at hlen S6
 simp [hlen]
 refine ⟨OpR w0 rv (ge qs) q p hb r ⟨gg, qs⟩ D' R, fun x _ => (ge qs).length - ms x 6, ⟨_, _, _, _, _, _, 0, [], rfl, Nat.zero_le _, by simpa [lr] using axy, S6.tail ((List.perm_append_comm (l₁ := [kr p hb ⟨gg, qs⟩, fy hb D']) (l₂ := [fq q (nf hb p r false) T.m, jz r .u64 []])).append_right R)⟩, ?_⟩
 rintro x w6 ⟨u0, u1, u2, u3, u4, u5, i, mm, rfl, hi, hm, S7⟩
 by_cases hil : i < (ge qs).length
 ·have hwi : IntKind.i64.wrap ((i : Int) + 1) = ((i + 1 : Nat) : Int) := by
   have := aoc S5.swap g
   simp only at this
   rw [fj (by omega) (by omega)]; rfl
  simp [hil]
  unfold M.ba.j3
  obtain ⟨b, o, sv, hia, _, c0, hsl⟩ := acz S7 hil
  obtain ⟨pr, ho, he⟩ := hr _ (List.getElem_mem hil)
  have hrd : agk (ge qs)[i] = some (pr.1, pr.2) := by rw [he]; exact adk ho.1 ho.2.1 ho.2.2.1 ho.2.2.2
  simp [hia, c0]
  refine azu hsl hrd fun w7 f7 => ?_
  have S8 := S7.iq f7
  simp
  have S9 := ym S8 T.f
  generalize w7.heap.size = tb at *
  generalize w7.alloc _ = w8 at *
  unfold li
  simp
  refine uf (r' := pr.2) S9 fun w9 S10 => ?_
  unfold M.ba.j5
  have S10d := S10.iq ((Fr.refl _ w9).dr 1)
  have Sb : St w0 (dr w9 1) (fq q (nf hb p r false) T.m :: fq tb (rgC pr.2) T.f :: jk rv (ge qs) :: jz r .u64 mm :: kr p hb ⟨gg, qs⟩ :: fy hb D' :: R) := St.up2 S10d
  obtain ⟨_, _, c2, _⟩ := qd Sb
  obtain ⟨_, _, _, rl⟩ := jn S10d
  simp only [qe] at c2
  simp [c2, rl]
  have Sm : St w0 (dr w9 1) (jz r .u64 mm :: fq tb (rgC pr.2) T.f :: jk rv (ge qs) :: fq q (nf hb p r false) T.m :: kr p hb ⟨gg, qs⟩ :: fy hb D' :: R) := St.up3 S10d
  refine amv mt.p (xx Sm).1 pr.1 _ _ fun ob hob => ?_
  have S11 := apn Sm hob
  refine ⟨⟨_, _, _, _, _, _, i + 1, qg mm pr.1 (li pr.2), by rw [hwi], by omega, ?_, ?_⟩, by rw [hwi]; simp [ms, gv]; omega⟩
  ·rw [List.take_add_one, List.getElem?_eq_getElem hil]
   show adw (lr ((ge qs).take i ++ [(ge qs)[i]])) _
   rw [he, afr ho.1 ho.2.1 ho.2.2.1 ho.2.2.2]
   exact apt hm (anc _) _ _
  ·have T1 : St w0 _ (fq tb (rgC pr.2) T.f :: jz r .u64 (qg mm pr.1 (li pr.2)) :: jk rv (ge qs) :: fq q (nf hb p r false) T.m :: kr p hb ⟨gg, qs⟩ :: fy hb D' :: R) := S11.swap
   exact St.dn2 T1.drop
 ·have hie : i = (ge qs).length := by omega
  subst hie
  rw [List.take_length] at hm
  simp
  unfold M.ba.j1
  have T1 : St w0 w6 (kr p hb ⟨gg, qs⟩ :: fy hb D' :: fq q (nf hb p r false) T.m :: jz r .u64 mm :: R) := St.s22 S7.drop
  refine aot (p := p) T1 (by have := g.vir.len; simp only at this ⊢; omega) fun w7 T2 => ?_
  rw [es]
  simp
  exact h w7 q (ajv hm (St.s22 T2))
end
set_option maxRecDepth 100000
open Go.Eng Go.Proofs.YtfnhoaemapheoaaGreat.Sint
theorem aik (w : World) (K : KV) : taT P .nilIface T.an T.j true w K = K (.tuple #[.agg #[.int .u64 0, .int .u64 0, .int .u64 0, .int .i64 0], .bool false]) w := .trans (by kernel_rfl) rfl
theorem aqq (a b c d : Value) (w : World) (K : KV) : taT P (.iface T.j (.agg #[a, b, c, d])) T.an T.j true w K = K (.tuple #[.agg #[a, b, c, d], .bool true]) w := .trans (by kernel_rfl) rfl
theorem ThR.bfn {w : World} {p : Pk} {ls : List Spn} {lm : List Mem} {lu : List Int} {t : Value} (h : ThR w p ls lm lu t) (hk : ¬ (p.fu = 4 ∨ p.fu = 6)) (w' : World) (K : KV) : taT P t T.an T.j true w' K = K (.tuple #[.agg #[.int .u64 0, .int .u64 0, .int .u64 0, .int .i64 0], .bool false]) w' := by
 cases h with
 | qt v q hs => exact apo _ _ _
 | afn v q hs => exact akf _ _ _
 | ask q => exact absurd q hk
 | xc q => exact aap _ _ _
 | qa q => exact acb _ _ _
 | uh v q hs => exact yy _ _ _
 | xn v q hs => exact aav _ _ _
 | none q => exact aik _ _
theorem ThR.bft {w : World} {p : Pk} {ls : List Spn} {lm : List Mem} {lu : List Int} {t : Value} (h : ThR w p ls lm lu t) (hk : p.fu = 4 ∨ p.fu = 6) : t = agc p.tr p.b p.v := by
 cases h with
 | ask q => rfl
 | qt v q hs => omega
 | afn v q hs => omega
 | xc q => omega
 | qa q => omega
 | uh v q hs => omega
 | xn v q hs => omega
 | none q => omega
def pd (p : Pk) (ls : List Spn) (lm : List Mem) (lu : List Int) : Bool := (decide (p.fu = 4) || decide (p.fu = 6)) && vd p ls lm lu
def nk (L : Lg) (D : Dk) (tr : Int) (r : Rg) : (Lg × Dk) × Int := wrF L D [ly tr r]
theorem aho {p : Pk} {ls : List Spn} {lm : List Mem} {lu : List Int} (h : pd p ls lm lu = true) (hr : vn p) : (p.fu = 4 ∨ p.fu = 6) ∧ 0 < p.tr ∧ 0 < p.b.n := by
 unfold pd at h
 simp only [Bool.and_eq_true, Bool.or_eq_true, decide_eq_true_eq] at h
 obtain ⟨hk, h⟩ := h
 unfold vd tf at h
 have h1 := hr.tr.1
 have h2 := hr.b.1.1
 rcases hk with hk | hk <;> simp [hk] at h
 ·exact ⟨.inl hk, h.1.2, h.2⟩
 ·exact ⟨.inr hk, h.1.2, h.2.1⟩
section
variable {w0 w : World} {R : List Asn} {q hb : Nat} {m : jc} {L : Lg} {dn : Bool} {D : Dk} {G : Nat} {s f : Int} {p : Pk} {ls : List Spn} {lm : List Mem} {lu : List Int}
def hdL (ab tb pb q hb : Nat) (p : Pk) (m : jc) (L : Lg) (dn : Bool) (D : Dk) (R : List Asn) : List Asn := fq ab #[.int .u64 p.tr, .int .u64 p.b.n, .int .u64 p.b.fo, .int .i64 p.v] T.j :: fq tb (pkC pkZ).toArray T.a :: fq pb (pkC p).toArray T.a :: lg q hb m L dn :: fy hb D :: R
theorem tz {ab : Nat} {R : List Asn} (S : St w0 w (fq ab #[.int .u64 p.tr, .int .u64 p.b.n, .int .u64 p.b.fo, .int .i64 p.v] T.j :: R)) : fi w ab 0 = some (.int .u64 p.tr) ∧ (∀ K, ldN P 2 ab 1 w K = K (jm p.b) w) ∧ fi w ab 3 = some (.int .i64 p.v) :=
 ⟨by rw [S.cell]; rfl, fun K => S.ldA [.int .u64 p.b.n, .int .u64 p.b.fo] rfl rfl K, by rw [S.cell]; rfl⟩
theorem aue {tb : Nat} {R1 R2 : List Asn} (S : St w0 w (fq tb (pkC pkZ).toArray T.a :: R1)) {k : Int} {K : KV} (h : ∀ w', St w0 w' R1 → K (.tuple #[pkA pkZ, .int .i64 k]) w') :
  stN P tb 0 [.int .i64 0, .int .u64 0, .int .u64 0, .int .u64 0, .int .u64 0, .int .u64 0, .int .i64 0, .bool false, .slice none 0 0, .slice none 0 0, .slice none 0 0] w fun _ w => og P T.a (.pointer (some ⟨tb, 0, none⟩)) w fun r0 w' => w' = w ∧ K (.tuple #[r0, .int .i64 k]) w :=
 acw (q := pkZ) S rfl (un _ _ _ _ _ _) (K := fun r0 w => K (.tuple #[r0, .int .i64 k]) w) fun w' S' => h w' S'.drop
theorem ash (S : St w0 w (lg q hb m L dn :: fy hb D :: R)) (hp : ∀ w' R', St w0 w' (R' ++ R) → sk w' p ls lm lu) (hr : vn p) (hG : dn = false → D.gh = false → ∃ F, RI s f L F D m) (hf : f + (ge L.fl).length + 1 ≤ 1000000000000) {K : KV}
  (hno : pd p ls lm lu = false → ∀ w', St w0 w' (lg q hb m L dn :: fy hb D :: R) → K (.tuple #[pkA pkZ, .int .i64 6]) w')
  (hdn : pd p ls lm lu = true → (dn || D.gh) = true → ∀ w', St w0 w' (lg q hb m L dn :: fy hb D :: R) → K (.tuple #[pkA pkZ, .int .i64 10]) w')
  (hsame : pd p ls lm lu = true → dn = false → D.gh = false → (jb m (decide (p.fu = 6)) p.tr p.b p.v).1 = kz m p.tr → ∀ w', St w0 w' (lg q hb m L dn :: fy hb D :: R) → K (.tuple #[pkA (abr (jb m (decide (p.fu = 6)) p.tr p.b p.v).1 p.tr p.b (jb m (decide (p.fu = 6)) p.tr p.b p.v).2 (decide (p.fu = 6))), .int .i64 0]) w')
  (hbad : pd p ls lm lu = true → dn = false → D.gh = false → (jb m (decide (p.fu = 6)) p.tr p.b p.v).1 ≠ kz m p.tr → (nk L D p.tr (jb m (decide (p.fu = 6)) p.tr p.b p.v).1).2 ≠ 0 → ∀ w', St w0 w' (lg q hb m (nk L D p.tr (jb m (decide (p.fu = 6)) p.tr p.b p.v).1).1.1 (decide ((nk L D p.tr (jb m (decide (p.fu = 6)) p.tr p.b p.v).1).2 = 10)) :: fy hb (nk L D p.tr (jb m (decide (p.fu = 6)) p.tr p.b p.v).1).1.2 :: R) → K (.tuple #[pkA pkZ, .int .i64 (nk L D p.tr (jb m (decide (p.fu = 6)) p.tr p.b p.v).1).2]) w')
  (hok : pd p ls lm lu = true → dn = false → D.gh = false → (jb m (decide (p.fu = 6)) p.tr p.b p.v).1 ≠ kz m p.tr → (nk L D p.tr (jb m (decide (p.fu = 6)) p.tr p.b p.v).1).2 = 0 → ∀ w', St w0 w' (lg q hb (oe m p.tr (jb m (decide (p.fu = 6)) p.tr p.b p.v).1) (nk L D p.tr (jb m (decide (p.fu = 6)) p.tr p.b p.v).1).1.1 false :: fy hb (nk L D p.tr (jb m (decide (p.fu = 6)) p.tr p.b p.v).1).1.2 :: R) → K (.tuple #[pkA (abr (jb m (decide (p.fu = 6)) p.tr p.b p.v).1 p.tr p.b (jb m (decide (p.fu = 6)) p.tr p.b p.v).2 (decide (p.fu = 6))), .int .i64 0]) w') :
  ey P F.i [iz q, pkA p] w K := by
 rw [M.n.fcall]
 apply M.n.calls
 unfold M.n iz
 refine St.vr S fun pb w1 S1 => ?_
 have S1' : St w0 w1 (fq pb (pkC p).toArray T.a :: lg q hb m L dn :: fy hb D :: R) := S1
 simp
 have S2 := vp S1'
 generalize w1.heap.size = tb at *
 generalize w1.alloc _ = w2 at *
 unfold M.n.j0
 simp [fun K => uj S2.swap K]
 have hp2 : sk w2 p ls lm lu := hp w2 (fq tb (pkC pkZ).toArray T.a :: fq pb (pkC p).toArray T.a :: lg q hb m L dn :: fy hb D :: []) S2
 have noW : ∀ (t : Value) (k : Int) (w3 : World), pd p ls lm lu = false → (∀ w' K', taT P t T.an T.j true w' K' = K' (.tuple #[.agg #[.int .u64 0, .int .u64 0, .int .u64 0, .int .i64 0], .bool false]) w') → St w0 w3 (fq tb (pkC pkZ).toArray T.a :: fq pb (pkC p).toArray T.a :: lg q hb m L dn :: fy hb D :: R) → True := fun _ _ _ _ _ _ => trivial
 refine azg hp2 hr (fun hre w3 t ht f3 => ?_) (fun hre w3 f3 => ?_)
 ·have S3 := S2.iq f3
  by_cases hk : p.fu = 4 ∨ p.fu = 6
  ·have hae : pd p ls lm lu = true := by unfold pd; rw [hre]; simpa using hk
   obtain ⟨_, htr, hbn⟩ := aho hae hr
   rw [ht.bft hk]
   unfold agc atb
   simp [aqq]
   have S4 : St w0 (w3.alloc (.cells #[.int .u64 0, .int .u64 0, .int .u64 0, .int .i64 0] T.j)) (fq w3.heap.size #[.int .u64 0, .int .u64 0, .int .u64 0, .int .i64 0] T.j :: _) := S3.mkB #[.int .u64 0, .int .u64 0, .int .u64 0, .int .i64 0] T.j
   generalize w3.heap.size = ab at *
   generalize w3.alloc _ = w4 at *
   refine St.put (cs' := #[.int .u64 p.tr, .int .u64 p.b.n, .int .u64 p.b.fo, .int .i64 p.v]) (vs := [.int .u64 p.tr, .int .u64 p.b.n, .int .u64 p.b.fo, .int .i64 p.v]) S4 (by simp) (by simp) rfl fun w5 S5 => ?_
   have S5' : St w0 w5 (hdL ab tb pb q hb p m L dn D R) := S5
   have Sr : St w0 w5 (lg q hb m L dn :: fq ab #[.int .u64 p.tr, .int .u64 p.b.n, .int .u64 p.b.fo, .int .i64 p.v] T.j :: fq tb (pkC pkZ).toArray T.a :: fq pb (pkC p).toArray T.a :: fy hb D :: R) := St.up3 S5
   obtain ⟨lp, rp, mm, hm, Su⟩ := aji Sr
   obtain ⟨c0, _, _, c3⟩ := qd Su
   have outDn : (dn || D.gh) = true → stN P tb 0 [.int .i64 0, .int .u64 0, .int .u64 0, .int .u64 0, .int .u64 0, .int .u64 0, .int .i64 0, .bool false, .slice none 0 0, .slice none 0 0, .slice none 0 0] w5 fun _ w => og P T.a (.pointer (some ⟨tb, 0, none⟩)) w fun r0 w' => w' = w ∧ K (.tuple #[r0, .int .i64 10]) w := fun hd =>
    aue (R2 := []) S5'.swap fun w' S' => hdn hae hd w' S'.drop.drop
   cases dn with
   | true =>
    have od := outDn rfl
    simp [c3]
    exact od
   | false =>
    simp [c3, c0]
    refine ako (St.up4 S5') ?_
    cases hd : D.gh with
    | true =>
     have od := outDn (by simp [hd])
     simp
     exact od
    | false =>
     simp
     obtain ⟨F0, I⟩ := hG rfl hd
     have hlu : ∀ {w' : World} {L' : List Asn}, St w0 w' (jz rp .u64 mm :: L') → ∀ K, luT P T.p (.map (some rp)) (.int .u64 p.tr) false w' K = K (li (kz m p.tr)) w' := fun {w' L'} S' K => by
      rw [abi mt.p (xx S').1, hm p.tr]
      congr 1
      unfold kz
      cases lk m p.tr <;> rfl
     unfold M.n.j1
     have T1 := Su.iq ((Fr.refl _ w5).dr 1)
     obtain ⟨_, _, c2, _⟩ := qd T1
     obtain ⟨a0, _, _⟩ := tz (St.up3 T1)
     simp only [qe] at c2 a0
     have l1 := hlu T1.swap
     simp [c2, a0, l1]
     have T2 := ym T1 T.f
     rw [show (Eng.dr w5 1).heap.size = w5.heap.size from rfl] at T2
     generalize w5.heap.size = gb at *
     generalize (Eng.dr w5 1).alloc _ = w6 at *
     obtain ⟨_, _, c2, _⟩ := qd T2.swap
     obtain ⟨a0, _, _⟩ := tz (St.up4 T2)
     have l2 := hlu T2.up2
     simp [c2, a0, l2]
     unfold li
     simp
     refine uf (r' := kz m p.tr) T2 fun w7 T3 => ?_
     obtain ⟨_, _, _, g7⟩ := jn T3
     obtain ⟨_, b7, _⟩ := tz (St.up4 T3)
     simp [g7, b7]
     refine bdb _ _ fun w8 f8 => ?_
     have T4 := T3.iq f8
     simp
     have T5 := ym T4 T.f
     generalize w8.heap.size = nb at *
     generalize w8.alloc _ = w9 at *
     unfold li
     simp
     refine uf (r' := ((kz m p.tr).nl p.b).1) T5 fun w10 T6 => ?_
     have Tp : St w0 w10 (fq pb (pkC p).toArray T.a :: fq nb (rgC ((kz m p.tr).nl p.b).1) T.f :: fq gb (rgC (kz m p.tr)) T.f :: fq q (nf hb lp rp false) T.m :: jz rp .u64 mm :: kr lp hb L :: fq ab #[.int .u64 p.tr, .int .u64 p.b.n, .int .u64 p.b.fo, .int .i64 p.v] T.j :: fq tb (pkC pkZ).toArray T.a :: fy hb D :: R) := T6.perm (List.perm_middle (l₁ := [_, _, _, _, _, _, _]))
     obtain ⟨k0, _⟩ := km Tp
     simp [k0]
     have hokE : okE (p.tr, (jb m (decide (p.fu = 6)) p.tr p.b p.v).1) := aie I.ok hr.tr htr hr.b
     have fin : ∀ (x1 : List Value) w', St w0 w' (fq nb (rgC (jb m (decide (p.fu = 6)) p.tr p.b p.v).1) T.f :: fq gb (rgC (kz m p.tr)) T.f :: fq q (nf hb lp rp false) T.m :: jz rp .u64 mm :: kr lp hb L :: fq ab #[.int .u64 p.tr, .int .u64 p.b.n, .int .u64 p.b.fo, .int .i64 p.v] T.j :: fq tb (pkC pkZ).toArray T.a :: fq pb (pkC p).toArray T.a :: fy hb D :: R) →
       M.n.j2 (.pointer (some ⟨nb, 0, none⟩)) (.pointer (some ⟨gb, 0, none⟩)) (.pointer (some ⟨ab, 0, none⟩)) (.pointer (some ⟨q, 0, none⟩)) (.pointer (some ⟨tb, 0, none⟩)) x1 [.bool (jb m (decide (p.fu = 6)) p.tr p.b p.v).2] (.bool (decide (p.fu = 6))) w' K := by
      have hsame' := hsame hae rfl hd
      have hbad' := hbad hae rfl hd
      have hok' := hok hae rfl hd
      clear hno hdn hsame hbad hok outDn
      intro x1 w' S'
      generalize (jb m (decide (p.fu = 6)) p.tr p.b p.v).1 = r1 at *
      generalize (jb m (decide (p.fu = 6)) p.tr p.b p.v).2 = ok1 at *
      generalize decide (p.fu = 6) = tk at *
      -- what it answers at its end
      have ans : ∀ w2 (L2 : List Asn), St w0 w2 (fq nb (rgC r1) T.f :: fq ab #[.int .u64 p.tr, .int .u64 p.b.n, .int .u64 p.b.fo, .int .i64 p.v] T.j :: fq tb (pkC pkZ).toArray T.a :: L2) → (∀ w3, St w0 w3 L2 → K (.tuple #[pkA (abr r1 p.tr p.b ok1 tk), .int .i64 0]) w3) →
        M.n.j3 (.pointer (some ⟨nb, 0, none⟩)) (.pointer (some ⟨ab, 0, none⟩)) [.bool ok1] (.bool tk) (.pointer (some ⟨tb, 0, none⟩)) w2 K := fun w2 L2 S2 hK => by
       obtain ⟨_, _, _, rl⟩ := jn S2
       obtain ⟨a0, b0, _⟩ := tz S2.swap
       unfold M.n.j3
       simp [rl, a0, b0]
       refine axc _ _ _ _ _ fun w3 f3 => ?_
       rw [xj]
       exact acw (S2.iq f3).up2 rfl (un _ _ _ _ _ _) (K := fun r0 w => K (.tuple #[r0, .int .i64 0]) w) fun w4 S4 => hK w4 S4.drop.drop.drop
      obtain ⟨_, _, _, n1⟩ := jn S'
      obtain ⟨_, _, _, g1⟩ := jn S'.swap
      have Z1 := ajv hm (St.up4 (St.up4 (St.up4 S')))
      have Z2 := (St.up4 (St.up2 Z1).drop).drop
      unfold M.n.j2
      simp [n1, g1, bfd]
      by_cases hne : r1 = kz m p.tr
      ·simp [hne]
       exact ans w' _ (St.dn3 Z2) fun w3 S3 => hsame' hne w3 S3
      ·simp [hne]
       obtain ⟨a0, _, _⟩ := tz Z2.up2
       obtain ⟨_, _, _, n2⟩ := jn Z2.swap
       simp [a0, n2]
       have hv : 0 ≤ r1.v ∧ r1.v ≤ 3 := by
        have := hokE.2.2.2
        simp only at this
        unfold Rg.right at this
        split at this
        ·simp at this; omega
        ·simp [mu] at this; omega
       refine bcc Z2 p.tr hv fun w2 v2 Z3 => ?_
       obtain ⟨sv, hsv⟩ := aiu Z3
       subst hsv
       refine aoi Z3 fun w3 sl Z4 => ?_
       refine azn (St.up2 (up5 Z4)) I.afy (fun b hb => by rw [List.mem_singleton.1 hb, adz]; omega) (by simpa using hf) (by simp) fun w4 Z5 => ?_
       have hwe : wrF L D [ly p.tr r1] = nk L D p.tr r1 := rfl
       rw [hwe] at Z5 ⊢
       by_cases h0 : (nk L D p.tr r1).2 = 0
       ·have hk := hok' hne h0
        rw [h0] at Z5
        rw [h0]
        simp
        unfold M.n.j4
        obtain ⟨lp2, rp2, mm2, hm2, Y1⟩ := aji Z5
        have Y2 := Y1.iq ((Fr.refl _ w4).dr 1)
        obtain ⟨_, _, e2, _⟩ := qd Y2
        have Y3 : St w0 (Eng.dr w4 1) (fq nb (rgC r1) T.f :: fq q _ T.m :: jz rp2 .u64 mm2 :: kr lp2 hb _ :: fy hb _ :: _) := St.up4 Y2
        obtain ⟨_, _, _, n3⟩ := jn Y3
        obtain ⟨a3, _, _⟩ := tz (up5 Y2)
        simp only [qe] at e2 a3
        simp [e2, a3, n3]
        refine amv mt.p (xx Y2.swap).1 p.tr _ _ fun ob hob => ?_
        have Y4 := ajv (apt hm2 I.asc p.tr r1) (apn Y2.swap hob).swap
        refine ans _ _ (St.up4 (St.up4 (St.up4 Y4))) fun w6 Y6 => ?_
        exact hk w6 Y6
       ·have hb' := hbad' hne h0
        simp [h0]
        refine aue (R2 := []) (St.up4 Z5) fun w5 Y1 => ?_
        refine hb' w5 ?_
        have Y2 := (St.up2 (St.up2 Y1).drop).drop
        simpa using Y2
     by_cases h6 : p.fu = 6
     ·obtain ⟨_, _, _, g10⟩ := jn T6.swap
      obtain ⟨_, b10, v10⟩ := tz (up5 T6)
      have e1 : (jb m (decide (p.fu = 6)) p.tr p.b p.v) = (kz m p.tr).acc p.b p.v := by unfold jb; simp [h6]
      rw [e1] at fin
      simp only [h6, decide_true] at fin
      simp [h6, g10, b10, v10]
      refine bep _ _ _ fun w11 f11 => ?_
      have T7 := T6.iq f11
      simp
      unfold li
      simp
      refine uf (r' := ((kz m p.tr).acc p.b p.v).1) T7 fun w12 T8 => ?_
      exact fin _ w12 T8
     ·simp [h6]
      have e1 : (jb m (decide (p.fu = 6)) p.tr p.b p.v) = (kz m p.tr).nl p.b := by unfold jb; simp [h6]
      rw [e1] at fin
      have := fin
      simp only [h6, decide_false] at this
      exact this _ w10 T6
  ·have hae : pd p ls lm lu = false := by
    unfold pd
    have : (decide (p.fu = 4) || decide (p.fu = 6)) = false := by simpa using hk
    rw [this]; rfl
   simp [ht.bfn hk]
   have S4 := S3.mkB #[.int .u64 0, .int .u64 0, .int .u64 0, .int .i64 0] T.j
   generalize w3.heap.size = ab at *
   generalize w3.alloc _ = w4 at *
   refine St.put (cs' := #[.int .u64 0, .int .u64 0, .int .u64 0, .int .i64 0]) (vs := [.int .u64 0, .int .u64 0, .int .u64 0, .int .i64 0]) S4 (by simp) (by simp) rfl fun w5 S5 => ?_
   exact aue (R2 := []) S5.swap fun w' S' => hno hae w' S'.drop.drop
 ·have hae : pd p ls lm lu = false := by unfold pd; rw [hre, Bool.and_false]
  have S3 := S2.iq f3
  simp [aik]
  have S4 := S3.mkB #[.int .u64 0, .int .u64 0, .int .u64 0, .int .i64 0] T.j
  generalize w3.heap.size = ab at *
  generalize w3.alloc _ = w4 at *
  refine St.put (cs' := #[.int .u64 0, .int .u64 0, .int .u64 0, .int .i64 0]) (vs := [.int .u64 0, .int .u64 0, .int .u64 0, .int .i64 0]) S4 (by simp) (by simp) rfl fun w5 S5 => ?_
  exact aue (R2 := []) S5.swap fun w' S' => hno hae w' S'.drop.drop
end
set_option maxRecDepth 100000
open Go.Eng Go.Proofs.YtfnhoaemapheoaaGreat.Sint
inductive WrR (s f : Int) (L : Lg) (G : Nat) (D : Dk) (ft : List (List Int)) : (Lg × Dk) × Int → Prop
 | ok (L' : Lg) (D' : Dk) : oh s f L' (ge L'.fl).length D' → ge L'.fl = ge L.fl ++ ft → L'.gg = L.gg → D'.gq = D.gq → (D.ie = false → D'.ie = false) → WrR s f L G D ft ((L', D'), 0)
 | sw (i : Nat) (L' : Lg) (D' : Dk) : i < ft.length → oh s f L' G D' → ge L'.fl = ge L.fl ++ ft.take i → L'.gg = L.gg → D'.gq = D.gq → (D.ie = false → D'.ie = false) → WrR s f L G D ft ((L', D'), 9)
 | gh (i : Nat) (L' : Lg) (D' : Dk) (Q : List Prt) : D.ie = true → L'.gg = L.gg → L'.fl.length ≤ 63 → D'.gh = true → Vir s f Q G D' False → ge Q = ge L.fl ++ ft.take i → D'.gq = D.gq → f + (ge L'.fl).length ≤ f + (ge L.fl).length + ft.length → WrR s f L G D ft ((L', D'), 10)
theorem bbs {s f : Int} {L : Lg} {G : Nat} {D : Dk} {ft : List (List Int)} (g : oh s f L G D) (hl : ∀ b ∈ ft, b.length ≤ 8192) (hn : f + (ge L.fl).length + ft.length ≤ 1000000000000) : WrR s f L G D ft (wrF L D ft) := by
 have ha := bee ft g hl hn
 unfold wrF
 generalize px L D ft = z at *
 cases ha with
 | ok L' D' g' e1 e2 e3 e4 =>
  obtain ⟨y1, y2, y3, y4, _, y6, _⟩ := amm g'.vir g'.up
  rw [if_pos rfl, y1]
  exact .ok L' _ ⟨y2, g'.size, y3⟩ e1 e2 (by rw [y6, e3]) fun h => by rw [y4]; exact e4 h
 | sw i L' D' hi g' e1 e2 e3 e4 =>
  rw [if_neg (by simp)]
  exact .sw i L' D' hi g' e1 e2 e3 e4
 | gh i j L' D0 D' Q b1 b2 b3 b4 b5 b6 b7 b8 =>
  rw [if_neg (by simp)]
  refine .gh i L' D' Q b1 b4 b2.vir.len b5 b6 b7 b8 ?_
  rw [b3, List.length_append, List.length_take]
  omega
section
variable {w0 w : World} {R : List Asn} {q hb : Nat} {m : jc} {L : Lg} {dn : Bool} {D : Dk} {s f : Int}
end
set_option maxRecDepth 100000
open Go.Eng Go.Proofs.YtfnhoaemapheoaaGreat.Sint
def agu (m : jc) (p : Pk) (ls : List Spn) (lm : List Mem) (lu : List Int) : jc := if pd p ls lm lu = true then sy m (decide (p.fu = 6)) p.tr p.b p.v else m
def um (m : jc) (p : Pk) (ls : List Spn) (lm : List Mem) (lu : List Int) : Pk := if pd p ls lm lu = true then abr (jb m (decide (p.fu = 6)) p.tr p.b p.v).1 p.tr p.b (jb m (decide (p.fu = 6)) p.tr p.b p.v).2 (decide (p.fu = 6)) else pkZ
section
variable {w0 w : World} {R : List Asn} {v : Value} {m : jc} {p : Pk} {ls : List Spn} {lm : List Mem} {lu : List Int}
end
set_option maxRecDepth 100000
open Go.Eng Go.Proofs.YtfnhoaemapheoaaGreat.Sint
section
variable {w0 w : World} {R : List Asn} {q hb : Nat} {m : jc} {L : Lg} {dn : Bool}
end
set_option maxRecDepth 100000
open Go.Eng Go.Proofs.YtfnhoaemapheoaaGreat.Sint
section
variable {w0 w : World} {R : List Asn} {p hb : Nat} {v : Value} {L : Lg} {D : Dk} {s f : Int} {G : Nat} {l : List PB} {ls : List (List Int)} {vs : List SV}
end
set_option maxRecDepth 100000
open Go.Eng Go.Proofs.YtfnhoaemapheoaaGreat.Sint
def Cut (ds : List (List Int)) (F : Nat) (m1 m2 : jc) : Prop := ∀ j, F ≤ (ds.take j).length → lr (ds.take j) = m1 ∨ lr (ds.take j) = m2
theorem agi {ds : List (List Int)} {F : Nat} {m : jc} (h : wx ds F m) : Cut ds F m m := fun j hj => .inl (aac h hj)
theorem axz {ds : List (List Int)} {F : Nat} {m : jc} {p : Int × Rg} (h : wx ds F m) (hF : F ≤ ds.length) (hp : okE p) : Cut (ds ++ [ly p.1 p.2]) F m (oe m p.1 p.2) := fun j hj => aqi h hF hp hj
theorem bdf {ds : List (List Int)} {F : Nat} {m : jc} (p : jc) (h : wx ds F m) : Cut ds F m p := fun j hj => .inl (aac h hj)
theorem ahr (gq gg : Int) : oh 0 0 ⟨gg, []⟩ 0 ⟨gq, 0, false, false, []⟩ :=
 ⟨⟨trivial, by omega, by omega, by simp, by simp [ge], .inl ⟨rfl, rfl, rfl⟩, fun _ => ⟨rfl, rfl⟩, fun q h => by simp at h⟩, fun q h => by simp at h, rfl⟩
theorem aiq (gq gg : Int) : RI 0 0 ⟨gg, []⟩ 0 ⟨gq, 0, false, false, []⟩ [] :=
 ⟨ahr gq gg, fun d hd => by simp [ge] at hd, fun j _ => by simp [ge, lr], Nat.zero_le _⟩
section
variable {w0 w : World} {R : List Asn} {q hb : Nat} {m m1 m2 : jc} {L : Lg} {D : Dk} {G : Nat} {s f : Int} {Q : List Prt} {x : Prop} {gg : Int}
theorem abc (S : St w0 w (fy hb D :: R)) (hv : Vir s f Q G D x) (hd : D.gh = false) (hm : 64 ≤ gg ∧ gg ≤ 1048576) (hr : yz (ge Q)) (hc : Cut (ge Q) G m1 m2) {K : KV}
  (h : ∀ w' q m' s' f' L' D', (m' = m1 ∨ m' = m2) → RI s' f' L' (ge L'.fl).length D' m' → L'.gg = gg → f' + (ge L'.fl).length ≤ f + (ge Q).length → D'.ie = D.ie → D'.gq = D.gq → (x → L'.fl = Q) → (ge L'.fl).length ≤ (ge Q).length → St w0 w' (lg q hb m' L' false :: fy hb D' :: R) → K (.tuple #[iz q, .int .i64 0]) w') : ey P F.bs [.pointer (some ⟨hb, 0, none⟩), .int .i64 gg] w K := by
 obtain ⟨s', f', Q', D', eo, g, e2, e3, ⟨j, e4⟩, e5, _, e6, _, _, e7⟩ := bfa hv hd hm
 obtain ⟨y1, y2, y3, y4, _, y6, _⟩ := amm g.vir g.up
 have hr' : yz (ge Q') := by rw [e4]; exact avp hr j
 refine ayt S (by omega) eo g y1 hr' fun w2 q S2 => ?_
 have hl : (ge Q').length ≤ (ge Q).length := by rw [e4]; exact List.length_take_le' _ _
 have hcm : lr (ge Q') = m1 ∨ lr (ge Q') = m2 := by rw [e4]; exact hc j (by rw [← e4]; exact e5)
 exact h w2 q (lr (ge Q')) s' f' ⟨gg, Q'⟩ _ hcm ⟨⟨y2, g.size, y3⟩, hr', afz _, Nat.le_refl _⟩ rfl (by show f' + ((ge Q').length : Int) ≤ _; omega) (by rw [y4, e2]) (by rw [y6, e3]) (fun hx => (e6 hx).2.1) hl S2
inductive akg (s f : Int) (gg : Int) (B : Int) (arm : Bool) (gq : Int) (m1 m2 : jc) : Int → jc → Bool → Lg → Dk → Prop
 | ok (F : Nat) (L : Lg) (D : Dk) (s' f' : Int) : RI s' f' L F D m2 → L.gg = gg → f' + (ge L.fl).length ≤ B → (arm = false → D.ie = false) → D.gq = gq → akg s f gg B arm gq m1 m2 0 m2 false L D
 | sw (F : Nat) (L : Lg) (D : Dk) : RI s f L F D m1 → L.gg = gg → f + (ge L.fl).length ≤ B → (arm = false → D.ie = false) → D.gq = gq → akg s f gg B arm gq m1 m2 9 m1 false L D
 | gh (F : Nat) (L : Lg) (D : Dk) (Q : List Prt) : arm = true → D.gh = true → Vir s f Q F D False → yz (ge Q) → Cut (ge Q) F m1 m2 → f + (ge Q).length ≤ B → D.gq = gq → L.gg = gg → f + (ge L.fl).length ≤ B → akg s f gg B arm gq m1 m2 10 m1 true L D
variable {p : Pk} {ls : List Spn} {lm : List Mem} {lu : List Int} {F0 : Nat}
theorem adq {B : Int} {k : Int × Rg} (I : RI s f L F0 D m) (hp : okE k) (hB : f + (ge L.fl).length + 1 ≤ B) (hB2 : B ≤ 1000000000000) :
  ((nk L D k.1 k.2).2 = 0 → akg s f L.gg B D.ie D.gq m (oe m k.1 k.2) 0 (oe m k.1 k.2) false (nk L D k.1 k.2).1.1 (nk L D k.1 k.2).1.2) ∧ ((nk L D k.1 k.2).2 ≠ 0 → akg s f L.gg B D.ie D.gq m (oe m k.1 k.2) (nk L D k.1 k.2).2 m (decide ((nk L D k.1 k.2).2 = 10)) (nk L D k.1 k.2).1.1 (nk L D k.1 k.2).1.2) := by
 have hw : WrR s f L F0 D [ly k.1 k.2] (nk L D k.1 k.2) := bbs I.afy (fun b hb => by rw [List.mem_singleton.1 hb, adz]; omega) (by simp; omega)
 have hsnoc : ∀ {ds : List (List Int)}, yz ds → yz (ds ++ [ly k.1 k.2]) := fun {ds} hr d hd => by
  rcases List.mem_append.1 hd with hd | hd
  ·exact hr d hd
  ·exact ⟨k, hp, List.mem_singleton.1 hd⟩
 generalize nk L D k.1 k.2 = z at *
 cases hw with
 | ok L' D' g e1 e2 e3 e4 =>
  refine ⟨fun _ => .ok _ L' D' s f ⟨g, by rw [e1]; exact hsnoc I.ft, ?_, Nat.le_refl _⟩ e2 (by rw [e1, List.length_append, List.length_singleton]; omega) e4 e3, fun h => by simp at h⟩
  have : oe m k.1 k.2 = lr (ge L'.fl) := by rw [e1, afr hp.1 hp.2.1 hp.2.2.1 hp.2.2.2, I.azw]
  rw [this]
  exact afz _
 | sw i L' D' hi g e1 e2 e3 e4 =>
  refine ⟨fun h => by simp at h, fun _ => ?_⟩
  have hi0 : i = 0 := by simpa using hi
  rw [hi0, List.take_zero, List.append_nil] at e1
  exact .sw F0 L' D' ⟨g, by rw [e1]; exact I.ft, by rw [e1]; exact I.set, by rw [e1]; exact I.le⟩ e2 (by rw [e1]; omega) e4 e3
 | gh i L' D' Q b1 b2 b3 b4 b5 b6 b7 b8 =>
  refine ⟨fun h => by simp at h, fun _ => ?_⟩
  have hQ : Cut (ge Q) F0 m (oe m k.1 k.2) ∧ yz (ge Q) := by
   cases i with
   | zero => rw [b6, List.take_zero, List.append_nil]; exact ⟨bdf _ I.set, I.ft⟩
   | succ i => rw [b6, List.take_of_length_le (by simp)]; exact ⟨axz I.set I.le hp, hsnoc I.ft⟩
  exact .gh F0 L' D' Q b1 b4 b5 hQ.2 hQ.1 (by rw [b6, List.length_append, List.length_take, List.length_singleton]; omega) b7 b2 (by simp at b8; omega)
theorem ayi {B : Int} (S : St w0 w (lg q hb m L false :: fy hb D :: R)) (hp : sk w0 p ls lm lu) (hr : vn p) (I : RI s f L F0 D m) (hB : f + (ge L.fl).length + 1 ≤ B) (hB2 : B ≤ 1000000000000) {K : KV}
  (hno : pd p ls lm lu = false → ∀ w', St w0 w' (lg q hb m L false :: fy hb D :: R) → K (.tuple #[pkA pkZ, .int .i64 6]) w')
  (hl : pd p ls lm lu = true → ∀ w' e m' dn' L' D', akg s f L.gg B D.ie D.gq m (sy m (decide (p.fu = 6)) p.tr p.b p.v) e m' dn' L' D' → St w0 w' (lg q hb m' L' dn' :: fy hb D' :: R) → K (.tuple #[pkA (if e = 0 then um m p ls lm lu else pkZ), .int .i64 e]) w') :
  ey P F.i [iz q, pkA p] w K := by
 have up : D.gh = false := I.afy.up
 have hfin : ∀ (hae : pd p ls lm lu = true), okE (p.tr, (jb m (decide (p.fu = 6)) p.tr p.b p.v).1) := fun hae => by
  obtain ⟨_, htr, _⟩ := aho hae hr
  exact aie I.ok hr.tr htr hr.b
 refine ash S (fun w' R' S' => hp.fr S'.fr) hr (fun _ _ => ⟨F0, I⟩) (by omega) hno (fun _ hd => by rw [up] at hd; cases hd) (fun hae _ _ he w' S' => ?_) (fun hae _ _ hne h0 w' S' => ?_) fun hae _ _ hne h0 w' S' => ?_
 ·have hM := adt (m := m) (ji := decide (p.fu = 6)) (tr := p.tr) (b := p.b) (v := p.v) I.asc
  rw [if_pos he] at hM
  have := hl hae w' 0 m false L D (by rw [hM]; exact .ok F0 L D s f I rfl (by omega) id rfl) S'
  unfold um at this
  rw [if_pos rfl, if_pos hae] at this
  exact this
 ·have hM := adt (m := m) (ji := decide (p.fu = 6)) (tr := p.tr) (b := p.b) (v := p.v) I.asc
  rw [if_neg hne] at hM
  have := hl hae w' _ m _ _ _ (by rw [hM]; exact (adq I (hfin hae) hB hB2).2 h0) S'
  rw [if_neg h0] at this
  exact this
 ·have hM := adt (m := m) (ji := decide (p.fu = 6)) (tr := p.tr) (b := p.b) (v := p.v) I.asc
  rw [if_neg hne] at hM
  have := hl hae w' 0 _ false _ _ (by rw [hM]; exact (adq I (hfin hae) hB hB2).1 h0) S'
  unfold um at this
  rw [if_pos rfl, if_pos hae] at this
  exact this
end
set_option maxRecDepth 100000
open Go.Eng Go.Proofs.YtfnhoaemapheoaaGreat.Sint
theorem ata {s f : Int} {L : Lg} {G : Nat} {D : Dk} (g : oh s f L G D) (h : L.fl = []) : D.gk = 0 := by
 rcases g.vir.dsc with ⟨_, hf, _⟩ | ⟨Q0, q, _, _, _, hq, _⟩
 ·unfold Dk.gk; rw [hf]; rfl
 ·rw [h] at hq; simp at hq
theorem baq {s f : Int} {L : Lg} {G : Nat} {D : Dk} {k : Int} {r : Rg} (g : oh s f L G D) (hn : f + (ge L.fl).length + 1 ≤ 1000000000000) (h1 : L.fl.length < 63) (h2 : D.ie = false) (h3 : (D.gk : Int) + 65 ≤ D.gq) : (nk L D k r).2 = 0 := by
 have ha := ayl (b := ly k r) g hn
 have hb := adz k r
 unfold nk
 have h0 : (L.append D (ly k r)).2 = 0 := by
  generalize L.append D (ly k r) = z at *
  cases ha with
  | ajc hx => omega
  | sw D' hx _ _ _ => rcases hx with hx | hx <;> omega
  | gh D' Q hx => rw [h2] at hx; cases hx
  | ok => rfl
 rw [aop h0]
 generalize L.append D (ly k r) = z at *
 cases ha with
 | ajc hx => simp at h0
 | sw => simp at h0
 | gh => simp at h0
 | ok L' D' g' =>
  have e0 : wrF L' D' [] = ((L', (L'.lf D').1), (L'.lf D').2) := by unfold wrF px; simp
  rw [e0]
  exact (amm g'.vir g'.up).1
section
variable {w0 w : World} {R : List Asn} {q hb : Nat} {m : jc} {L : Lg} {D : Dk} {s f : Int} {p : Pk} {ls : List Spn} {lm : List Mem} {lu : List Int} {F0 : Nat}
theorem awp {B : Int} (S : St w0 w (lg q hb m L false :: fy hb D :: R)) (hp : sk w0 p ls lm lu) (hr : vn p) (I : RI s f L F0 D m) (hB : f + (ge L.fl).length + 1 ≤ B) (hB2 : B ≤ 1000000000000) (hae : pd p ls lm lu = true) (h1 : L.fl.length < 63) (h2 : D.ie = false) (h3 : (D.gk : Int) + 65 ≤ D.gq) {K : KV}
  (hl : ∀ w' s' f' F' L' D', RI s' f' L' F' D' (sy m (decide (p.fu = 6)) p.tr p.b p.v) → L'.gg = L.gg → f' + (ge L'.fl).length ≤ B → D'.ie = false → D'.gq = D.gq → St w0 w' (lg q hb (sy m (decide (p.fu = 6)) p.tr p.b p.v) L' false :: fy hb D' :: R) → K (.tuple #[pkA (um m p ls lm lu), .int .i64 0]) w') :
  ey P F.i [iz q, pkA p] w K := by
 have up : D.gh = false := I.afy.up
 obtain ⟨_, htr, _⟩ := aho hae hr
 have hok : okE (p.tr, (jb m (decide (p.fu = 6)) p.tr p.b p.v).1) := aie I.ok hr.tr htr hr.b
 have hM := adt (m := m) (ji := decide (p.fu = 6)) (tr := p.tr) (b := p.b) (v := p.v) I.asc
 have hPk : um m p ls lm lu = abr (jb m (decide (p.fu = 6)) p.tr p.b p.v).1 p.tr p.b (jb m (decide (p.fu = 6)) p.tr p.b p.v).2 (decide (p.fu = 6)) := by unfold um; rw [if_pos hae]
 rw [hPk] at hl
 have hw0 : ∀ r, (nk L D p.tr r).2 = 0 := fun r => baq I.afy (by omega) h1 h2 h3
 refine ash S (fun w' R' S' => hp.fr S'.fr) hr (fun _ _ => ⟨F0, I⟩) (by omega) (fun he => by rw [hae] at he; cases he) (fun _ hd => by rw [up] at hd; cases hd) (fun _ _ _ he w' S' => ?_) (fun _ _ _ hne h0 => absurd (hw0 _) h0) fun _ _ _ hne h0 w' S' => ?_
 ·rw [if_pos he] at hM
  rw [hM] at hl
  exact hl w' s f F0 L D I rfl (by omega) h2 rfl S'
 ·rw [if_neg hne] at hM
  rw [hM] at hl
  have hL := (adq I hok hB hB2).1 h0
  simp only at hL
  generalize (nk L D p.tr (jb m (decide (p.fu = 6)) p.tr p.b p.v).1).1 = z at *
  cases hL with
  | ok F1 _ _ s' f' I' e1 e2 e3 e4 => exact hl w' s' f' F1 _ _ I' e1 e2 (e3 h2) e4 S'
end
theorem bci {w : World} {K : KV} (h : ∀ w', Fr (fun _ => False) w w' → K (.bool true) w') : ey P F.bj [] w K := by
 rw [M.bq.fcall]
 apply M.bq.calls
 unfold M.bq
 refine art (St.jy w) 10000 (fun h => by omega) fun _ _ w1 hb S1 => ?_
 simp
 refine abc (m1 := []) (m2 := []) S1 (ahr 10000 256).vir rfl (by omega) (aiq 10000 256).ft (agi (aiq 10000 256).set) fun w2 q m' s f L D hm I hmost hfl harm hroom hx _ S2 => ?_
 have hm' : m' = [] := by rcases hm with h | h <;> exact h
 subst hm'
 have hp0 : L.fl = [] := hx trivial
 simp only [iz]
 simp
 unfold M.bq.j0
 simp
 have S3 : St w (w2.alloc (.cells #[.int .u64 0, .int .u64 0] T.c)) (fq w2.heap.size #[.int .u64 0, .int .u64 0] T.c :: _) := S2.mkB #[.int .u64 0, .int .u64 0] T.c
 generalize w2.heap.size = bb at *
 generalize w2.alloc _ = w3 at *
 refine St.put (cs' := #[.int .u64 3, .int .u64 1]) (vs := [.int .u64 3, .int .u64 1]) S3 (by simp) (by simp) rfl fun w4 S4 => ?_
 have bl : ∀ {w' : World} {L' : List Asn}, St w w' (fq bb #[.int .u64 3, .int .u64 1] T.c :: L') → ∀ K, ldN P 2 bb 0 w' K = K (jm ⟨3, 1⟩) w' := fun S' K => S'.ldA [.int .u64 3, .int .u64 1] rfl rfl K
 rw [bl S4]
 unfold jm
 simp
 have ep : Value.agg #[.int .i64 4, .int .u64 5, .int .u64 3, .int .u64 1, .int .u64 0, .int .u64 0, .int .i64 0, .bool false, .slice none 0 0, .slice none 0 0, .slice none 0 0] = pkA (pk0 4 5 ⟨3, 1⟩ gy 0 false) := rfl
 rw [ep]
 have hae : pd (pk0 4 5 ⟨3, 1⟩ gy 0 false) [] [] [] = true := by decide
 have hrng : vn (pk0 4 5 ⟨3, 1⟩ gy 0 false) := ⟨⟨by decide, by decide⟩, ⟨⟨by decide, by decide⟩, by decide, by decide⟩, ⟨by decide, by decide⟩, by decide, by decide⟩
 have hM : sy [] (decide ((pk0 4 5 ⟨3, 1⟩ gy 0 false).fu = 6)) (pk0 4 5 ⟨3, 1⟩ gy 0 false).tr (pk0 4 5 ⟨3, 1⟩ gy 0 false).b (pk0 4 5 ⟨3, 1⟩ gy 0 false).v = [(5, ⟨⟨3, 1⟩, gy, 0⟩)] := by rfl
 have hP : um [] (pk0 4 5 ⟨3, 1⟩ gy 0 false) [] [] [] = pk0 5 5 ⟨3, 1⟩ gy 0 true := by rfl
 have hu : D.gk = 0 := ata I.afy hp0
 refine awp (B := 1) (St.dn2 S4) (aff _ _ _ _ _ _ _) hrng I (by rw [hp0] at hfl ⊢; simp [ge] at hfl ⊢; omega) (by omega) hae (by rw [hp0]; simp) harm (by rw [hu, hroom]; simp) fun w5 s2 f2 F2 L2 D2 I2 hm2 hb2 ha2 hr2 S5 => ?_
 rw [hM] at I2 S5
 rw [hP]
 simp
 have S6 := vp S5
 generalize w5.heap.size = tb at *
 generalize w5.alloc _ = w6 at *
 unfold pkA pkC
 simp
 refine yg (q := pk0 5 5 ⟨3, 1⟩ gy 0 true) S6 rfl (un _ _ _ _ _ _) fun w7 S7 => ?_
 refine aqj (kl := []) S7.up2 (fun _ _ _ => Sl.nil) fun w8 S8 => ?_
 obtain ⟨c1, c2, c3, c4⟩ := awy I2.afy.vir []
 refine abc (m1 := [(5, ⟨⟨3, 1⟩, gy, 0⟩)]) (m2 := [(5, ⟨⟨3, 1⟩, gy, 0⟩)]) S8 c1 c2 (by omega) I2.ft (agi I2.set) fun w9 q2 m' s3 f3 L3 D3 hm3 I3 _ _ _ _ _ _ S9 => ?_
 have hm' : m' = [(5, ⟨⟨3, 1⟩, gy, 0⟩)] := by rcases hm3 with h | h <;> exact h
 subst hm'
 have Z := S9.iq ((Fr.refl _ w9).dr 1)
 obtain ⟨k0, _, _, _, _, k7, _⟩ := km Z.up2
 simp only [qe] at k0 k7
 have b9 := bl Z.up4
 simp [k0, k7, b9, pk0, iz]
 refine beb Z 5 fun w10 Z1 => ?_
 have e5 : kz [(5, (⟨⟨3, 1⟩, gy, 0⟩ : Rg))] 5 = ⟨⟨3, 1⟩, gy, 0⟩ := rfl
 rw [e5]
 have b10 := bl Z1.up4
 simp [b10, li]
 have eb : Value.agg #[.int .u64 3, .int .u64 1] = jm ⟨3, 1⟩ := rfl
 simp only [eb, ux]
 simp
 refine aux Z1 I3.asc (by simp) fun w11 tv Z2 => ?_
 have hl5 := fun w' K => (Z2.rd).ii (P := P) (t := T.h) (ty := T.b) (w := w') (by kernel_rfl) [false] (K := K)
 simp at hl5
 simp [hl5]
 exact h w11 Z2.fr
set_option maxRecDepth 100000
open Go.Eng Go.Proofs.YtfnhoaemapheoaaGreat.Sint
structure bgk where
 fu : Int
 n : Int
 p : Pk
 ls : List Spn
 lm : List Mem
 lu : List Int
 kv : Value
 ip : List Int
section
variable {w0 w w' : World} {R : List Asn} {v : Value} {l : List bgk}
end
set_option maxRecDepth 100000
open Go.Eng Go.Proofs.YtfnhoaemapheoaaGreat.Sint
theorem bas (l : jc) (k : Int) (r : Rg) : (oe l k r).length ≤ l.length + 1 := by
 induction l with
 | nil => simp [oe]
 | cons p t ih =>
  obtain ⟨x, y⟩ := p
  rw [oe]
  split
  ·simp; omega
  ·split <;> simp
theorem awa (m : jc) (ji : Bool) (tr : Int) (b : Bal) (v : Int) : (sy m ji tr b v).length ≤ m.length + 1 := by
 unfold sy
 split
 ·exact bas _ _ _
 ·omega
theorem bbq (m : jc) (p : Pk) (ls : List Spn) (lm : List Mem) (lu : List Int) : ∀ u ∈ pkC (um m p ls lm lu), jf u = true := by
 unfold um abr
 split <;> exact un _ _ _ _ _ _
theorem apk {w0 w : World} {q hb : Nat} {m : jc} {L : Lg} {D : Dk} {R : List Asn} {p : Pk} {ls : List Spn} {lm : List Mem} {lu : List Int} {s f : Int} {F0 : Nat} {B : Int} (S : St w0 w (lg q hb m L false :: fy hb D :: R)) (hp : sk w0 p ls lm lu) (hr : vn p) (I : RI s f L F0 D m) (hB : f + (ge L.fl).length + 1 ≤ B) (hB2 : B ≤ 1000000000000) (hda : D.ie = false) {K : KV}
  (h : ∀ w' A e m1 L1 D1 s1 f1 F1, (e = 9 ∧ pd p ls lm lu = true ∧ m1 = m ∧ A = pkZ) ∨ (e = (if pd p ls lm lu = true then 0 else 6) ∧ A = um m p ls lm lu ∧ m1 = agu m p ls lm lu) → RI s1 f1 L1 F1 D1 m1 → L1.gg = L.gg → f1 + (ge L1.fl).length ≤ B → D1.ie = false → m1.length ≤ m.length + 1 → St w0 w' (lg q hb m1 L1 false :: fy hb D1 :: R) → K (.tuple #[pkA A, .int .i64 e]) w') :
  ey P F.i [iz q, pkA p] w K := by
 refine ayi S hp hr I hB hB2 (fun hae w6 S6 => ?_) fun hae w6 e m1 dn L1 D1 hleft S6 => ?_
 ·exact h w6 pkZ 6 m L D s f F0 (.inr ⟨by rw [hae]; rfl, by unfold um; rw [hae]; rfl, by unfold agu; rw [hae]; rfl⟩) I rfl (by omega) hda (by omega) S6
 ·cases hleft with
  | ok F1 _ _ s1 f1 I1 hm1 hB1 ha1 hr1 => exact h w6 _ 0 _ L1 D1 s1 f1 F1 (.inr ⟨by rw [hae]; rfl, rfl, by unfold agu; rw [hae]; rfl⟩) I1 hm1 hB1 (ha1 hda) (awa _ _ _ _ _) S6
  | sw F1 _ _ I1 hm1 hB1 ha1 hr1 => exact h w6 pkZ 9 m L1 D1 s f F1 (.inl ⟨rfl, hae, rfl, rfl⟩) I1 hm1 hB1 (ha1 hda) (by omega) S6
  | gh _ _ _ _ ha => rw [hda] at ha; cases ha
section
variable {w0 w w' : World} {L X R : List Asn} {v v' : Value} {m m' : jc}
end
set_option maxRecDepth 100000
open Go.Eng Go.Proofs.YtfnhoaemapheoaaGreat.Sint
structure PkE where
 p : Pk
 ls : List Spn
 lm : List Mem
 lu : List Int
section
variable {w0 w w' : World} {R : List Asn} {v : Value} {l : List PkE}
end
set_option maxRecDepth 100000
open Go.Eng
theorem bap {m : jc} (ha : Asc m) (k : Int) (r : Rg) (k' : Int) : kz (oe m k r) k' = if k = k' then r else kz m k' := by
 unfold kz
 rw [aqa ha]
 split <;> rfl
open Go.Eng Go.Proofs.YtfnhoaemapheoaaGreat.Sint
section
variable {B B' : Int} {n n' : Nat} {m : jc} {T : List PkE} {dn : Bool} {L : Lg} {D : Dk} {w0 w : World} {q hb : Nat} {R : List Asn}
end
set_option maxRecDepth 100000
open Go.Eng Go.Proofs.YtfnhoaemapheoaaGreat.Sint
def beu (u : Value) : Value := if jf u = true then u else .slice none 0 0
def afv (x : PkE) : List Value := (pkC x.p).map beu
theorem tu (x : PkE) : (afv x).length = 11 := by unfold afv; simp [pkC]
theorem axo (x : PkE) : ∀ u ∈ afv x, jf u = true := fun u hu => by
 unfold afv at hu
 obtain ⟨v, _, rfl⟩ := List.mem_map.1 hu
 unfold beu
 split
 ·assumption
 ·rfl
abbrev tw (v : Value) (tl : List PkE) : Asn := pp T.a 11 afv v tl
structure Cel where
 q : Nat
 hb : Nat
 m : jc
 L : Lg
 D : Dk
def wi (c : Cel) : List Asn := [lg c.q c.hb c.m c.L false, fy c.hb c.D]
def ni (cs : List Cel) : Asn := nv (cs.flatMap wi)
def abd (B : Int) (c : Cel) : Prop := ∃ s f G, RI s f c.L G c.D c.m ∧ c.L.gg = 512 ∧ f + (ge c.L.fl).length ≤ B ∧ c.D.ie = false
theorem ahj : ∀ (cs : List Cel) (i : Nat) (h : i < cs.length), (cs.flatMap wi).Perm (wi cs[i] ++ (cs.eraseIdx i).flatMap wi)
 | c :: t, 0, _ => by simp
 | c :: t, i + 1, h => by
  simp only [List.flatMap_cons, List.getElem_cons_succ, List.eraseIdx_cons_succ]
  exact ((ahj t i (by simpa using h)).append_left _).trans (List.perm_append_comm_assoc _ _ _)
section
variable {w0 w : World} {cs : List Cel} {R : List Asn}
theorem afu (S : St w0 w (ni cs :: R)) {i : Nat} (h : i < cs.length) : St w0 w (lg cs[i].q cs[i].hb cs[i].m cs[i].L false :: fy cs[i].hb cs[i].D :: ni (cs.eraseIdx i) :: R) := by
 have S1 : St w0 w (cs.flatMap wi ++ R) := St.all.1 S
 have S2 : St w0 w ((wi cs[i] ++ (cs.eraseIdx i).flatMap wi) ++ R) := S1.perm ((ahj cs i h).append_right R)
 have S3 : St w0 w ((cs.eraseIdx i).flatMap wi ++ (wi cs[i] ++ R)) := S2.perm (by
  rw [List.append_assoc]
  exact List.perm_append_comm_assoc _ _ _)
 have S4 : St w0 w (ni (cs.eraseIdx i) :: (wi cs[i] ++ R)) := St.all.2 S3
 exact St.dn2 S4
theorem aiw {i : Nat} (h : i < cs.length) {c : Cel} (S : St w0 w (lg c.q c.hb c.m c.L false :: fy c.hb c.D :: ni (cs.eraseIdx i) :: R)) : St w0 w (ni (cs.set i c) :: R) := by
 have S3 : St w0 w (ni (cs.eraseIdx i) :: (wi c ++ R)) := S.up2
 have S2 : St w0 w ((cs.eraseIdx i).flatMap wi ++ (wi c ++ R)) := St.all.1 S3
 have hl : i < (cs.set i c).length := by simpa using h
 have hp := ahj (cs.set i c) i hl
 rw [List.getElem_set_self, List.eraseIdx_set_eq] at hp
 refine St.all.2 (S2.perm ?_)
 refine List.Perm.trans ?_ (hp.symm.append_right R)
 rw [List.append_assoc]
 exact List.perm_append_comm_assoc _ _ _
end
def tc (q : Nat) : List Value := [iz q]
def ayx (cs cs' : List Cel) (p : Pk) (idx : Int) (A : Pk) (is : Bool) : Prop :=
 (is = false ∧ cs'.map (·.m) = cs.map (·.m)) ∨
 (is = true ∧ ∃ (x : Nat) (hx : x < cs.length), idx = (x : Nat) ∧ A = abr (jb cs[x].m (decide (p.fu = 6)) p.tr p.b p.v).1 p.tr p.b (jb cs[x].m (decide (p.fu = 6)) p.tr p.b p.v).2 (decide (p.fu = 6)) ∧ cs'.map (·.m) = (cs.map (·.m)).set x (sy cs[x].m (decide (p.fu = 6)) p.tr p.b p.v))
theorem zt {α β : Type} (f : α → β) (l : List α) (i : Nat) (h : i < l.length) {a : α} (hf : f a = f l[i]) : (l.set i a).map f = l.map f := by
 refine List.ext_getElem (by simp) fun j h1 h2 => ?_
 simp only [List.getElem_map, List.getElem_set]
 split
 ·rename_i he
  subst he
  exact hf
 ·rfl
theorem aee {B B' : Int} {c : Cel} (h : abd B c) (hB : B ≤ B') : abd B' c := by
 obtain ⟨s, f, G, h1, h2, h3, h4⟩ := h
 exact ⟨s, f, G, h1, h2, by omega, h4⟩
theorem ajj {w0 w : World} {cs : List Cel} {R : List Asn} {av : Value} {idx : Int} {p : Pk} {ls : List Spn} {lm : List Mem} {lu : List Int} {B : Int} (S : St w0 w (ni cs :: R)) (hall : ∀ w' L, St w0 w' (L ++ R) → Sl w' 1 tc av (cs.map (·.q))) (hi : -9223372036854775808 ≤ idx) (hn : cs.length ≤ 1000) (hok : ∀ c ∈ cs, abd B c) (hB : B + 1 ≤ 1000000000000) (hp : sk w0 p ls lm lu) (hr : vn p) {K : KV}
  (h : ∀ w' A is cs', cs'.length = cs.length → cs'.map (·.q) = cs.map (·.q) → cs'.map (·.hb) = cs.map (·.hb) → (∀ c ∈ cs', abd (B + 1) c) → (∀ u ∈ pkC A, jf u = true) → ayx cs cs' p idx A is → St w0 w' (ni cs' :: R) → K (.tuple #[pkA A, .bool is]) w') :
  ey P F.bf [av, .int .i64 idx, pkA p] w K := by
 rw [M.bd.fcall]
 apply M.bd.calls
 unfold M.bd
 refine St.vr S fun pb w1 S1 => ?_
 have S1' : St w0 w1 (fq pb (pkC p).toArray T.a :: ni cs :: R) := S1
 simp
 have S2 := vp S1'
 generalize w1.heap.size = tb at *
 generalize w1.alloc _ = w2 at *
 have hlen : ∀ w' K, biT P .len #[T.w] T.b [false] [av] w' K = K (.int .i64 cs.length) w' := fun w' K => by
  have := (hall w2 [_, _, _] S2).ii (P := P) (t := T.w) (ty := T.b) (w := w') (by kernel_rfl) [false] (K := K)
  rwa [List.length_map] at this
 have pz : ∀ u ∈ pkC pkZ, jf u = true := un _ _ _ _ _ _
 have bad : ¬ (0 ≤ idx ∧ idx < cs.length) → stN P tb 0 [.int .i64 0, .int .u64 0, .int .u64 0, .int .u64 0, .int .u64 0, .int .u64 0, .int .i64 0, .bool false, .slice none 0 0, .slice none 0 0, .slice none 0 0] w2 fun _ w => og P T.a (.pointer (some ⟨tb, 0, none⟩)) w fun r0 w' => w' = w ∧ K (.tuple #[r0, .bool false]) w := fun _ =>
  acw (q := pkZ) S2 rfl pz (K := fun r0 w => K (.tuple #[r0, .bool false]) w) fun w4 S4 => h w4 pkZ false cs rfl rfl rfl (fun c hc => aee (hok c hc) (by omega)) pz (.inl ⟨rfl, rfl⟩) S4.drop.drop
 by_cases i0 : idx < 0
 ·simp [i0]
  exact bad (by omega)
 by_cases i1 : (cs.length : Int) ≤ idx
 ·simp [i0, i1, hlen]
  exact bad (by omega)
 simp [i0, i1, hlen]
 obtain ⟨x, rfl⟩ : ∃ x : Nat, idx = (x : Nat) := ⟨idx.toNat, by omega⟩
 have hx : x < cs.length := by omega
 unfold M.bd.j0
 have S2d := S2.iq ((Fr.refl _ w2).dr 1)
 obtain ⟨b, o, cap, hv, _, _, hc⟩ := (hall _ [_, _, _] S2d).at (i := x) (by simpa using hx)
 have hia : ∀ w' K, iaT P T.w av (.int .i64 (x : Nat)) w' K = K (.pointer (some ⟨b, o + x, none⟩)) w' := fun w' K => by rw [hv]; simp [hx]
 have hcell : ∀ {w' : World} {L : List Asn}, St w0 w' (L ++ R) → fi w' b (o + x) = some (iz cs[x].q) := fun {w' L} S' => by
  obtain ⟨b', o', cap', hv', _, _, hc'⟩ := (hall w' L S').at (i := x) (by simpa using hx)
  rw [hv] at hv'
  simp only [Value.slice.injEq, Option.some.injEq, Addr.mk.injEq] at hv'
  obtain ⟨⟨rfl, rfl, _⟩, _⟩ := hv'
  have := hc' 0 (iz cs[x].q) (by rw [List.getElem_map]; rfl)
  simpa using this
 have pl : ∀ {w' : World} {L : List Asn}, St w0 w' (fq pb (pkC p).toArray T.a :: L) → ∀ K, ldN P 11 pb 0 w' K = K (pkA p) w' := fun S' K => uj S' K
 have cx : abd B cs[x] := hok _ (List.getElem_mem hx)
 obtain ⟨s, f, G, I, hm, hB1, hda⟩ := cx
 have endS : ∀ (A : Pk) (e : Int) (m1 : jc) (L1 : Lg) (D1 : Dk) (s1 f1 : Int) (F1 : Nat), (e = 9 ∧ pd p ls lm lu = true ∧ m1 = cs[x].m ∧ A = pkZ) ∨ (e = (if pd p ls lm lu = true then 0 else 6) ∧ A = um cs[x].m p ls lm lu ∧ m1 = agu cs[x].m p ls lm lu) → RI s1 f1 L1 F1 D1 m1 → L1.gg = cs[x].L.gg → f1 + (ge L1.fl).length ≤ B + 1 → D1.ie = false →
   (∀ u ∈ pkC A, jf u = true) ∧ ∀ w2, St w0 w2 (lg cs[x].q cs[x].hb m1 L1 false :: fy cs[x].hb D1 :: ni (cs.eraseIdx x) :: R) → K (.tuple #[pkA A, .bool (decide (e = 0))]) w2 := fun A e m1 L1 D1 s1 f1 F1 hcase I1 hm1 hB2 ha1 => by
  have hA1 : ∀ u ∈ pkC A, jf u = true := by
   rcases hcase with ⟨_, _, _, rfl⟩ | ⟨_, rfl, _⟩
   ·exact pz
   ·exact bbq _ _ _ _ _
  refine ⟨hA1, fun w2 S' => ?_⟩
  have S3 := aiw hx (c := ⟨cs[x].q, cs[x].hb, m1, L1, D1⟩) S'
  refine h w2 A (decide (e = 0)) (cs.set x ⟨cs[x].q, cs[x].hb, m1, L1, D1⟩) (by simp) (zt _ _ _ hx rfl) (zt _ _ _ hx rfl) (fun c hc => ?_) hA1 ?_ S3
  ·rcases List.mem_or_eq_of_mem_set hc with hc | rfl
   ·exact aee (hok c hc) (by omega)
   ·exact ⟨s1, f1, F1, I1, by rw [hm1, hm], hB2, ha1⟩
  ·rcases hcase with ⟨rfl, _, rfl, rfl⟩ | ⟨rfl, rfl, rfl⟩
   ·exact .inl ⟨rfl, zt _ _ _ hx rfl⟩
   ·cases hae : pd p ls lm lu with
    | false => exact .inl ⟨rfl, zt _ _ _ hx (by unfold agu; rw [hae]; rfl)⟩
    | true => exact .inr ⟨rfl, x, hx, rfl, by unfold um; rw [hae]; rfl, by rw [List.map_set]; unfold agu; rw [hae]; rfl⟩
 have cl3 : ∀ {w' : World} {a b c : Asn}, St w0 w' (a :: b :: c :: R) → _ := fun {w' a b c} S' => hcell (L := [a, b, c]) S'
 have cl4 : ∀ {w' : World} {a b c d : Asn}, St w0 w' (a :: b :: c :: d :: R) → _ := fun {w' a b c d} S' => hcell (L := [a, b, c, d]) S'
 have cl5 : ∀ {w' : World} {a b c d e : Asn}, St w0 w' (a :: b :: c :: d :: e :: R) → _ := fun {w' a b c d e} S' => hcell (L := [a, b, c, d, e]) S'
 have cl6 : ∀ {w' : World} {a b c d e g : Asn}, St w0 w' (a :: b :: c :: d :: e :: g :: R) → _ := fun {w' a b c d e g} S' => hcell (L := [a, b, c, d, e, g]) S'
 -- what follows in either order
 have tail : ∀ (w3 : World) (tq : Nat) (A : Pk) (e : Int) (m1 : jc) (L1 : Lg) (D1 : Dk) (x1 : List Value), ((∀ u ∈ pkC A, jf u = true) ∧ ∀ w2, St w0 w2 (lg cs[x].q cs[x].hb m1 L1 false :: fy cs[x].hb D1 :: ni (cs.eraseIdx x) :: R) → K (.tuple #[pkA A, .bool (decide (e = 0))]) w2) →
   St w0 w3 (fq tq (pkC A).toArray T.a :: lg cs[x].q cs[x].hb m1 L1 false :: fy cs[x].hb D1 :: ni (cs.eraseIdx x) :: fq tb (pkC pkZ).toArray T.a :: fq pb (pkC p).toArray T.a :: R) → gv x1 9 = .pointer (some ⟨tq, 0, none⟩) → gv x1 10 = .int .i64 e → M.bd.j1 x1 (.pointer (some ⟨tb, 0, none⟩)) w3 K := fun w3 tq A e m1 L1 D1 x1 hk S3 e9 e10 => by
  unfold M.bd.j1
  have ql := fun K => uj S3 K
  simp [e9, e10, ql]
  rw [xj]
  refine acw S3.up4 rfl hk.1 (K := fun r0 w => K (.tuple #[r0, .bool (decide (e = 0))]) w) fun w4 S4 => ?_
  exact hk.2 w4 ((S4.drop.drop).up3.drop)
 simp [hia, cl3 S2d, pl S2d.swap]
 refine ⟨?_, ?_⟩
 ·refine apk (B := B + 1) (afu S2d.up2 hx) hp hr I (by omega) (by omega) hda fun w3 A e m1 L1 D1 s1 f1 F1 hcase I1 hm1 hB2 ha1 _ S3 => ?_
  have hk := endS A e m1 L1 D1 s1 f1 F1 hcase I1 hm1 hB2 ha1
  have S4 := vp S3
  generalize w3.heap.size = tq at *
  generalize w3.alloc _ = w4 at *
  simp [hia, cl6 S4, pl (up5 S4)]
  rw [xj]
  refine yg (q := A) S4 rfl hk.1 fun w5 S5 => ?_
  exact tail w5 tq A e m1 L1 D1 _ hk S5 rfl rfl
 ·have S3 := vp S2d
  rw [show (dr w2 1).heap.size = w2.heap.size from rfl] at S3
  generalize w2.heap.size = tq at *
  generalize (dr w2 1).alloc _ = w3 at *
  simp [hia, cl4 S3, pl (S3.up2)]
  refine apk (B := B + 1) (afu S3.up3 hx) hp hr I (by omega) (by omega) hda fun w4 A e m1 L1 D1 s1 f1 F1 hcase I1 hm1 hB2 ha1 _ S4 => ?_
  have hk := endS A e m1 L1 D1 s1 f1 F1 hcase I1 hm1 hB2 ha1
  simp
  rw [xj]
  refine yg (q := A) S4.up3 rfl hk.1 fun w5 S5 => ?_
  exact tail w5 tq A e m1 L1 D1 _ hk S5 rfl rfl
set_option maxRecDepth 100000
open Go.Eng Go.Proofs.YtfnhoaemapheoaaGreat.Sint
structure Vt where
 fo : Int
 jj : Int
 av : Value
 tv : Value
 cv : Value
 kv : Value
 ask : List Int
 po : List Int
 jx : List Int
 ip : List Int
def anf (x : Int) : Prop := -9223372036854775808 ≤ x ∧ x < 9223372036854775808
def ub (x : Vt) : List Value := [.int .u64 x.fo, .int .i64 x.jj, x.av, x.tv, x.cv, x.kv]
def SlN (w : World) (v : Value) (l : List Int) : Prop := Sl w 1 mj v l ∧ ∀ x ∈ l, anf x
structure VtR (w : World) (x : Vt) : Prop where
 fo : aah x.fo
 ask : SlN w x.av x.ask
 po : SlN w x.tv x.po
 jx : SlN w x.cv x.jx
 ip : Sl w 1 mj x.kv x.ip
def vt6 (w : World) (b o : Nat) (x : Vt) : Prop := (∀ j u, (ub x)[j]? = some u → fi w b (o + j) = some u) ∧ VtR w x
theorem bei {x : Int} (h : (Lit.int .i64 x).wf = true) : anf x := by
 unfold anf
 simp [Lit.wf, IntKind.min, IntKind.max, IntKind.bits, IntKind.signed] at h
 omega
theorem agw {w : World} {n : Nat} {v : Value} (h : TV P w n T.g [v]) : ∃ l, SlN w v l := by
 have : ∃ l : List Int, zf w 1 (fun w b o x => rdE mj w b o x ∧ anf x) v l := by
  refine amx (sz := 1) (rd := fun w b o x => rdE mj w b o x ∧ anf x) (e := T.b) (by kernel_rfl) (by kernel_rfl) (by decide) (fun n b o cs ht hl hc => ?_) h
  obtain ⟨x, hx, hw⟩ := anl (k := .i64) (by kernel_rfl) ht
  subst hx
  exact ⟨x, fun j u hj => hc j u hj, bei hw⟩
 obtain ⟨l, hl⟩ := this
 exact ⟨l, bbv hl⟩
theorem ayj {w : World} {n : Nat} {v : Value} (h : TV P w n T.am [v]) : ∃ l, zf w 6 vt6 v l := by
 have hel := et.am
 refine amx (sz := 6) (rd := vt6) (e := T.k) hel.ty (by kernel_rfl) (by decide) (fun n b o cs ht hl hc => ?_) h
 have hu := Tryz.underlying38
 obtain ⟨_, hf⟩ := awc hu ht
 obtain ⟨m0, t0⟩ : ∃ m, TV P w m T.e ((cs.drop 0).take (P.cellsOf T.e)) := hf 0 _ rfl
 obtain ⟨m1, t1⟩ : ∃ m, TV P w m T.l ((cs.drop 1).take (P.cellsOf T.l)) := hf 1 _ rfl
 obtain ⟨m2, t2⟩ : ∃ m, TV P w m T.g ((cs.drop 2).take (P.cellsOf T.g)) := hf 2 _ rfl
 obtain ⟨m3, t3⟩ : ∃ m, TV P w m T.g ((cs.drop 3).take (P.cellsOf T.g)) := hf 3 _ rfl
 obtain ⟨m4, t4⟩ : ∃ m, TV P w m T.g ((cs.drop 4).take (P.cellsOf T.g)) := hf 4 _ rfl
 obtain ⟨m5, t5⟩ : ∃ m, TV P w m T.g ((cs.drop 5).take (P.cellsOf T.g)) := hf 5 _ rfl
 have c0 : P.cellsOf T.e = 1 := by kernel_rfl
 have c1 : P.cellsOf T.l = 1 := by kernel_rfl
 have c2 : P.cellsOf T.g = 1 := by kernel_rfl
 match cs, hl with
 | [u0, u1, u2, u3, u4, u5], _ =>
  simp only [c0, c1, c2, List.drop_zero, List.drop_succ_cons, List.take_succ_cons, List.take_zero] at t0 t1 t2 t3 t4 t5
  obtain ⟨x0, e0, w0⟩ := anl (k := .u64) (by kernel_rfl) t0
  obtain ⟨x1, e1, _⟩ := anl (k := .i64) (by kernel_rfl) t1
  obtain ⟨l2, s2⟩ := agw t2
  obtain ⟨l3, s3⟩ := agw t3
  obtain ⟨l4, s4⟩ := agw t4
  obtain ⟨l5, s5⟩ := agw t5
  simp only [List.cons.injEq, and_true] at e0 e1
  subst e0 e1
  exact ⟨⟨x0, x1, u2, u3, u4, u5, l2, l3, l4, l5⟩, fun j u hj => hc j u hj, ben w0, s2, s3, s4, s5.1⟩
section
variable {w0 w w' : World} {R : List Asn} {v : Value} {l : List Vt}
theorem SlN.fr {v : Value} {l : List Int} (h : SlN w v l) (hf : Fr (fun _ => False) w w') : SlN w' v l := ⟨h.1.fr hf fun _ _ _ h => h, h.2⟩
theorem VtR.fr {x : Vt} (h : VtR w x) (hf : Fr (fun _ => False) w w') : VtR w' x := ⟨h.fo, h.ask.fr hf, h.po.fr hf, h.jx.fr hf, h.ip.fr hf fun _ _ _ h => h⟩
theorem bes {b o : Nat} {x : Vt} (hb : b < w.heap.size) (h : vt6 w b o x) (hf : Fr (fun _ => False) w w') : vt6 w' b o x :=
 ⟨fun j u hj => by rw [sr (hf.ip b hb fun h => h)]; exact h.1 j u hj, h.2.fr hf⟩
theorem azh (h : zf w 6 vt6 v l) {i : Nat} (hi : i < l.length) : ∃ b o, (∀ w' K, iaT P T.am v (.int .i64 (i : Nat)) w' K = K (.pointer (some ⟨b, o, none⟩)) w') ∧ b < w.heap.size ∧ vt6 w b o l[i] := by
 have hss : szE P T.am = 6 := by kernel_rfl
 obtain ⟨a, cap, hv, _, _, h3⟩ := h
 obtain ⟨b, o, rfl, hb, hr⟩ := h3 i l[i] (List.getElem?_eq_getElem hi)
 exact ⟨b, o + i * 6, fun w' K => by rw [hv]; simp [hi], hb, hr⟩
theorem bdh {b o : Nat} {x : Vt} (h : vt6 w b o x) (K : KV) : ldN P 6 b o w K = K (.agg (ub x).toArray) w := xe (ub x) 6 rfl (fun k u hk => h.1 k u hk) K
theorem asn {x : Vt} (h : VtR w x) : ∀ u ∈ ub x, jf u = true := by
 obtain ⟨_, _, a3, _⟩ := h.ask.1
 obtain ⟨_, _, b3, _⟩ := h.po.1
 obtain ⟨_, _, c3, _⟩ := h.jx.1
 obtain ⟨_, _, d3, _⟩ := h.ip
 intro u hu
 simp only [ub, a3, b3, c3, d3, List.mem_cons, List.not_mem_nil, or_false] at hu
 rcases hu with rfl | rfl | rfl | rfl | rfl | rfl <;> rfl
theorem ue {b : Nat} {x : Vt} {t : TypeId} (S : St w0 w (fq b (ub x).toArray t :: R)) : fi w b 0 = some (.int .u64 x.fo) ∧ fi w b 1 = some (.int .i64 x.jj) ∧ fi w b 2 = some x.av ∧ fi w b 3 = some x.tv ∧ fi w b 4 = some x.cv ∧ fi w b 5 = some x.kv := by
 refine ⟨?_, ?_, ?_, ?_, ?_, ?_⟩ <;> rw [S.cell] <;> rfl
end
theorem bcl {w : World} {v : Value} {l : List Int} (h : Sl w 1 mj v l) {i : Nat} (hi : i < l.length) : ∃ b o, (∀ w' K, iaT P T.g v (.int .i64 (i : Nat)) w' K = K (.pointer (some ⟨b, o, none⟩)) w') ∧ b < w.heap.size ∧ fi w b o = some (.int .i64 l[i]) := by
 obtain ⟨b, o, cap, hv, hb, _, hc⟩ := h.at hi
 have hss : szE P T.g = 1 := by kernel_rfl
 have := hc 0 _ rfl
 exact ⟨b, o + i, fun w' K => by rw [hv]; simp [hi], hb, by simpa using this⟩
set_option maxRecDepth 100000
open Go.Eng
def jh (cs : List Cel) (x : Nat) : Rg := kz ((cs.map (·.m)).getD x []) 1
theorem aco {cs : List Cel} {x : Nat} (h : x < cs.length) : jh cs x = kz cs[x].m 1 := by
 unfold jh
 rw [List.getD_eq_getElem?_getD, List.getElem?_map, List.getElem?_eq_getElem h]
 rfl
theorem alu {m : jc} (ha : Asc m) (ji : Bool) (tr : Int) (b : Bal) (v : Int) : kz (sy m ji tr b v) tr = (jb m ji tr b v).1 := by
 unfold sy
 cases hk : (jb m ji tr b v).2 with
 | true => rw [if_pos rfl, bap ha, if_pos rfl]
 | false => rw [if_neg (by simp), aeb hk]
theorem aer {cs cs' : List Cel} (h : cs'.map (·.m) = cs.map (·.m)) : jh cs' = jh cs := by
 funext x
 unfold jh
 rw [h]
theorem aps {cs cs' : List Cel} {x : Nat} {m' : jc} (hx : x < cs.length) (h : cs'.map (·.m) = (cs.map (·.m)).set x m') : jh cs' = pm (jh cs) x (kz m' 1) := by
 funext y
 unfold jh pm
 simp only [h, List.getD_eq_getElem?_getD, List.getElem?_set]
 by_cases he : x = y
 ·subst he
  rw [if_pos rfl, if_pos (by simpa using hx), if_pos rfl]
  rfl
 ·rw [if_neg he, if_neg fun h => he h.symm]
def ws (bl : List Bool) (x : Nat) : Prop := bl[x]? = some true
def PkS (g : Nat → Rg) (q : Nat → Prop) (jj : Int) (best : Bal) (v : Int) : Prop :=
 ((∀ x, q x → (g x).v = 0) ∧ best = gy ∧ v = jj) ∨ ∃ z, q z ∧ best = (g z).t ∧ v = (g z).v ∧ v ≠ 0 ∧ ∀ x, q x → (g x).v ≠ 0 → best.mo (g x).t = false
theorem baj {g : Nat → Rg} {q : Nat → Prop} {jj v : Int} {best : Bal} (h : PkS g q jj best v) : bey g q jj v := by
 rcases h with ⟨h1, _, h2⟩ | ⟨z, h1, rfl, h3, h4, h5⟩
 ·exact .inl ⟨h1, h2⟩
 ·exact .inr ⟨z, h1, h3, h4, h5⟩
theorem aex {g g' : Nat → Rg} {q : Nat → Prop} {jj v : Int} {best : Bal} (h : PkS g q jj best v) (hg : ∀ x, (g' x).t = (g x).t ∧ (g' x).v = (g x).v) : PkS g' q jj best v := by
 unfold PkS at *
 simp only [hg]
 exact h
theorem arv {g : Nat → Rg} {q q' : Nat → Prop} {jj v : Int} {best : Bal} (h : PkS g q jj best v) (hq : ∀ x, q x ↔ q' x) : PkS g q' jj best v := by
 have : q = q' := funext fun x => propext (hq x)
 rw [← this]; exact h
theorem bda {g : Nat → Rg} {q : Nat → Prop} {jj v : Int} {best : Bal} (h : PkS g q jj best v) {x : Nat} (hr : (g x).v ≠ 0 → gy.mo (g x).t = true) :
  ((g x).v ≠ 0 ∧ best.mo (g x).t = true → PkS g (fun y => y = x ∨ q y) jj (g x).t (g x).v) ∧ (¬ ((g x).v ≠ 0 ∧ best.mo (g x).t = true) → PkS g (fun y => y = x ∨ q y) jj best v) := by
 refine ⟨fun ⟨h1, h2⟩ => .inr ⟨x, .inl rfl, rfl, rfl, h1, fun y hy hv => ?_⟩, fun hn => ?_⟩
 ·rcases hy with rfl | hy
  ·exact aag _
  ·rcases h with ⟨h3, _⟩ | ⟨z, _, _, _, _, h4⟩
   ·exact absurd (h3 y hy) hv
   ·have := h4 y hy hv
    simp only [Bal.mo, decide_eq_true_eq, decide_eq_false_iff_not] at h2 this ⊢
    omega
 ·rcases h with ⟨h3, rfl, h5⟩ | ⟨z, h1, h2, h3, h4, h5⟩
  ·refine .inl ⟨fun y hy => ?_, rfl, h5⟩
   rcases hy with rfl | hy
   ·by_cases hv : (g y).v = 0
    ·exact hv
    ·exact absurd ⟨hv, hr hv⟩ hn
   ·exact h3 y hy
  ·refine .inr ⟨z, .inr h1, h2, h3, h4, fun y hy hv => ?_⟩
   rcases hy with rfl | hy
   ·cases hb : best.mo (g y).t with
    | false => rfl
    | true => exact absurd ⟨hv, hb⟩ hn
   ·exact h5 y hy hv
theorem bai {i : Nat} {g : Nat → Rg} {val fo : Nat → Int} {prop : Nat → Prop} {tk : List (Nat × Nat)} (h : Agr i g val fo prop tk) {x : Nat} (x3 : x < 3) (hv : (g x).v ≠ 0) : gy.mo (g x).t = true := by
 rcases h.reg x x3 with ⟨_, h2⟩ | ⟨k, _, _, h3, _⟩
 ·exact absurd h2 hv
 ·rw [h3]
  have e0 : gy.n = 0 := rfl
  simp only [Bal.mo, e0, decide_eq_true_eq]
  omega
theorem bcj {bl : List Bool} {x : Nat} (hx : x < bl.length) (y : Nat) : ws (bl.set x true) y ↔ y = x ∨ ws bl y := by
 unfold ws
 rw [List.getElem?_set]
 by_cases he : x = y
 ·subst he
  simp [hx]
 ·rw [if_neg he]
  constructor
  ·exact .inr
  ·rintro (h | h)
   ·exact absurd h.symm he
   ·exact h
theorem bdp {bl : List Bool} {x : Nat} (h : ws bl x) : x < bl.length := (List.getElem?_eq_some_iff.1 h).1
theorem bck {bl : List Bool} (h3 : bl.length = 3) (hn : 2 ≤ bl.count true) : ∃ a b, a ≠ b ∧ ws bl a ∧ ws bl b := by
 match bl, h3 with
 | [x, y, z], _ =>
  unfold ws
  cases x <;> cases y <;> cases z <;> simp at hn
  ·exact ⟨1, 2, by decide, rfl, rfl⟩
  ·exact ⟨0, 2, by decide, rfl, rfl⟩
  ·exact ⟨0, 1, by decide, rfl, rfl⟩
  ·exact ⟨0, 1, by decide, rfl, rfl⟩
theorem awn {bl : List Bool} {x : Nat} (hx : x < bl.length) (hf : ¬ ws bl x) : (bl.set x true).count true = bl.count true + 1 := by
 induction bl generalizing x with
 | nil => simp at hx
 | cons a t ih =>
  cases x with
  | zero =>
   have : a = false := by
    cases a with
    | false => rfl
    | true => exact absurd rfl hf
   subst this
   simp
  | succ x =>
   have := ih (x := x) (by simpa using hx) (by simpa [ws] using hf)
   simp only [List.set_cons_succ, List.count_cons, this]
   omega
theorem asf (r : Rg) (b : Bal) : (r.nl b).1.t = r.t ∧ (r.nl b).1.v = r.v := by
 unfold Rg.nl
 split <;> exact ⟨rfl, rfl⟩
theorem adv {g : Nat → Rg} {x : Nat} {b : Bal} (y : Nat) : (pm g x ((g x).nl b).1 y).t = (g y).t ∧ (pm g x ((g x).nl b).1 y).v = (g y).v := by
 unfold pm
 split
 ·rename_i he
  subst he
  exact asf _ _
 ·exact ⟨rfl, rfl⟩
theorem ayc {r : Rg} {b : Bal} {v : Int} (h : (r.acc b v).2 = true) : (r.acc b v).1 = ⟨b, b, v⟩ := by
 unfold Rg.acc at *
 split at h
 ·rename_i hs
  rw [if_pos hs]
 ·simp at h
theorem bdc {r : Rg} {b : Bal} {v : Int} (h : (r.acc b v).2 = false) : (r.acc b v).1 = r := by
 unfold Rg.acc at *
 split at h
 ·simp at h
 ·rename_i hs
  rw [if_neg hs]
theorem aea {α : Type} (g : Nat → α) (x : Nat) : pm g x (g x) = g := by
 funext y
 unfold pm
 split
 ·rename_i he; rw [he]
 ·rfl
open Go.Eng Go.Proofs.YtfnhoaemapheoaaGreat.Sint
abbrev pk (b : Nat) (x : Vt) : Asn := fq b (ub x).toArray T.k
abbrev si (b : Nat) (x : Bal) : Asn := fq b #[.int .u64 x.n, .int .u64 x.fo] T.c
abbrev apb (b : Nat) (l : List Bool) : Asn := fq b (l.map Value.bool).toArray T.au
structure abo (W : World) (x : Vt) (i : Nat) (b : Bal) : Prop where
 vt : VtR W x
 b : b = ⟨(i : Int) + 1, x.fo⟩
 i : i ≤ 20
 ask : x.ask.length ≤ 10
 po : x.po.length ≤ 10
 jx : x.jx.length ≤ 10
theorem abo.rng {W : World} {x : Vt} {i : Nat} {b : Bal} (h : abo W x i b) : b.rng := by
 have h1 := h.vt.fo
 have h2 := h.i
 rw [h.b]
 exact ⟨⟨by show (0 : Int) ≤ (i : Int) + 1; omega, by show (i : Int) + 1 < _; omega⟩, h1⟩
theorem age {W : World} {v : Value} {l : List Int} (h : Sl W 1 mj v l) {j : Nat} (hj : j < l.length) : ∃ b o, (∀ w' K, iaT P T.g v (.int .i64 (j : Nat)) w' K = K (.pointer (some ⟨b, o, none⟩)) w') ∧ ∀ {w' : World} {L : List Asn}, St W w' L → fi w' b o = some (.int .i64 l[j]) := by
 obtain ⟨b, o, h1, h2, h3⟩ := bcl h hj
 exact ⟨b, o, h1, fun S => by rw [sr (S.fr.ip b h2 fun h => h)]; exact h3⟩
structure Tri (cs : List Cel) (qs hs : List Nat) (B : Int) : Prop where
 n : cs.length = 3
 q : cs.map (·.q) = qs
 h : cs.map (·.hb) = hs
 ok : ∀ c ∈ cs, abd B c
theorem Tri.mono {cs : List Cel} {qs hs : List Nat} {B B' : Int} (h : Tri cs qs hs B) (hB : B ≤ B') : Tri cs qs hs B' := ⟨h.n, h.q, h.h, fun c hc => aee (h.ok c hc) hB⟩
def ath (b : Bal) : Pk := pk0 4 1 b gy 0 false
theorem alf {b : Bal} (h : b.rng) : vn (ath b) := ⟨by show (0 : Int) ≤ 1 ∧ (1 : Int) < _; omega, h, ⟨by show (0 : Int) ≤ 0 ∧ (0 : Int) < _; omega, by show (0 : Int) ≤ 0 ∧ (0 : Int) < _; omega⟩⟩
section
variable {W w : World} {x : Vt} {i : Nat} {b : Bal} {cs : List Cel} {qs hs : List Nat} {R : List Asn} {av : Value} {val fo : Nat → Int} {prop : Nat → Prop} {tk : List (Nat × Nat)} {vb bb mb sb : Nat}
abbrev ace (cs : List Cel) (bl : List Bool) (best : Bal) (x : Vt) (b : Bal) (vb bb mb sb : Nat) (R : List Asn) : List Asn := ni cs :: apb mb bl :: si sb best :: pk vb x :: si bb b :: R
structure ajx (i : Nat) (x : Vt) (val fo : Nat → Int) (prop : Nat → Prop) (tk : List (Nat × Nat)) (qs hs : List Nat) (B : Int) (cs : List Cel) (bl : List Bool) (best : Bal) (v : Int) : Prop where
 tri : Tri cs qs hs B
 agr : Agr i (jh cs) val fo prop tk
 pks : PkS (jh cs) (ws bl) x.jj best v
 n : bl.length = 3
def bdr (W : World) (i : Nat) (x : Vt) (b : Bal) (val fo : Nat → Int) (prop : Nat → Prop) (tk : List (Nat × Nat)) (qs hs : List Nat) (B : Int) (vb bb mb sb : Nat) (R : List Asn) : KL := fun y w1 => ∃ (cs : List Cel) (bl : List Bool) (best : Bal) (v : Int) (j : Nat), gv y 2 = .int .i64 (bl.count true : Nat) ∧ gv y 3 = .int .i64 v ∧ gv y 4 = .int .i64 (j : Nat) ∧ j ≤ x.ask.length ∧ ajx i x val fo prop tk qs hs (B + j) cs bl best v ∧ St W w1 (ace cs bl best x b vb bb mb sb R)
theorem apu {w3 : World} {tq : Nat} {A : Pk} {is : Bool} {cs' : List Cel} {y15 x12 : List Value} {K14 : KL} {K : KV} {B : Int} {bl : List Bool} {best : Bal} {v : Int} {j : Nat} (V : abo W x i b) (hjl : j < x.ask.length) (hS : ajx i x val fo prop tk qs hs B cs bl best v) (hT : Tri cs' qs hs (B + 1)) (hO : ayx cs cs' (ath b) x.ask[j] A is) (y2 : gv x12 2 = .int .i64 (bl.count true : Nat)) (y3 : gv x12 3 = .int .i64 v) (y4 : gv x12 4 = .int .i64 (j : Nat)) (e12 : gv y15 12 = .pointer (some ⟨tq, 0, none⟩)) (e13 : gv y15 13 = .bool is)
  (S : St W w3 (fq tq (pkC A).toArray T.a :: ace cs' bl best x b vb bb mb sb R))
  (hK : ∀ y14 w' bl' best' v', ajx i x val fo prop tk qs hs (B + 1) cs' bl' best' v' → gv y14 2 = .int .i64 (bl'.count true : Nat) → gv y14 3 = .int .i64 v' → St W w' (ace cs' bl' best' x b vb bb mb sb R) → K14 y14 w') :
  M.a.j15 y15 (.slice (some ⟨mb, 0, none⟩) 3 3) (.pointer (some ⟨vb, 0, none⟩)) x12 K14 (.pointer (some ⟨sb, 0, none⟩)) w3 K := by
 have hn3 := hS.n
 have fv : ∀ {w' : World} {L : List Asn}, St W w' (pk vb x :: L) → fi w' vb 2 = some x.av := fun S' => (ue S').2.2.1
 obtain ⟨ab, ao, hia, hac⟩ := age V.vt.ask.1 hjl
 generalize x.ask[j] = idx at *
 unfold M.a.j15
 have skip : ∀ y14, jh cs' = jh cs ∨ (∃ z, jh cs' = pm (jh cs) z ((jh cs z).nl b).1) → gv y14 2 = .int .i64 (bl.count true : Nat) → gv y14 3 = .int .i64 v → K14 y14 w3 := fun y14 hg d2 d3 => by
  refine hK y14 w3 bl best v ⟨hT, ?_, ?_, hS.n⟩ d2 d3 S.drop
  ·rcases hg with hg | ⟨z, hg⟩
   ·rw [hg]; exact hS.agr
   ·rw [hg]; exact apz hS.agr fun y _ => adv y
  ·rcases hg with hg | ⟨z, hg⟩
   ·rw [hg]; exact hS.pks
   ·rw [hg]; exact aex hS.pks fun y => adv y
 rcases hO with ⟨rfl, hm⟩ | ⟨rfl, z, hz, hidx, hA, hm⟩
 ·simp [e12, e13]
  exact skip _ (.inl (aer hm)) y2 y3
 ·subst hidx
  obtain ⟨s, f, G, I, _⟩ := hS.tri.ok _ (List.getElem_mem hz)
  have z3 : z < 3 := by have := hS.tri.n; omega
  have hg : jh cs' = pm (jh cs) z ((jh cs z).nl b).1 := by
   rw [aps hz hm]
   congr 1
   show kz (sy cs[z].m false 1 b 0) 1 = _
   rw [alu I.asc, aco hz]
   rfl
  have hA' : A = abr ((jh cs z).nl b).1 1 b ((jh cs z).nl b).2 false := by rw [hA, aco hz]; rfl
  obtain ⟨_, _, _, a3, a4, a5, _⟩ := km S
  cases hok : ((jh cs z).nl b).2 with
  | false =>
   have hAo : A.ok = false := by rw [hA', hok]; rfl
   rw [hAo] at a5
   simp [e12, e13, a5]
   exact skip _ (.inr ⟨z, hg⟩) y2 y3
  | true =>
   have hAo : A.ok = true := by rw [hA', hok]; rfl
   rw [hAo] at a5
   obtain ⟨p1, p2⟩ := asf (jh cs z) b
   have hAs : A.ic = (jh cs z).t := by rw [hA', hok]; exact p1
   have hAv : A.v = (jh cs z).v := by rw [hA', hok]; exact p2
   have cm : fi w3 mb z = some (.bool (bl[z]'(by omega))) := by
    rw [S.up2.cell]
    simp [hn3, z3]
   have him : ∀ w' K, iaT P T.bc (.slice (some ⟨mb, 0, none⟩) 3 3) (.int .i64 (z : Nat)) w' K = K (.pointer (some ⟨mb, z, none⟩)) w' := fun w' K => by
    rw [agp (by simp) (by omega) (by omega)]
    simp
   cases hmz : bl[z]'(by omega) with
   | true =>
    rw [hmz] at cm
    simp [e12, e13, a5, fv S.up4, y4, hia, hac S, him, cm]
    exact skip _ (.inr ⟨z, hg⟩) y2 y3
   | false =>
    rw [hmz] at cm
    simp [e12, e13, a5, fv S.up4, y4, hia, hac S, him, cm]
    unfold M.a.j16
    have hnm : ¬ ws bl z := by
     unfold ws
     rw [List.getElem?_eq_getElem (by omega), hmz]
     simp
    simp [fv S.up4, y4, hia, hac S, him]
    refine St.ahp S.up2 rfl (by simp [hn3, z3]) fun w4 S4 => ?_
    have eM : (bl.map Value.bool).toArray.setIfInBounds z (.bool true) = ((bl.set z true).map Value.bool).toArray := by
     simp [List.map_set]
    rw [eM] at S4
    have S5 : St W w4 (fq tq (pkC A).toArray T.a :: ace cs' (bl.set z true) best x b vb bb mb sb R) := S4.dn2
    obtain ⟨_, _, _, b3, b4, _⟩ := km S5
    rw [hAs] at b3
    rw [hAv] at b4
    have hcnt := awn (x := z) (by omega) hnm
    have hc3 : bl.count true ≤ 3 := by rw [← hn3]; exact List.count_le_length
    have hwn : IntKind.i64.wrap (((bl.count true : Nat) : Int) + 1) = (((bl.set z true).count true : Nat) : Int) := by rw [hcnt, fj (by omega) (by omega)]; rfl
    have sl := fun K => (sj S5.up3).2.2 K
    have hless := fun hv => bai hS.agr z3 hv
    have hqm : ∀ y, (y = z ∨ ws bl y) ↔ ws (bl.set z true) y := fun y => (bcj (by omega) y).symm
    have hagr : Agr i (jh cs') val fo prop tk := by rw [hg]; exact apz hS.agr fun y _ => adv y
    have hgc : ∀ y, (jh cs' y).t = (jh cs y).t ∧ (jh cs' y).v = (jh cs y).v := fun y => by rw [hg]; exact adv y
    obtain ⟨add1, add2⟩ := bda hS.pks (x := z) hless
    have keepB : ¬ ((jh cs z).v ≠ 0 ∧ best.mo (jh cs z).t = true) → ∀ y14 w', gv y14 2 = .int .i64 ((bl.set z true).count true : Nat) → gv y14 3 = .int .i64 v → St W w' (fq tq (pkC A).toArray T.a :: ace cs' (bl.set z true) best x b vb bb mb sb R) → K14 y14 w' := fun hn y14 w' d2 d3 S' =>
     hK y14 w' _ best v ⟨hT, hagr, arv (aex (add2 hn) hgc) hqm, by simpa using hn3⟩ d2 d3 S'.drop
    by_cases hv0 : (jh cs z).v = 0
    ·simp [e12, y2, b4, hwn, hv0]
     exact keepB (fun hh => hh.1 hv0) _ w4 rfl y3 S5
    ·simp [e12, y2, b3, b4, hwn, sl, hv0]
     refine atj best (jh cs z).t fun w5 f5 => ?_
     have S6 := S5.iq f5
     cases hb : best.mo (jh cs z).t with
     | false =>
      simp
      exact keepB (fun hh => by rw [hb] at hh; cases hh.2) _ w5 rfl y3 S6
     | true =>
      have S7 := S6.iq ((Fr.refl _ w5).dr 1)
      obtain ⟨_, _, _, d3, d4, _⟩ := km S7
      rw [hAs] at d3
      rw [hAv] at d4
      simp [d3, d4]
      unfold jm
      simp
      refine St.put (vs := [.int .u64 (jh cs z).t.n, .int .u64 (jh cs z).t.fo]) (cs' := #[.int .u64 (jh cs z).t.n, .int .u64 (jh cs z).t.fo]) S7.up3 (by simp [jf]) (by simp) rfl fun w6 S8 => ?_
      have S9 : St W w6 (fq tq (pkC A).toArray T.a :: ace cs' (bl.set z true) (jh cs z).t x b vb bb mb sb R) := S8.dn3
      obtain ⟨_, _, _, _, c4, _⟩ := km S9
      rw [hAv] at c4
      simp [c4]
      exact hK _ w6 _ _ _ ⟨hT, hagr, arv (aex (add1 ⟨hv0, hb⟩) hgc) hqm, by simpa using hn3⟩ rfl rfl S9.drop
theorem bew {K11 : KL} {K : KV} {x1 : List Value} {u0 u1 : Value} {B : Int} {bl : List Bool} {best : Bal} (S : St W w (ace cs bl best x b vb bb mb sb R)) (V : abo W x i b) (h0 : ajx i x val fo prop tk qs hs B cs bl best x.jj) (hb0 : bl.count true = 0) (hB : B + 10 ≤ 1000000000000) (hall : ∀ w' L, St W w' (L ++ R) → Sl w' 1 tc av qs) (g7 : gv x1 7 = av)
  (h : ∀ w' cs bl best v y, ajx i x val fo prop tk qs hs (B + 10) cs bl best v → gv y 3 = .int .i64 (bl.count true : Nat) → gv y 4 = .int .i64 v → St W w' (ace cs bl best x b vb bb mb sb R) → K11 y w') :
  gm [u0, u1, .int .i64 0, .int .i64 x.jj, .int .i64 0] w fun K12 x12 w => M.a.j12 (.pointer (some ⟨vb, 0, none⟩)) x12 K11 (.pointer (some ⟨bb, 0, none⟩)) x1 (.slice (some ⟨mb, 0, none⟩) 3 3) (.pointer (some ⟨sb, 0, none⟩)) K12 w K := by
 have hask := V.ask
 refine ⟨bdr W i x b val fo prop tk qs hs B vb bb mb sb R, fun y _ => x.ask.length - ms y 4, ⟨cs, bl, best, x.jj, 0, by rw [hb0]; rfl, rfl, rfl, Nat.zero_le _, by simpa using h0, S⟩, ?_⟩
 rintro x12 w1 ⟨cs, bl, best, v, j, y2, y3, y4, hj, hS, S1⟩
 have fv : ∀ {w' : World} {L : List Asn}, St W w' (pk vb x :: L) → fi w' vb 2 = some x.av := fun S' => (ue S').2.2.1
 have alen : ∀ w' K, biT P .len #[T.g] T.b [false] [x.av] w' K = K (.int .i64 x.ask.length) w' := fun w' K => V.vt.ask.1.ii (by kernel_rfl) [false]
 unfold M.a.j12
 rw [y4]
 by_cases hjl : j < x.ask.length
 case neg =>
  simp [fv S1.up3, alen, hjl]
  exact h w1 cs bl best v _ ⟨hS.tri.mono (by omega), hS.agr, hS.pks, hS.n⟩ y2 y3 S1
 have hwi : IntKind.i64.wrap ((j : Int) + 1) = ((j + 1 : Nat) : Int) := by rw [fj (by omega) (by omega)]; rfl
 simp [fv S1.up3, alen, hjl]
 unfold M.a.j13
 rw [y4, g7]
 obtain ⟨ab, ao, hia, hac⟩ := age V.vt.ask.1 hjl
 have hr := V.vt.ask.2 _ (List.getElem_mem hjl)
 generalize hidx : x.ask[j] = idx at *
 have S2 := S1.iq ((Fr.refl _ w1).dr 1)
 have fb : ∀ {w' : World} {L : List Asn}, St W w' (si bb b :: L) → ∀ K, ldN P 2 bb 0 w' K = K (jm b) w' := fun S' => (sj S').2.2
 have hbld : ∀ w' K, ik P T.a #[(0, .int .i64 4), (1, .int .u64 1), (2, jm b)] w' K = K (pkA (ath b)) w' := fun w' K => by
  unfold jm
  simp
  rfl
 have hall' : ∀ w' L, St W w' (L ++ (apb mb bl :: si sb best :: pk vb x :: si bb b :: R)) → Sl w' 1 tc av (cs.map (·.q)) := fun w' L S' => by
  rw [hS.tri.q]
  exact hall w' (L ++ [_, _, _, _]) (by simpa using S')
 have hjB : B + j + 1 = B + ((j + 1 : Nat) : Int) := by omega
 have fin : ∀ y14 w' cs' bl' best' v', ajx i x val fo prop tk qs hs (B + j + 1) cs' bl' best' v' → gv y14 2 = .int .i64 (bl'.count true : Nat) → gv y14 3 = .int .i64 v' → St W w' (ace cs' bl' best' x b vb bb mb sb R) → (fun y w => bdr W i x b val fo prop tk qs hs B vb bb mb sb R y w ∧ x.ask.length - ms y 4 < x.ask.length - ms x12 4) [gv y14 0, gv y14 1, gv y14 2, gv y14 3, .int .i64 (IntKind.i64.wrap ((j : Int) + 1))] w' := fun y14 w' cs' bl' best' v' hS' d2 d3 S' => by
  rw [hwi]
  refine ⟨⟨cs', bl', best', v', j + 1, d2, d3, rfl, by omega, by rw [← hjB]; exact hS', S'⟩, ?_⟩
  have : ms x12 4 = j := by unfold ms; rw [y4]; simp
  rw [this]
  simp [ms, gv]; omega
 simp [fv S2.up3, fb S2.up4, hia, hac S2, hbld]
 refine ⟨?_, ?_⟩
 ·refine ajj S2 hall' hr.1 (by rw [hS.tri.n]; omega) hS.tri.ok (by omega) (aff _ _ _ _ _ _ _) (alf V.rng) fun w3 A is cs' e1 e2 e3 e4 hA1 hO S3 => ?_
  have hT : Tri cs' qs hs (B + j + 1) := ⟨by rw [e1, hS.tri.n], by rw [e2, hS.tri.q], by rw [e3, hS.tri.h], e4⟩
  have S4 := vp S3
  generalize w3.heap.size = tq at *
  generalize w3.alloc _ = w4 at *
  simp [fv S4.up4, fb (up5 S4), hia, hac S4, hbld]
  rw [xj]
  refine yg (q := A) S4 rfl hA1 fun w5 S5 => ?_
  exact apu V hjl hS hT (by rw [hidx]; exact hO) y2 y3 y4 rfl rfl S5 fun y14 w' bl' best' v' hS' d2 d3 S' => fin y14 w' cs' bl' best' v' hS' d2 d3 S'
 ·have S3 := vp S2
  rw [show (dr w1 1).heap.size = w1.heap.size from rfl] at S3
  generalize w1.heap.size = tq at *
  generalize (dr w1 1).alloc _ = w3 at *
  have hall2 : ∀ w' L, St W w' (L ++ (fq tq (pkC pkZ).toArray T.a :: apb mb bl :: si sb best :: pk vb x :: si bb b :: R)) → Sl w' 1 tc av (cs.map (·.q)) := fun w' L S' => by
   rw [hS.tri.q]
   exact hall w' (L ++ [_, _, _, _, _]) (by simpa using S')
  simp [fv S3.up4, fb (up5 S3), hia, hac S3, hbld]
  refine ajj S3.swap hall2 hr.1 (by rw [hS.tri.n]; omega) hS.tri.ok (by omega) (aff _ _ _ _ _ _ _) (alf V.rng) fun w4 A is cs' e1 e2 e3 e4 hA1 hO S4 => ?_
  have hT : Tri cs' qs hs (B + j + 1) := ⟨by rw [e1, hS.tri.n], by rw [e2, hS.tri.q], by rw [e3, hS.tri.h], e4⟩
  simp
  rw [xj]
  refine yg (q := A) S4.swap rfl hA1 fun w5 S5 => ?_
  exact apu V hjl hS hT (by rw [hidx]; exact hO) y2 y3 y4 rfl rfl S5 fun y14 w' bl' best' v' hS' d2 d3 S' => fin y14 w' cs' bl' best' v' hS' d2 d3 S'
end
set_option maxRecDepth 100000
open Go.Eng Go.Proofs.YtfnhoaemapheoaaGreat.Sint
theorem pg (q : Nat) : (tc q).length = 1 := rfl
theorem alj (q : Nat) : ∀ u ∈ tc q, jf u = true := fun u hu => by
 rw [List.mem_singleton.1 hu]; rfl
abbrev acf (v : Value) (l : List Nat) : Asn := pp T.ag 1 tc v l
abbrev adr (v : Value) (l : List Nat) : Asn := pp T.ak 1 tc v l
section
variable {W w : World} {x : Vt} {i : Nat} {b : Bal} {cs : List Cel} {qs hs : List Nat} {R : List Asn} {av dv : Value} {vb : Nat} {B : Int}
abbrev anp (cs : List Cel) (av : Value) (qs : List Nat) (dv : Value) (hs : List Nat) (vb : Nat) (x : Vt) (R : List Asn) : List Asn := ni cs :: acf av qs :: adr dv hs :: pk vb x :: R
def bez (W : World) (x : Vt) (ms0 : List jc) (hs : List Nat) (B : Int) (av dv : Value) (vb : Nat) (R : List Asn) : KL := fun y w1 => ∃ (cs : List Cel) (qs : List Nat) (j : Nat), gv y 4 = .int .i64 (j : Nat) ∧ j ≤ x.jx.length ∧ Tri cs qs hs B ∧ cs.map (·.m) = ms0 ∧ St W w1 (anp cs av qs dv hs vb x R)
theorem avg {e t : TypeId} {v : Value} {l : List Nat} {k : Nat} (S : St W w (pp e 1 tc v l :: R)) (hb : ki P t = true) (hz : szE P t = 1) (hk : k < l.length) : ∃ b o, (∀ w' K, iaT P t v (.int .i64 (k : Nat)) w' K = K (.pointer (some ⟨b, o, none⟩)) w') ∧ ∀ {w' : World} {L : List Asn}, St W w' (pp e 1 tc v l :: L) → fi w' b o = some (iz l[k]) := by
 obtain ⟨b, o, cap, hv, _, _, hc⟩ := (S.row pg).at hk
 refine ⟨b, o + k, fun w' K => ?_, fun {w' L} S' => ?_⟩
 ·rw [hv, agp hb (by omega) (by omega), hz]
  simp
 ·obtain ⟨b', o', cap', hv', _, _, hc'⟩ := (S'.row pg).at hk
  rw [hv] at hv'
  simp only [Value.slice.injEq, Option.some.injEq, Addr.mk.injEq] at hv'
  obtain ⟨⟨rfl, rfl, _⟩, _⟩ := hv'
  have := hc' 0 _ rfl
  simpa using this
theorem atn {K17 : KL} {K : KV} {x1 : List Value} {u0 u1 u2 u3 : Value} (S : St W w (anp cs av qs dv hs vb x R)) (V : abo W x i b) (hT : Tri cs qs hs B) (hB : B ≤ 1000000000000) (g6 : gv x1 6 = dv) (g7 : gv x1 7 = av)
  (h : ∀ w' cs' qs' y, Tri cs' qs' hs B → cs'.map (·.m) = cs.map (·.m) → St W w' (anp cs' av qs' dv hs vb x R) → K17 y w') :
  gm [u0, u1, u2, u3, .int .i64 0] w fun K18 x18 w => M.a.j18 (.pointer (some ⟨vb, 0, none⟩)) x18 K17 x1 K18 w K := by
 have hcr := V.jx
 refine ⟨bez W x (cs.map (·.m)) hs B av dv vb R, fun y _ => x.jx.length - ms y 4, ⟨cs, qs, 0, rfl, Nat.zero_le _, hT, rfl, S⟩, ?_⟩
 rintro x18 w1 ⟨cs1, qs1, j, y4, hj, hT1, hm1, S1⟩
 have fv : ∀ {w' : World} {L : List Asn}, St W w' (pk vb x :: L) → fi w' vb 4 = some x.cv := fun S' => (ue S').2.2.2.2.1
 have fk : ∀ {w' : World} {L : List Asn}, St W w' (pk vb x :: L) → fi w' vb 5 = some x.kv := fun S' => (ue S').2.2.2.2.2
 have clen : ∀ w' K, biT P .len #[T.g] T.b [false] [x.cv] w' K = K (.int .i64 x.jx.length) w' := fun w' K => V.vt.jx.1.ii (by kernel_rfl) [false]
 unfold M.a.j18
 rw [y4]
 by_cases hjl : j < x.jx.length
 case neg =>
  simp [fv S1.up3, clen, hjl]
  exact h w1 cs1 qs1 _ hT1 hm1 S1
 have hwi : IntKind.i64.wrap ((j : Int) + 1) = ((j + 1 : Nat) : Int) := by rw [fj (by omega) (by omega)]; rfl
 simp [fv S1.up3, clen, hjl]
 unfold M.a.j19
 rw [y4, g6, g7]
 obtain ⟨ab, ao, hia, hac⟩ := age V.vt.jx.1 hjl
 generalize x.jx[j] = idx at *
 have next : ∀ y20 w' cs' qs', Tri cs' qs' hs B → cs'.map (·.m) = cs.map (·.m) → St W w' (anp cs' av qs' dv hs vb x R) → (fun y w => bez W x (cs.map (·.m)) hs B av dv vb R y w ∧ x.jx.length - ms y 4 < x.jx.length - ms x18 4) [gv y20 0, gv y20 1, gv y20 2, gv y20 3, .int .i64 (IntKind.i64.wrap ((j : Int) + 1))] w' := fun y20 w' cs' qs' hT' hm' S' => by
  rw [hwi]
  refine ⟨⟨cs', qs', j + 1, rfl, by omega, hT', hm', S'⟩, ?_⟩
  have : ms x18 4 = j := by unfold ms; rw [y4]; simp
  rw [this]
  simp [ms, gv]; omega
 by_cases i0 : 0 ≤ idx
 case neg =>
  simp [fv S1.up3, hia, hac S1, i0]
  exact next [_, _, _, _] w1 cs1 qs1 hT1 hm1 S1
 by_cases i3 : idx < 3
 case neg =>
  simp [fv S1.up3, hia, hac S1, i0, i3]
  exact next [_, _, _, _] w1 cs1 qs1 hT1 hm1 S1
 obtain ⟨z, rfl⟩ : ∃ z : Nat, idx = (z : Nat) := ⟨idx.toNat, by omega⟩
 have hz : z < cs1.length := by have := hT1.n; omega
 have hzh : z < hs.length := by rw [← hT1.h]; simpa using hz
 have hzq : z < qs1.length := by rw [← hT1.q]; simpa using hz
 have S2 := S1.iq ((Fr.refl _ w1).dr 1)
 obtain ⟨db, dof, hid, hdc⟩ := avg (t := T.ao) S2.up2 (by kernel_rfl) (by kernel_rfl) hzh
 have ehb : hs[z] = cs1[z].hb := by
  have : (cs1.map (·.hb))[z]'(by simpa using hz) = hs[z] := by simp only [hT1.h]
  rw [← this, List.getElem_map]
 rw [ehb] at hdc
 have hzi : (z : Int) < 3 := i3
 simp [fv S1.up3, hia, hac S1, i3, hid, hdc S2.up2, fk S2.up3]
 obtain ⟨s, f, G, I, hmost, hB1, hda⟩ := hT1.ok _ (List.getElem_mem hz)
 refine aqj (afu S2 hz).swap (kl := x.ip) (fun w' L S' => S'.old V.vt.ip) fun w3 S3 => ?_
 simp [hdc S3.up4]
 obtain ⟨v1', v2', v3', v4'⟩ := awy I.afy.vir x.ip
 refine abc (m1 := cs1[z].m) (m2 := cs1[z].m) S3 v1' v2' (by omega) I.ft (agi I.set) fun w4 q1 m1 s1 f1 L1 D1 hm1' I1 hmost1 hfl1 harm1 hroom1 _ hlen1 S4 => ?_
 have hmm : m1 = cs1[z].m := by rcases hm1' with h | h <;> exact h
 subst hmm
 have S5 : St W w4 (ni (cs1.set z ⟨q1, cs1[z].hb, cs1[z].m, L1, D1⟩) :: acf av qs1 :: adr dv hs :: pk vb x :: R) := aiw hz (c := ⟨q1, cs1[z].hb, cs1[z].m, L1, D1⟩) S4.up2.drop
 have hT2 : Tri (cs1.set z ⟨q1, cs1[z].hb, cs1[z].m, L1, D1⟩) (qs1.set z q1) hs B := by
  refine ⟨by rw [List.length_set]; exact hT1.n, by rw [List.map_set, hT1.q], by rw [zt _ _ _ hz (by rfl)]; exact hT1.h, fun c hc => ?_⟩
  rcases List.mem_or_eq_of_mem_set hc with hc | rfl
  ·exact hT1.ok c hc
  ·exact ⟨s1, f1, _, I1, hmost1, by show f1 + ((ge L1.fl).length : Int) ≤ B; omega, by rw [harm1]; exact v3'⟩
 obtain ⟨qb, qo, hiq, hqc⟩ := avg (t := T.w) S5.swap (by kernel_rfl) (by kernel_rfl) hzq
 obtain ⟨b2, cap2, hv2, n1, n2, n3, S6⟩ := S5.swap.axh pg hzq q1 (f := 0) (u := iz q1) (by omega) rfl
 have hiq2 : ∀ w' K, iaT P T.w av (.int .i64 (z : Nat)) w' K = K (.pointer (some ⟨b2, z, none⟩)) w' := fun w' K => by
  rw [hv2, agp (by kernel_rfl) (by omega) (by omega), show szE P T.w = 1 from by kernel_rfl]
  simp
 unfold iz at S6
 simp only [iz]
 simp at n1 S6
 simp [hiq2, n1, n2]
 exact next [_, _, _, _] _ _ _ hT2 (by rw [zt _ _ _ hz (by rfl)]; exact hm1) S6.swap
end
end Go.Proofs.YtfnhoaemapheoaaGreat
