/-
  A replica's records: shown and read. No condition.
-/
import Derived.Test.YtfnhoaemapheoaaGreatZRg0
import Derived.Test.YtfnhoaemapheoaaGreatZSrtUD
import Derived.Test.YtfnhoaemapheoaaGreatZKeyD
import Derived.Test.YtfnhoaemapheoaaGreatZEngSl
set_option maxRecDepth 100000
namespace Go.Proofs.YtfnhoaemapheoaaGreat
open Go.Eng Go.Proofs.YtfnhoaemapheoaaGreat.Sint
theorem bic (a b c d e : Int) (w : World) (K : KV) : iz P T.ak #[(0, .int .u64 a), (1, .int .u64 b), (2, .int .u64 c), (3, .int .u64 d), (4, .int .u64 e)] w K = K (.agg #[.int .u64 a, .int .u64 b, .int .u64 c, .int .u64 d, .int .u64 e]) w := .trans (by kernel_rfl) rfl
theorem bho (a b c d e : Value) (w : World) (K : KV) : ixT P T.ak (.agg #[a, b, c, d, e]) (.int .i64 0) w K = K a w := .trans (by kernel_rfl) rfl
theorem bgx (a b c d e : Value) (w : World) (K : KV) : ixT P T.ak (.agg #[a, b, c, d, e]) (.int .i64 1) w K = K b w := .trans (by kernel_rfl) rfl
theorem bhk (a b c d e : Value) (w : World) (K : KV) : ixT P T.ak (.agg #[a, b, c, d, e]) (.int .i64 2) w K = K c w := .trans (by kernel_rfl) rfl
theorem bhp (a b c d e : Value) (w : World) (K : KV) : ixT P T.ak (.agg #[a, b, c, d, e]) (.int .i64 3) w K = K d w := .trans (by kernel_rfl) rfl
theorem bhq (a b c d e : Value) (w : World) (K : KV) : ixT P T.ak (.agg #[a, b, c, d, e]) (.int .i64 4) w K = K e w := .trans (by kernel_rfl) rfl
theorem bdd (b : Nat) (w : World) (K : KV) : iaT P T.ak (.pointer (some ⟨b, 0, none⟩)) (.int .i64 0) w K = K (.pointer (some ⟨b, 0, none⟩)) w := .trans (by kernel_rfl) rfl
theorem bde (b : Nat) (w : World) (K : KV) : iaT P T.ak (.pointer (some ⟨b, 0, none⟩)) (.int .i64 1) w K = K (.pointer (some ⟨b, 1, none⟩)) w := .trans (by kernel_rfl) rfl
theorem bcz (b : Nat) (w : World) (K : KV) : iaT P T.ak (.pointer (some ⟨b, 0, none⟩)) (.int .i64 2) w K = K (.pointer (some ⟨b, 2, none⟩)) w := .trans (by kernel_rfl) rfl
theorem bda (b : Nat) (w : World) (K : KV) : iaT P T.ak (.pointer (some ⟨b, 0, none⟩)) (.int .i64 3) w K = K (.pointer (some ⟨b, 3, none⟩)) w := .trans (by kernel_rfl) rfl
theorem bcw (b : Nat) (w : World) (K : KV) : iaT P T.ak (.pointer (some ⟨b, 0, none⟩)) (.int .i64 4) w K = K (.pointer (some ⟨b, 4, none⟩)) w := .trans (by kernel_rfl) rfl
theorem aex : ∀ l : List Int, (l.flatMap lb).length = l.length * 8
 | [] => rfl
 | x :: l => by rw [List.flatMap_cons, List.length_append, qe, aex l, List.length_cons]; omega
def acy (k : Int) (r : Rg) : List Int := [k, r.p.n, r.p.gj, r.t.n, r.t.gj]
def ShI (w0 : World) (k : Int) (r : Rg) (R : List Asn) : KL := fun x w1 => ∃ (u v : Value) (i : Nat), x = [u, v, .int .i64 (i : Nat)] ∧ i ≤ 5 ∧ St w0 w1 (jt v (((acy k r).take i).flatMap lb) :: R)
section
variable {w0 w : World} {R : List Asn}
theorem bge (a b c d e : Int) {i : Nat} (hi : i < 5) (w : World) (K : KV) : ixT P T.ak (.agg #[.int .u64 a, .int .u64 b, .int .u64 c, .int .u64 d, .int .u64 e]) (.int .i64 (i : Nat)) w K = K (.int .u64 ([a, b, c, d, e][i]'hi)) w := by
 match i, hi with
 | 0, _ => exact bho _ _ _ _ _ _ _
 | 1, _ => exact bgx _ _ _ _ _ _ _
 | 2, _ => exact bhk _ _ _ _ _ _ _
 | 3, _ => exact bhp _ _ _ _ _ _ _
 | 4, _ => exact bhq _ _ _ _ _ _ _
theorem bgb (b : Nat) {i : Nat} (hi : i < 5) (w : World) (K : KV) : iaT P T.ak (.pointer (some ⟨b, 0, none⟩)) (.int .i64 (i : Nat)) w K = K (.pointer (some ⟨b, i, none⟩)) w := by
 match i, hi with
 | 0, _ => exact bdd _ _ _
 | 1, _ => exact bde _ _ _
 | 2, _ => exact bcz _ _ _
 | 3, _ => exact bda _ _ _
 | 4, _ => exact bcw _ _ _
theorem atv (S : St w0 w R) (k : Int) {r : Rg} (hv : 0 ≤ r.v ∧ r.v ≤ 3) {K : KV} (h : ∀ w' v', St w0 w' (jt v' (lz k r) :: R) → K v' w') : fk P F.di [.int .u64 k, jw r] w K := by
 rw [M.cy.fcall]
 apply M.cy.calls
 unfold M.cy
 refine St.po S fun b w1 S1 => ?_
 have S1' : St w0 w1 (gc b (rgC r) T.g :: R) := S1
 have c0 : fx w1 b 0 = some (.int .u64 r.p.n) := by rw [S1'.cell]; rfl
 have c1 : fx w1 b 1 = some (.int .u64 r.p.gj) := by rw [S1'.cell]; rfl
 have c2 : fx w1 b 2 = some (.int .u64 r.t.n) := by rw [S1'.cell]; rfl
 have c3 : fx w1 b 3 = some (.int .u64 r.t.gj) := by rw [S1'.cell]; rfl
 simp [c0, c1, c2, c3, bic]
 refine ⟨ShI w0 k r (gc b (rgC r) T.g :: R), fun x _ => 5 - ms x 2, ⟨_, _, 0, rfl, Nat.zero_le _, qz S1'⟩, ?_⟩
 rintro x w2 ⟨u, v, i, rfl, hi, S2⟩
 by_cases hil : i < 5
 ·have hili : (i : Int) < 5 := by omega
  have hwi : IntKind.i64.wrap ((i : Int) + 1) = ((i + 1 : Nat) : Int) := by rw [ft (by omega) (by omega)]; rfl
  simp [hili]
  unfold M.cy.j2
  simp [bge _ _ _ _ _ hil]
  have hlen : (((acy k r).take i).flatMap lb).length ≤ 100000000 := by
   rw [aex, List.length_take]
   omega
  refine aqc S2 hlen _ fun w3 v3 S3 => ?_
  simp [hwi]
  refine ⟨⟨_, _, i + 1, rfl, by omega, ?_⟩, by simp [ms, gv]; omega⟩
  have e : (((acy k r).take (i + 1)).flatMap lb) = (((acy k r).take i).flatMap lb) ++ lb ((acy k r)[i]'hil) := by
   rw [List.take_add_one, List.getElem?_eq_getElem (show i < (acy k r).length from hil), List.flatMap_append]
   show _ ++ ([_] : List Int).flatMap lb = _
   simp only [List.flatMap_cons, List.flatMap_nil, List.append_nil]
   rfl
  rw [e]
  exact S3
 ·have hi5 : i = 5 := by omega
  subst hi5
  simp
  unfold M.cy.j0
  have cv : fx w2 b 4 = some (.int .i64 r.v) := by rw [S2.swap.cell]; rfl
  simp [cv]
  rw [lw (ks := .i64) (kd := .u8) (by kernel_rfl) (by kernel_rfl)]
  have hw8 : IntKind.u8.wrap r.v = r.v := by
   obtain ⟨n, hn⟩ : ∃ n : Nat, r.v = n := ⟨r.v.toNat, by omega⟩
   rw [hn]; exact bdb (by omega)
  rw [hw8]
  simp
  have S3 := bcp S2 r.v
  refine Go.Eng.xw et.e je xq S3.swap (l2 := [r.v]) (S3.row je) ?_ (by decide) fun w4 v4 S4 => ?_
  ·have : (((acy k r).take 5).flatMap lb).length = 40 := by
    rw [aex]
    rfl
   rw [this]; simp
  ·refine h w4 v4 ?_
   have e : ((acy k r).take 5).flatMap lb ++ [r.v] = lz k r := by
    show ((acy k r).flatMap lb) ++ [r.v] = _
    unfold acy lz
    simp only [List.flatMap_cons, List.flatMap_nil, List.append_nil, List.append_assoc]
   rw [e] at S4
   exact (S4.swap.drop).swap.drop
end
def aim (b : List Int) (i : Nat) : Array Value := ((List.range 5).map fun j => if j < i then Value.int .u64 (nf (b.drop (8 * j))) else .int .u64 0).toArray
theorem bat (b : List Int) {i : Nat} (hi : i < 5) : (aim b i).setIfInBounds i (.int .u64 (nf (b.drop (8 * i)))) = aim b (i + 1) := by
 match i, hi with
 | 0, _ => rfl
 | 1, _ => rfl
 | 2, _ => rfl
 | 3, _ => rfl
 | 4, _ => rfl
def RdI (W : World) (ab rb : Nat) (b : List Int) : KL := fun x w1 => ∃ (u : Value) (i : Nat), x = [u, .int .i64 (i : Nat)] ∧ i ≤ 5 ∧ St W w1 (gc ab (aim b i) T.ak :: gc rb (rgC rg0) T.g :: [])
theorem bbt {w : World} {v : Value} {b : List Int} (hs : SlB w v b) {k : Int} {r : Rg} (hr : ahj b = some (k, r)) {K : KV} (h : ∀ w', Fr (fun _ => False) w w' → K (.tuple #[.int .u64 k, jw r, .bool true]) w') : fk P F.em [v] w K := by
 unfold ahj at hr
 by_cases hl : b.length = 41
 case neg => rw [if_pos hl] at hr; cases hr
 rw [if_neg (by simp [hl])] at hr
 split at hr
 case isFalse => cases hr
 rename_i hc
 obtain ⟨hk0, hrt⟩ := hc
 simp only [Option.some.injEq, Prod.mk.injEq] at hr
 obtain ⟨ek, er⟩ := hr
 rw [er] at hrt
 have hln : ∀ w' K, biT P .len #[T.e] T.b [false] [v] w' K = K (.int .i64 (41 : Nat)) w' := fun w' K => by rw [hs.ip (by kernel_rfl) [false], hl]
 rw [M.cb.fcall]
 apply M.cb.calls
 unfold M.cb
 simp
 have S1 := tq (St.jc w) T.g
 generalize w.heap.size = rb at *
 generalize w.alloc _ = w1 at *
 simp [hln]
 unfold M.cb.j0
 simp
 have S2 : St w (w1.alloc (.cells #[.int .u64 0, .int .u64 0, .int .u64 0, .int .u64 0, .int .u64 0] T.ak)) (gc w1.heap.size (aim b 0) T.ak :: _) := S1.mkB (aim b 0) T.ak
 generalize w1.heap.size = ab at *
 generalize w1.alloc _ = w2 at *
 refine ⟨RdI w ab rb b, fun x _ => 5 - ms x 1, ⟨_, 0, rfl, Nat.zero_le _, S2⟩, ?_⟩
 rintro x w3 ⟨u, i, rfl, hi, S3⟩
 by_cases hil : i < 5
 ·have hili : (i : Int) < 5 := by omega
  have hwi : IntKind.i64.wrap ((i : Int) + 1) = ((i + 1 : Nat) : Int) := by rw [ft (by omega) (by omega)]; rfl
  have hw8 : IntKind.i64.wrap (8 * (i : Int)) = ((8 * i : Nat) : Int) := by rw [ft (by omega) (by omega)]; omega
  simp [hili]
  unfold M.cb.j3
  have hs3 : SlB w3 v b := hs.fr S3.fr fun _ _ _ h => h
  obtain ⟨v', s', _, hsub⟩ := hs3.sub (P := P) (t := T.e) (lo := some (.int .i64 ((8 * i : Nat) : Int))) (hi := none) (i := 8 * i) (j := b.length) (by kernel_rfl) (by kernel_rfl) (.inr ⟨_, rfl⟩) (.inl ⟨rfl, rfl⟩) (by omega) (Nat.le_refl _)
  have e4 : (List.take (b.length - 8 * i) (List.drop (8 * i) b)) = b.drop (8 * i) := List.take_of_length_le (by simp)
  rw [e4] at s'
  simp [hw8]
  rw [show (8 * (i : Int)) = ((8 * i : Nat) : Int) by omega, hsub]
  refine aws s' (by simp; omega) ?_
  simp [bgb ab hil]
  refine S3.ug rfl (by simp [aim]; omega) fun w4 S4 => ?_
  rw [bat b hil] at S4
  simp [hwi]
  exact ⟨⟨_, i + 1, rfl, by omega, S4⟩, by simp [ms, gv]; omega⟩
 ·have hi5 : i = 5 := by omega
  subst hi5
  simp
  unfold M.cb.j1
  have S3d := S3.iu ((Fr.refl _ w3).dr 1)
  have c0 : fx w3 ab 0 = some (.int .u64 (nf b)) := by rw [S3.cell]; rfl
  have c1 : fx w3 ab 1 = some (.int .u64 (nf (b.drop 8))) := by rw [S3.cell]; rfl
  have c2 : fx w3 ab 2 = some (.int .u64 (nf (b.drop 16))) := by rw [S3.cell]; rfl
  have c3 : fx w3 ab 3 = some (.int .u64 (nf (b.drop 24))) := by rw [S3.cell]; rfl
  have c4 : fx w3 ab 4 = some (.int .u64 (nf (b.drop 32))) := by rw [S3.cell]; rfl
  obtain ⟨vb, vo, vc, hv, hvb, _, hcv⟩ := hs.at (i := 40) (by omega)
  have cb0 := hcv 0 _ rfl
  simp only [Nat.mul_one, Nat.add_zero] at cb0
  have eg : b[40]'(by omega) = r.v := by
   have := congrArg Rg.v er
   simp only at this
   rw [List.getD_eq_getElem?_getD, List.getElem?_eq_getElem (by omega)] at this
   exact this
  rw [eg] at cb0
  have cbW : ∀ {w' : World}, Fr (fun _ => False) w w' → fx w' vb (vo + 40) = some (.int .u8 r.v) := fun f => by rw [td (f.jj vb hvb fun h => h)]; exact cb0
  have cb := cbW S3.fr
  have hiv : ∀ w' K, iaT P T.e v (.int .i64 40) w' K = K (.pointer (some ⟨vb, vo + 40, none⟩)) w' := fun w' K => by rw [hv]; simp [hl]
  have hvr : 0 ≤ r.v ∧ r.v ≤ 3 := by
   unfold Rg.right at hrt
   split at hrt
   ·simp at hrt; omega
   ·simp [ki] at hrt; omega
  have hcvt : ∀ w' K, cvT P T.an T.j (.int .u8 r.v) w' K = K (.int .i64 r.v) w' := fun w' K => by
   rw [lw (ks := .u8) (kd := .i64) (by kernel_rfl) (by kernel_rfl), ft (by omega) (by omega)]
  simp [bdd, bde, bcz, bda, bcw, c0, c1, c2, c3, c4, hiv, cb, hcvt]
  have er1 : r.p.n = nf (b.drop 8) := by rw [← er]
  have er2 : r.p.gj = nf (b.drop 16) := by rw [← er]
  have er3 : r.t.n = nf (b.drop 24) := by rw [← er]
  have er4 : r.t.gj = nf (b.drop 32) := by rw [← er]
  rw [← er1, ← er2, ← er3, ← er4]
  rw [← er1] at c1
  rw [← er2] at c2
  rw [← er3] at c3
  rw [← er4] at c4
  rw [ek] at c0
  have S4 : St w ((dr w3 1).alloc (.cells #[.int .u64 0, .int .u64 0, .int .u64 0, .int .u64 0, .int .i64 0] T.g)) (gc (dr w3 1).heap.size (rgC rg0) T.g :: _) := tq S3d T.g
  rw [show (dr w3 1).heap.size = w3.heap.size from rfl] at S4
  generalize w3.heap.size = qb at *
  generalize (dr w3 1).alloc _ = w4 at *
  have cb4 := cbW S4.fr
  have arrC : ∀ {w' : World} {L : List Asn}, St w w' (gc ab (aim b 5) T.ak :: L) → fx w' ab 0 = some (.int .u64 k) ∧ fx w' ab 1 = some (.int .u64 r.p.n) ∧ fx w' ab 2 = some (.int .u64 r.p.gj) ∧ fx w' ab 3 = some (.int .u64 r.t.n) ∧ fx w' ab 4 = some (.int .u64 r.t.gj) := fun {w' L} S' => by
   have e0 : fx w' ab 0 = some (.int .u64 (nf b)) := by rw [S'.cell]; rfl
   have e1 : fx w' ab 1 = some (.int .u64 (nf (b.drop 8))) := by rw [S'.cell]; rfl
   have e2 : fx w' ab 2 = some (.int .u64 (nf (b.drop 16))) := by rw [S'.cell]; rfl
   have e3 : fx w' ab 3 = some (.int .u64 (nf (b.drop 24))) := by rw [S'.cell]; rfl
   have e4 : fx w' ab 4 = some (.int .u64 (nf (b.drop 32))) := by rw [S'.cell]; rfl
   rw [ek] at e0
   rw [← er1] at e1
   rw [← er2] at e2
   rw [← er3] at e3
   rw [← er4] at e4
   exact ⟨e0, e1, e2, e3, e4⟩
  obtain ⟨d0, d1, d2, d3, d4⟩ := arrC S4.swap
  simp [cb4, d1, d2, d3, d4]
  refine pf (r' := r) S4 fun w5 S5 => ?_
  have S5d := S5.iu ((Fr.refl _ w5).dr 1)
  obtain ⟨e0, _⟩ := arrC S5d.swap
  simp only [mf] at e0
  obtain ⟨_, _, _, rl5⟩ := iw S5d
  have hkp : 0 < k := by omega
  simp [e0, rl5, hkp]
  refine azc r fun w6 f6 => ?_
  have S6 := S5d.iu f6
  obtain ⟨g0, _⟩ := arrC S6.swap
  obtain ⟨_, _, _, rl6⟩ := iw S6
  rw [hrt]
  simp [g0, rl6]
  unfold jw
  simp
  refine pf (r' := r) S6.up2 fun w7 S7 => ?_
  obtain ⟨_, _, _, rl7⟩ := iw S7
  rw [abb, rl7]
  exact ⟨rfl, h w7 S7.fr⟩
end Go.Proofs.YtfnhoaemapheoaaGreat
set_option maxRecDepth 100000
namespace Go.Proofs.YtfnhoaemapheoaaGreat.KeyR
open Go.Eng Go.Sort Go.Proofs.YtfnhoaemapheoaaGreat.Suint64
def KI (w W : World) (U : Nat → Prop) (r : Nat) (m : MP) (J : List Int → Asn) : KL := fun x w1 => ∃ (done : List Int) (U1 : Nat → Prop), x.length = 1 ∧ ye w1 W.heap.size r .u64 m done ∧ (J done.reverse).ok w1 U1 ∧ (∀ b, U1 b → w.heap.size ≤ b ∧ b < w1.heap.size ∧ b ≠ W.heap.size) ∧ Fr (fun b => w.heap.size ≤ b) W w1
theorem abi {w : World} {it r : Nat} {k : IntKind} {m : MP} {done : List Int} (h : ye w it r k m done) : done.Nodup ∧ ∀ x ∈ done, x ∈ jg m := by
 obtain ⟨es, clk, since, c0, im, _, _, _, _, _, _, _, _, _, h1, h2⟩ := h
 exact ⟨h1, h2⟩
theorem aiw {w : World} {r Bm : Nat} {m : MP} {e : TypeId} (hm : ph w r .u64 m) (hn : (jg m).Nodup) (hB : w.heap[Bm]? = some (.cells #[.map (some r)] e (0, 0))) (hl : m.length < 60000) :
  ail P F.a [.pointer (some ⟨Bm, 0, none⟩)] abr (fun xs => xs.Perm (jg m)) 60000 w := by
 intro l J W U K hf hJ hU hround hend
 apply M.t.calls
 unfold M.t
 have hBm : W.heap[Bm]? = some (.cells #[.map (some r)] e (0, 0)) := hf.heap hB fun h => h
 have c0 := fy hBm 0
 simp only [List.size_toArray, List.getElem?_toArray, List.getElem?_cons_zero] at c0
 have hm' : ph W r .u64 m := hm.yz (hf.jj r hm.lt fun h => h)
 have hrw := hm.lt
 simp [c0]
 refine axp mt.r hm' fun w1 hi f1 => ?_
 have hWs := hf.size
 have hWlt := (hi.lt).1
 refine ⟨KI w W U r m J, fun _ w1 => vh w1 W.heap.size m.length, ⟨[], U, rfl, hi, (J []).jj hJ f1 fun _ _ h => h, fun b hb => ?_, f1.mono fun _ _ h => h.elim⟩, ?_⟩
 ·have := hU b hb
  have := f1.size
  exact ⟨by omega, by omega, by omega⟩
 rintro x w2 ⟨done, U1, hx1, hi2, hJ2, hU2, f2⟩
 unfold M.t.j0
 refine ays hi2 hn T.bg (fun hall => ?_) fun y v w3 hy hyd hc3 f3 hlt => ?_
 ·have e0 : ∀ w K, exT P (.tuple #[.bool false]) 0 w K = K (.bool false) w := fun _ _ => rfl
  simp [e0]
  obtain ⟨h1, h2⟩ := abi hi2
  refine hend _ w2 done.reverse U1 ?_ hJ2 f2
  refine (List.reverse_perm done).trans ?_
  refine (List.perm_ext_iff_of_nodup h1 hn).2 fun z => ⟨h2 z, fun hz => ?_⟩
  obtain ⟨p, hp, rfl⟩ := List.mem_map.1 hz
  exact hall p hp
 ·simp
  rw [axh hc3]
  simp
  have hnit : ∀ b, U1 b → ¬ b = W.heap.size := fun b hb => (hU2 b hb).2.2
  have hJ3 := (J done.reverse).jj hJ2 f3 hnit
  have hlen : done.length < m.length := by
   obtain ⟨h1, h2⟩ := abi hi2
   have := uh (l := y :: done) (l' := jg m) (List.nodup_cons.2 ⟨hyd, h1⟩) fun z hz => by
    rcases List.mem_cons.1 hz with rfl | hz
    ·exact List.mem_map_of_mem hy
    ·exact h2 z hz
   simp only [jg, List.length_map, List.length_cons] at this
   omega
  have hs3 := f3.size
  refine hround done.reverse y w3 U1 _ hJ3 (fun b hb => ⟨(hU2 b hb).1, by have := (hU2 b hb).2.1; omega⟩) (by simp; omega) fun w4 U4 hJ4 hU4 f4 => ?_
  simp
  have hit : ¬ U1 W.heap.size := fun h => hnit _ h rfl
  have hr1 : ¬ U1 r := fun h => by have := (hU2 r h).1; omega
  have hi3 : ye w3 W.heap.size r .u64 m (y :: done) := hc3.1
  have hi4 := hi3.jj (f4.jj _ hi3.lt.1 hit) (f4.jj _ hi3.lt.2 hr1)
  refine ⟨⟨y :: done, U4, rfl, hi4, by simpa using hJ4, fun b hb => ?_, ?_⟩, ?_⟩
  ·rcases hU4 b hb with h | h
   ·have := hU2 b h
    have := f4.size
    exact ⟨by omega, by omega, by omega⟩
   ·have := hi3.lt.1
    have := f2.size
    exact ⟨by omega, by omega, by omega⟩
  ·refine (f2.jq f3 fun b hb he => by omega).jq f4 fun b hb he => (hU2 b he).1
  ·have : vh w4 W.heap.size m.length = vh w3 W.heap.size m.length := by
    unfold vh
    rw [f4.jj _ hi3.lt.1 hit]
   rw [this]; exact hlt
theorem alw {w : World} {r : Nat} {m : MP} (hm : ph w r .u64 m) (hn : (jg m).Nodup) (hl : m.length < 60000) {K : KV}
  (h : ∀ w' v, OwN w' w.heap.size v (oe (jg m)) → Fr (fun _ => False) w w' → K v w') :
  fk P F.e [.map (some r)] w fun t w => fk P F.az [t] w K := by
 rw [M.ac.fcall]
 apply M.ac.calls
 unfold M.ac
 rw [wo, arf]
 show fk P F.az _ _ K
 rw [M.dj.fcall]
 have f1 : Fr (fun _ => False) w (w.alloc (.cells #[.map (some r)] T.r)) := (Fr.refl _ w).alloc _
 have hB : (w.alloc (.cells #[.map (some r)] T.r)).heap[w.heap.size]? = some (.cells #[.map (some r)] T.r (0, 0)) := by rw [gm, if_pos rfl]
 have hsz : w.heap.size ≤ (w.alloc (.cells #[.map (some r)] T.r)).heap.size := by simp
 refine aha (ks := jg m) FN.a.at (by kernel_rfl) (by kernel_rfl) (by simpa [jg] using hl) (aiw (hm.yz (f1.jj r hm.lt fun h => h)) hn hB hl) fun w2 v o2 f2 => ?_
 exact h w2 v (o2.mono hsz) (f1.trans f2)
end Go.Proofs.YtfnhoaemapheoaaGreat.KeyR
set_option maxRecDepth 100000
namespace Go.Proofs.YtfnhoaemapheoaaGreat
open Go.Eng Go.Proofs.YtfnhoaemapheoaaGreat.Sint
def aeq (m : iy) (mm : MP) : Prop := ∀ k, ly mm k = (lk m k).map jw
def nt (hb p r : Nat) (gr : Bool) : Array Value := #[.pointer (some ⟨hb, 0, none⟩), .pointer (some ⟨p, 0, none⟩), .map (some r), .bool gr]
def ko (q hb : Nat) (m : iy) (L : Lg) (gr : Bool) : Asn where
 ok w B := ∃ p r mm, aeq m mm ∧ Rs [gc q (nt hb p r gr) T.l, ku r .u64 mm, la p hb L] w B
 jj := by
  rintro w w' B S ⟨p, r, mm, h1, h2⟩ hf hn
  exact ⟨p, r, mm, h1, h2.jj hf hn⟩
section
variable {w0 w : World} {R : List Asn} {q hb p r : Nat} {m : iy} {L : Lg} {gr : Bool} {mm : MP}
theorem St.s22 {a b c d : Asn} (S : St w0 w (a :: b :: c :: d :: R)) : St w0 w (c :: d :: a :: b :: R) := S.perm ((List.perm_append_comm (l₁ := [a, b]) (l₂ := [c, d])).append_right R)
theorem ach (S : St w0 w (ko q hb m L gr :: R)) : ∃ p r mm, aeq m mm ∧ St w0 w (gc q (nt hb p r gr) T.l :: ku r .u64 mm :: la p hb L :: R) := by
 obtain ⟨B, ⟨p, r, mm, h1, h2⟩, _, cl⟩ := S.open
 exact ⟨p, r, mm, h1, cl w [gc q (nt hb p r gr) T.l, ku r .u64 mm, la p hb L] (Fr.refl _ _) (h2.mono fun b hb => .inl hb)⟩
theorem aep (h : aeq m mm) (S : St w0 w (gc q (nt hb p r gr) T.l :: ku r .u64 mm :: la p hb L :: R)) : St w0 w (ko q hb m L gr :: R) := by
 obtain ⟨U, h4, _, g⟩ := St.aau (L := [gc q (nt hb p r gr) T.l, ku r .u64 mm, la p hb L]) (R := R) S
 exact g w [ko q hb m L gr] (Fr.refl _ _) ⟨U, ⟨p, r, mm, h, h4⟩, fun b hb => .inl hb, trivial⟩
theorem ny (S : St w0 w (gc q (nt hb p r gr) T.l :: R)) : fx w q 0 = some (.pointer (some ⟨hb, 0, none⟩)) ∧ fx w q 1 = some (jd p) ∧ fx w q 2 = some (.map (some r)) ∧ fx w q 3 = some (.bool gr) :=
 ⟨by rw [S.cell]; rfl, by rw [S.cell]; rfl, by rw [S.cell]; rfl, by rw [S.cell]; rfl⟩
theorem aqs (h : aeq m mm) (ha : Asc m) (k : Int) (x : Rg) : aeq (nl m k x) (rq mm k (jw x)) := fun k' => by
 rw [acn, agw ha, h k']
 split <;> rfl
theorem azo : aeq [] [] := fun k => rfl
theorem ayj (h : aeq m mm) (ha : Asc m) (hn : (jg mm).Nodup) : Suint64.oe (jg mm) = m.map (·.1) := by
 have hmem : ∀ k, k ∈ jg mm ↔ k ∈ m.map (·.1) := fun k => by
  have h1 := afm mm k
  have h2 : lk m k = none ↔ k ∉ m.map (·.1) := by
   unfold lk
   rw [Option.map_eq_none_iff, List.find?_eq_none]
   simp only [decide_eq_true_eq, List.mem_map, not_exists, not_and]
  have h3 := h k
  constructor
  ·intro hk
   apply Classical.byContradiction
   intro hc
   rw [h2.2 hc] at h3
   exact h1.1 h3 hk
  ·intro hk
   apply Classical.byContradiction
   intro hc
   rw [h1.2 hc] at h3
   have : lk m k = none := by
    cases hl : lk m k with
    | none => rfl
    | some x => rw [hl] at h3; cases h3
   exact h2.1 this hk
 have hnd : (m.map (·.1)).Nodup := by
  unfold Asc at ha
  rw [List.nodup_iff_pairwise_ne, List.pairwise_map]
  exact ha.imp fun h => by omega
 have hp : (jg mm).Perm (m.map (·.1)) := (List.perm_ext_iff_of_nodup hn hnd).2 hmem
 have hs : (m.map (·.1)).Pairwise fun a b => a ≤ b := by
  unfold Asc at ha
  rw [List.pairwise_map]
  exact ha.imp fun h => by omega
 rw [Suint64.vp hp]
 show List.mergeSort _ _ = _
 exact List.mergeSort_of_pairwise (hs.imp fun h => by simpa using h)
theorem awv (S : St w0 w (ko q hb m L gr :: R)) (k : Int) {K : KV} (h : ∀ w', St w0 w' (ko q hb m L gr :: R) → K (jw (mi m k)) w') : fk P F.bk [jd q, .int .u64 k] w K := by
 obtain ⟨p, r, mm, hm, S1⟩ := ach S
 rw [M.bw.fcall]
 apply M.bw.calls
 unfold M.bw jd
 simp
 have S2 := tq S1 T.g
 generalize w.heap.size = tb at *
 generalize w.alloc _ = w2 at *
 obtain ⟨_, _, c2, _⟩ := ny S2.swap
 unfold M.bw.j0
 simp [c2]
 rw [aan mt.r (xg S2.up2).1, hm k]
 have e : ((lk m k).map jw).getD (.agg #[.int .u64 0, .int .u64 0, .int .u64 0, .int .u64 0, .int .i64 0]) = jw (mi m k) := by
  unfold mi
  cases lk m k <;> rfl
 rw [e]
 unfold jw
 simp
 refine pf (r' := mi m k) S2 fun w3 S3 => ?_
 obtain ⟨_, _, _, rl⟩ := iw S3
 rw [abb, rl]
 exact ⟨rfl, h w3 (aep hm S3.drop)⟩
theorem agf (S : St w0 w (ko q hb m L gr :: R)) (ha : Asc m) (hl : m.length < 60000) {K : KV} (h : ∀ w' v', St w0 w' (rdA 1 yl v' (m.map (·.1)) :: ko q hb m L gr :: R) → K v' w') : fk P F.ag [jd q] w K := by
 obtain ⟨p, r, mm, hm, S1⟩ := ach S
 rw [M.bj.fcall]
 apply M.bj.calls
 unfold M.bj jd
 simp
 unfold M.bj.j0
 obtain ⟨_, _, c2, _⟩ := ny S1
 simp [c2]
 obtain ⟨hmp, hn⟩ := xg S1.swap
 have hk := ayj hm ha hn
 have hlen : mm.length < 60000 := by
  have := congrArg List.length hk
  rw [(Suint64.nw _).length_eq] at this
  simp [jg] at this
  omega
 refine KeyR.alw hmp hn hlen fun w2 v2 o2 f2 => ?_
 rw [hk] at o2
 have o3 : OwU w2 w.heap.size v2 (m.map (·.1)) := o2
 exact h w2 v2 (S.add f2 (B := fun x => v2.ownBlock = some x) ⟨o3.sl ajp, fun b hb => hb⟩ fun b hb => o3.lt hb)
end
set_option maxRecDepth 100000
open Go.Eng Go.Proofs.YtfnhoaemapheoaaGreat.Sint
def wrF (L : Lg) (D : Dk) (ga : List (List Int)) : (Lg × Dk) × Int :=
 if (qq L D ga).2 = 0 then (((qq L D ga).1.1, ((qq L D ga).1.1.mu (qq L D ga).1.2).1), ((qq L D ga).1.1.mu (qq L D ga).1.2).2) else qq L D ga
theorem aqf {L : Lg} {D : Dk} {b : List Int} {r : List (List Int)} (h : (L.append D b).2 = 0) : wrF L D (b :: r) = wrF (L.append D b).1.1 (L.append D b).1.2 r := by
 have e : qq L D (b :: r) = qq (L.append D b).1.1 (L.append D b).1.2 r := by rw [qq, if_pos h]
 unfold wrF; rw [e]
theorem baa {L : Lg} {D : Dk} {b : List Int} {r : List (List Int)} (h : (L.append D b).2 ≠ 0) : wrF L D (b :: r) = L.append D b := by
 have e : qq L D (b :: r) = L.append D b := by rw [qq, if_neg h]
 unfold wrF; rw [e, if_neg h]
def wrL (lv : Value) (vs : List SV) (ga : List (List Int)) (q p hb r : Nat) (dn : Bool) (mm : MP) (L : Lg) (D : Dk) (R : List Asn) : List Asn :=
 la p hb L :: gk hb D :: pu (nj vs ga) :: Eng.jp T.e 1 oa lv vs :: gc q (nt hb p r dn) T.l :: ku r .u64 mm :: R
section
variable {w0 w : World} {R : List Asn} {q hb p r : Nat} {m : iy} {L : Lg} {dn : Bool} {mm : MP} {D : Dk} {G : Nat} {s f : Int} {lv : Value} {vs : List SV} {ga : List (List Int)}
def WrI (w0 : World) (lv : Value) (vs : List SV) (ga : List (List Int)) (q p hb r : Nat) (dn : Bool) (mm : MP) (s f : Int) (G : Nat) (L : Lg) (D : Dk) (R : List Asn) : KL := fun x w1 => ∃ (u : Value) (i : Nat) (Li : Lg) (Di : Dk), x = [u, .int .i64 0, .int .i64 (i : Nat)] ∧ i ≤ ga.length ∧ ni s f Li G Di ∧ f + (gh Li.fq).length + (ga.length - i : Nat) ≤ 1000000000000 ∧ wrF L D ga = wrF Li Di (ga.drop i) ∧ St w0 w1 (wrL lv vs ga q p hb r dn mm Li Di R)
theorem awe (S : St w0 w (wrL lv vs ga q p hb r dn mm L D R)) {k : Int} {x4 : List Value} (hx : gv x4 0 = .int .i64 k) {K : KV} (h : ∀ w', St w0 w' (wrL lv vs ga q p hb r (dn || decide (k = 10)) mm L D R) → K (.int .i64 k) w') : M.x.j4 (jd q) x4 w K := by
 have S1 : St w0 w (gc q (nt hb p r dn) T.l :: la p hb L :: gk hb D :: pu (nj vs ga) :: Eng.jp T.e 1 oa lv vs :: ku r .u64 mm :: R) := St.up4 (R := ku r .u64 mm :: R) S
 obtain ⟨_, _, _, c3⟩ := ny S1
 unfold M.x.j4 jd
 rw [hx]
 have fin : ∀ d, d = (dn || decide (k = 10)) → ∀ w', St w0 w' (gc q ((nt hb p r dn).setIfInBounds 3 (.bool d)) T.l :: la p hb L :: gk hb D :: pu (nj vs ga) :: Eng.jp T.e 1 oa lv vs :: ku r .u64 mm :: R) → K (.int .i64 k) w' := fun d e w' S' => by
  subst e
  exact h w' (St.dn4 (R := ku r .u64 mm :: R) S')
 cases dn with
 | true =>
  simp [c3]
  exact S1.ug rfl (by simp [nt]) fun w' S' => fin true (by simp) w' S'
 | false =>
  by_cases hk : k = 10
  ·simp [c3, hk]
   refine S1.ug rfl (by simp [nt]) fun w' S' => ?_
   have := fin true (by simp [hk]) w' S'
   rwa [hk] at this
  ·simp [c3, hk]
   exact S1.ug rfl (by simp [nt]) fun w' S' => fin false (by simp [hk]) w' S'
theorem aoz (S : St w0 w (ko q hb m L dn :: gk hb D :: jv lv ga :: R)) (hg : ni s f L G D) (hr : ∀ b ∈ ga, b.length ≤ 8192) (hn : f + (gh L.fq).length + ga.length ≤ 1000000000000) (hrl : ga.length ≤ 100000) {K : KV}
  (h : ∀ w', St w0 w' (ko q hb m (wrF L D ga).1.1 (dn || decide ((wrF L D ga).2 = 10)) :: gk hb (wrF L D ga).1.2 :: R) → K (.int .i64 (wrF L D ga).2) w') : fk P F.bb [jd q, lv] w K := by
 obtain ⟨p, r, mm, hm, S1⟩ := ach S
 have S2 : St w0 w (jv lv ga :: gc q (nt hb p r dn) T.l :: ku r .u64 mm :: la p hb L :: gk hb D :: R) := St.up4 S1
 obtain ⟨vs, hvs, S3⟩ := aeg S2
 have hlen := fun w' K => zc S2 w' K
 have S4 : St w0 w (wrL lv vs ga q p hb r dn mm L D R) := S3.perm (by
  have p1 := List.perm_append_comm (l₁ := [Eng.jp T.e 1 oa lv vs, pu (nj vs ga), gc q (nt hb p r dn) T.l, ku r .u64 mm]) (l₂ := [la p hb L, gk hb D])
  refine (p1.append_right R).trans ?_
  exact List.Perm.cons _ (List.Perm.cons _ (List.Perm.swap _ _ _)))
 rw [M.x.fcall]
 apply M.x.calls
 unfold M.x
 simp [hlen]
 have aus : ∀ {L' : Lg} {D' : Dk} {dn' : Bool} {w' : World}, St w0 w' (wrL lv vs ga q p hb r dn' mm L' D' R) → St w0 w' (ko q hb m L' dn' :: gk hb D' :: R) := fun {L' D' dn' w'} S' => by
  have T1 : St w0 w' (pu (nj vs ga) :: la p hb L' :: gk hb D' :: Eng.jp T.e 1 oa lv vs :: gc q (nt hb p r dn') T.l :: ku r .u64 mm :: R) := St.up2 S'
  have T2 := T1.drop
  have T3 : St w0 w' (Eng.jp T.e 1 oa lv vs :: la p hb L' :: gk hb D' :: gc q (nt hb p r dn') T.l :: ku r .u64 mm :: R) := St.up2 T2
  exact aep hm (St.s22 T3.drop)
 refine ⟨WrI w0 lv vs ga q p hb r dn mm s f G L D R, fun x _ => ga.length - ms x 2, ⟨_, 0, L, D, rfl, Nat.zero_le _, hg, by simpa using hn, by simp, S4⟩, ?_⟩
 rintro x w1 ⟨u, i, Li, Di, rfl, hi, gi, bi, ei, Si⟩
 by_cases hil : i < ga.length
 ·have hili : (i : Int) < (ga.length : Int) := by omega
  have hwi : IntKind.i64.wrap ((i : Int) + 1) = ((i + 1 : Nat) : Int) := by rw [ft (by omega) (by omega)]; rfl
  have hdrop : ga.drop i = ga[i] :: ga.drop (i + 1) := List.drop_eq_getElem_cons hil
  simp [hil]
  unfold M.x.j2 jd
  have hi' : i < vs.length := by omega
  have Srow : St w0 w1 (Eng.jp T.e 1 oa lv vs :: la p hb Li :: gk hb Di :: pu (nj vs ga) :: gc q (nt hb p r dn) T.l :: ku r .u64 mm :: R) := St.up3 Si
  obtain ⟨b, o, cap, hv, _, _, hc⟩ := (Srow.jp sr : Sl w1 1 oa lv vs).at hi'
  have c0 := hc 0 _ rfl
  simp only [Nat.mul_one, Nat.add_zero] at c0
  have hia : ∀ w' K, iaT P T.m lv (.int .i64 (i : Nat)) w' K = K (.pointer (some ⟨b, o + i, none⟩)) w' := fun w' K => by rw [hv]; simp [hi']
  have Sq : St w0 w1 (gc q (nt hb p r dn) T.l :: la p hb Li :: gk hb Di :: pu (nj vs ga) :: Eng.jp T.e 1 oa lv vs :: ku r .u64 mm :: R) := St.up4 Si
  obtain ⟨_, c1, _, _⟩ := ny Sq
  simp [hia, c0, c1]
  refine auk (av := (vs[i]).v) (rec := ga[i]) Si (bgk Si.swap gi) (by have := hr _ (List.getElem_mem hil); omega) (fun w' L' S' => ?_) fun w2 S5 => ?_
  ·have S6 : St w0 w' (pu (nj vs ga) :: (L' ++ Eng.jp T.e 1 oa lv vs :: gc q (nt hb p r dn) T.l :: ku r .u64 mm :: R)) := S'.perm List.perm_middle
   have S7 := St.apx (j := i) (L := nj vs ga) (by simp [nj]; omega) S6
   unfold nj at S7
   rw [List.getElem_zipWith] at S7
   exact S7.row je
  have ha := baj (b := ga[i]) gi (by omega)
  rw [hdrop] at ei
  by_cases h0 : (Li.append Di ga[i]).2 = 0
  ·rw [aqf h0] at ei
   generalize Li.append Di ga[i] = z at *
   cases ha with
   | ake => simp at h0
   | rh => simp at h0
   | gr => simp at h0
   | ok L' D' g' e1 =>
    simp [hwi]
    refine ⟨⟨_, i + 1, L', D', rfl, by omega, g', ?_, ei, S5⟩, by simp [ms, gv]; omega⟩
    rw [e1, List.length_append, List.length_singleton]
    omega
  ·rw [baa h0] at ei
   rw [ei] at h
   simp [h0]
   unfold M.x.j0
   simp [h0]
   exact awe S5 rfl fun w3 S8 => h w3 (aus S8)
 ·have hili : ¬ (i : Int) < (ga.length : Int) := by omega
  have hie : i = ga.length := by omega
  subst hie
  rw [List.drop_length] at ei
  have e0 : wrF Li Di [] = ((Li, (Li.mu Di).1), (Li.mu Di).2) := by unfold wrF qq; simp
  rw [e0] at ei
  rw [ei] at h
  simp
  unfold M.x.j0 jd
  have Sq : St w0 w1 (gc q (nt hb p r dn) T.l :: la p hb Li :: gk hb Di :: pu (nj vs ga) :: Eng.jp T.e 1 oa lv vs :: ku r .u64 mm :: R) := St.up4 Si
  obtain ⟨_, c1, _, _⟩ := ny Sq
  simp [c1]
  refine ars Si (by have := gi.vir.len; omega) fun w2 S5 => ?_
  exact awe S5 rfl fun w3 S8 => h w3 (aus S8)
end
set_option maxRecDepth 100000
open Go.Eng Go.Proofs.YtfnhoaemapheoaaGreat.Sint
section
variable {w0 w : World} {R : List Asn} {q hb p r : Nat} {m : iy} {L : Lg} {dn : Bool} {mm : MP} {D D' : Dk} {G : Nat} {s f : Int} {gp : Int} {Q' : List Prt}
def OpR (w0 : World) (rv : Value) (ga : List (List Int)) (q p hb r : Nat) (L : Lg) (D : Dk) (R : List Asn) : KL := fun x w1 => ∃ (u0 u1 u2 u3 u4 u5 : Value) (i : Nat) (mm : MP), x = [u0, u1, u2, u3, u4, u5, .int .i64 (i : Nat)] ∧ i ≤ ga.length ∧ aeq (jr (ga.take i)) mm ∧
 St w0 w1 (jv rv ga :: gc q (nt hb p r false) T.l :: ku r .u64 mm :: la p hb L :: gk hb D :: R)
theorem bdy (S : St w0 w R) : St w0 (w.alloc (.map #[] 0)) (ku w.heap.size .u64 [] :: R) := S.add (a := ku w.heap.size .u64 []) ((Fr.refl _ w).alloc _) (B := fun x => x = w.heap.size) ⟨⟨ahc w .u64, List.nodup_nil⟩, rfl⟩ fun b hb => by subst hb; rw [ja]; omega
theorem azp (S : St w0 w (gk hb D :: R)) (hmx : gp < 9223372036854775808) (eo : zn D gp = ((D', some Q'), 0)) (g : ni s f ⟨gp, Q'⟩ G D') (es : (Lg.mu ⟨gp, Q'⟩ D').2 = 0) (hr : vr (gh Q')) {K : KV}
  (h : ∀ w' q, St w0 w' (ko q hb (jr (gh Q')) ⟨gp, Q'⟩ false :: gk hb (Lg.mu ⟨gp, Q'⟩ D').1 :: R) → K (.tuple #[jd q, .int .i64 0]) w') : fk P F.bj [.pointer (some ⟨hb, 0, none⟩), .int .i64 gp] w K := by
 rw [M.bk.fcall]
 apply M.bk.calls
 unfold M.bk
 refine bfs S hmx (fun w2 hn _ => by rw [eo] at hn; cases hn) fun w2 p qs hs S2 => ?_
 rw [eo] at hs S2
 have hqs : qs = Q' := by simpa using (congrArg (·.1.2) hs).symm
 subst hqs
 simp only at S2
 simp only [jd]
 simp
 unfold M.bk.j0
 rw [aox]
 have S3 := bdy S2
 have z3 : (w2.alloc (.map #[] 0)).heap.size = w2.heap.size + 1 := ja _ _
 generalize hrr : w2.heap.size = r at *
 generalize w2.alloc (.map #[] 0) = w3 at *
 have e : iz P T.l #[(0, .pointer (some ⟨hb, 0, none⟩)), (1, .pointer (some ⟨p, 0, none⟩)), (2, .map (some r))] w3 = fun K => K (.agg (nt hb p r false)) w3 := by funext K; simp [nt]
 rw [e]
 refine St.po S3 fun q w4 S4 => ?_
 have S5 : St w0 w4 (la p hb ⟨gp, qs⟩ :: gk hb D' :: gc q (nt hb p r false) T.l :: ku r .u64 [] :: R) := St.s22 S4
 simp
 refine apu S5 g fun w5 rv S6 => ?_
 have hlen := fun w' K => zc S6 w' K
 simp only at hlen S6
 simp [hlen]
 refine ⟨OpR w0 rv (gh qs) q p hb r ⟨gp, qs⟩ D' R, fun x _ => (gh qs).length - ms x 6, ⟨_, _, _, _, _, _, 0, [], rfl, Nat.zero_le _, by simpa [jr] using azo, S6.tail ((List.perm_append_comm (l₁ := [la p hb ⟨gp, qs⟩, gk hb D']) (l₂ := [gc q (nt hb p r false) T.l, ku r .u64 []])).append_right R)⟩, ?_⟩
 rintro x w6 ⟨u0, u1, u2, u3, u4, u5, i, mm, rfl, hi, hm, S7⟩
 by_cases hil : i < (gh qs).length
 ·have hwi : IntKind.i64.wrap ((i : Int) + 1) = ((i + 1 : Nat) : Int) := by
   have := ard S5.swap g
   simp only at this
   rw [ft (by omega) (by omega)]; rfl
  simp [hil]
  unfold M.bk.j3
  obtain ⟨b, o, sv, hia, _, c0, hsl⟩ := adr S7 hil
  obtain ⟨pr, ho, he⟩ := hr _ (List.getElem_mem hil)
  have hrd : ahj (gh qs)[i] = some (pr.1, pr.2) := by rw [he]; exact aap ho.1 ho.2.1 ho.2.2.1 ho.2.2.2
  simp [hia, c0]
  refine bbt hsl hrd fun w7 f7 => ?_
  have S8 := S7.iu f7
  simp
  have S9 := tq S8 T.g
  generalize w7.heap.size = tb at *
  generalize w7.alloc _ = w8 at *
  unfold jw
  simp
  refine pf (r' := pr.2) S9 fun w9 S10 => ?_
  unfold M.bk.j5
  have S10d := S10.iu ((Fr.refl _ w9).dr 1)
  have Sb : St w0 (dr w9 1) (gc q (nt hb p r false) T.l :: gc tb (rgC pr.2) T.g :: jv rv (gh qs) :: ku r .u64 mm :: la p hb ⟨gp, qs⟩ :: gk hb D' :: R) := St.up2 S10d
  obtain ⟨_, _, c2, _⟩ := ny Sb
  obtain ⟨_, _, _, rl⟩ := iw S10d
  simp only [mf] at c2
  simp [c2, rl]
  have Sm : St w0 (dr w9 1) (ku r .u64 mm :: gc tb (rgC pr.2) T.g :: jv rv (gh qs) :: gc q (nt hb p r false) T.l :: la p hb ⟨gp, qs⟩ :: gk hb D' :: R) := St.up3 S10d
  refine aog mt.r (xg Sm).1 pr.1 _ _ fun ob hob => ?_
  have S11 := aro Sm hob
  refine ⟨⟨_, _, _, _, _, _, i + 1, rq mm pr.1 (jw pr.2), by rw [hwi], by omega, ?_, ?_⟩, by rw [hwi]; simp [ms, gv]; omega⟩
  ·rw [List.take_add_one, List.getElem?_eq_getElem hil]
   show aeq (jr ((gh qs).take i ++ [(gh qs)[i]])) _
   rw [he, ahd ho.1 ho.2.1 ho.2.2.1 ho.2.2.2]
   exact aqs hm (uz _) _ _
  ·have T1 : St w0 _ (gc tb (rgC pr.2) T.g :: ku r .u64 (rq mm pr.1 (jw pr.2)) :: jv rv (gh qs) :: gc q (nt hb p r false) T.l :: la p hb ⟨gp, qs⟩ :: gk hb D' :: R) := S11.swap
   exact St.dn2 T1.drop
 ·have hie : i = (gh qs).length := by omega
  subst hie
  rw [List.take_length] at hm
  simp
  unfold M.bk.j1
  have T1 : St w0 w6 (la p hb ⟨gp, qs⟩ :: gk hb D' :: gc q (nt hb p r false) T.l :: ku r .u64 mm :: R) := St.s22 S7.drop
  refine ars (p := p) T1 (by have := g.vir.len; simp only at this ⊢; omega) fun w7 T2 => ?_
  rw [es]
  simp
  exact h w7 q (aep hm (St.s22 T2))
end
set_option maxRecDepth 100000
open Go.Eng Go.Proofs.YtfnhoaemapheoaaGreat.Sint
theorem ajs (w : World) (K : KV) : taT P .nilIface T.aq T.p true w K = K (.tuple #[.agg #[.int .u64 0, .int .u64 0, .int .u64 0, .int .i64 0], .bool false]) w := .trans (by kernel_rfl) rfl
theorem ash (a b c d : Value) (w : World) (K : KV) : taT P (.iface T.p (.agg #[a, b, c, d])) T.aq T.p true w K = K (.tuple #[.agg #[a, b, c, d], .bool true]) w := .trans (by kernel_rfl) rfl
theorem ThR.bhn {w : World} {p : Pk} {ls : List Spn} {lm : List Mem} {lu : List Int} {t : Value} (h : ThR w p ls lm lu t) (hk : ¬ (p.fu = 4 ∨ p.fu = 6)) (w' : World) (K : KV) : taT P t T.aq T.p true w' K = K (.tuple #[.agg #[.int .u64 0, .int .u64 0, .int .u64 0, .int .i64 0], .bool false]) w' := by
 cases h with
 | si v q hs => exact aoo _ _ _
 | afw v q hs => exact aln _ _ _
 | ask q => exact absurd q hk
 | yd q => exact abl _ _ _
 | uo q => exact adg _ _ _
 | vk v q hs => exact aah _ _ _
 | yg v q hs => exact acb _ _ _
 | none q => exact ajs _ _
theorem ThR.bhi {w : World} {p : Pk} {ls : List Spn} {lm : List Mem} {lu : List Int} {t : Value} (h : ThR w p ls lm lu t) (hk : p.fu = 4 ∨ p.fu = 6) : t = afo p.tr p.b p.v := by
 cases h with
 | ask q => rfl
 | si v q hs => omega
 | afw v q hs => omega
 | yd q => omega
 | uo q => omega
 | vk v q hs => omega
 | yg v q hs => omega
 | none q => omega
def pn (p : Pk) (ls : List Spn) (lm : List Mem) (lu : List Int) : Bool := (decide (p.fu = 4) || decide (p.fu = 6)) && sx p ls lm lu
def pg (L : Lg) (D : Dk) (tr : Int) (r : Rg) : (Lg × Dk) × Int := wrF L D [lz tr r]
theorem air {p : Pk} {ls : List Spn} {lm : List Mem} {lu : List Int} (h : pn p ls lm lu = true) (hr : wy p) : (p.fu = 4 ∨ p.fu = 6) ∧ 0 < p.tr ∧ 0 < p.b.n := by
 unfold pn at h
 simp only [Bool.and_eq_true, Bool.or_eq_true, decide_eq_true_eq] at h
 obtain ⟨hk, h⟩ := h
 unfold sx ky at h
 have h1 := hr.tr.1
 have h2 := hr.b.1.1
 rcases hk with hk | hk <;> simp [hk] at h
 ·exact ⟨.inl hk, h.1.2, h.2⟩
 ·exact ⟨.inr hk, h.1.2, h.2.1⟩
section
variable {w0 w : World} {R : List Asn} {q hb : Nat} {m : iy} {L : Lg} {dn : Bool} {D : Dk} {G : Nat} {s f : Int} {p : Pk} {ls : List Spn} {lm : List Mem} {lu : List Int}
def hdL (ab tb pb q hb : Nat) (p : Pk) (m : iy) (L : Lg) (dn : Bool) (D : Dk) (R : List Asn) : List Asn := gc ab #[.int .u64 p.tr, .int .u64 p.b.n, .int .u64 p.b.gj, .int .i64 p.v] T.p :: gc tb (pkC pkZ).toArray T.a :: gc pb (pkC p).toArray T.a :: ko q hb m L dn :: gk hb D :: R
theorem vd {ab : Nat} {R : List Asn} (S : St w0 w (gc ab #[.int .u64 p.tr, .int .u64 p.b.n, .int .u64 p.b.gj, .int .i64 p.v] T.p :: R)) : fx w ab 0 = some (.int .u64 p.tr) ∧ (∀ K, ldN P 2 ab 1 w K = K (jf p.b) w) ∧ fx w ab 3 = some (.int .i64 p.v) :=
 ⟨by rw [S.cell]; rfl, fun K => S.ldA [.int .u64 p.b.n, .int .u64 p.b.gj] rfl rfl K, by rw [S.cell]; rfl⟩
theorem atz {tb : Nat} {R1 R2 : List Asn} (S : St w0 w (gc tb (pkC pkZ).toArray T.a :: R1)) {k : Int} {K : KV} (h : ∀ w', St w0 w' R1 → K (.tuple #[pkA pkZ, .int .i64 k]) w') :
  stN P tb 0 [.int .i64 0, .int .u64 0, .int .u64 0, .int .u64 0, .int .u64 0, .int .u64 0, .int .i64 0, .bool false, .slice none 0 0, .slice none 0 0, .slice none 0 0] w fun _ w => lc P T.a (.pointer (some ⟨tb, 0, none⟩)) w fun r0 w' => w' = w ∧ K (.tuple #[r0, .int .i64 k]) w :=
 aaa (q := pkZ) S rfl (sp _ _ _ _ _ _) (K := fun r0 w => K (.tuple #[r0, .int .i64 k]) w) fun w' S' => h w' S'.drop
theorem ath (S : St w0 w (ko q hb m L dn :: gk hb D :: R)) (hp : ∀ w' R', St w0 w' (R' ++ R) → oz w' p ls lm lu) (hr : wy p) (hG : dn = false → D.gr = false → ∃ F, RI s f L F D m) (hf : f + (gh L.fq).length + 1 ≤ 1000000000000) {K : KV}
  (hno : pn p ls lm lu = false → ∀ w', St w0 w' (ko q hb m L dn :: gk hb D :: R) → K (.tuple #[pkA pkZ, .int .i64 6]) w')
  (hdn : pn p ls lm lu = true → (dn || D.gr) = true → ∀ w', St w0 w' (ko q hb m L dn :: gk hb D :: R) → K (.tuple #[pkA pkZ, .int .i64 10]) w')
  (hsame : pn p ls lm lu = true → dn = false → D.gr = false → (jo m (decide (p.fu = 6)) p.tr p.b p.v).1 = mi m p.tr → ∀ w', St w0 w' (ko q hb m L dn :: gk hb D :: R) → K (.tuple #[pkA (ahb (jo m (decide (p.fu = 6)) p.tr p.b p.v).1 p.tr p.b (jo m (decide (p.fu = 6)) p.tr p.b p.v).2 (decide (p.fu = 6))), .int .i64 0]) w')
  (hbad : pn p ls lm lu = true → dn = false → D.gr = false → (jo m (decide (p.fu = 6)) p.tr p.b p.v).1 ≠ mi m p.tr → (pg L D p.tr (jo m (decide (p.fu = 6)) p.tr p.b p.v).1).2 ≠ 0 → ∀ w', St w0 w' (ko q hb m (pg L D p.tr (jo m (decide (p.fu = 6)) p.tr p.b p.v).1).1.1 (decide ((pg L D p.tr (jo m (decide (p.fu = 6)) p.tr p.b p.v).1).2 = 10)) :: gk hb (pg L D p.tr (jo m (decide (p.fu = 6)) p.tr p.b p.v).1).1.2 :: R) → K (.tuple #[pkA pkZ, .int .i64 (pg L D p.tr (jo m (decide (p.fu = 6)) p.tr p.b p.v).1).2]) w')
  (hok : pn p ls lm lu = true → dn = false → D.gr = false → (jo m (decide (p.fu = 6)) p.tr p.b p.v).1 ≠ mi m p.tr → (pg L D p.tr (jo m (decide (p.fu = 6)) p.tr p.b p.v).1).2 = 0 → ∀ w', St w0 w' (ko q hb (nl m p.tr (jo m (decide (p.fu = 6)) p.tr p.b p.v).1) (pg L D p.tr (jo m (decide (p.fu = 6)) p.tr p.b p.v).1).1.1 false :: gk hb (pg L D p.tr (jo m (decide (p.fu = 6)) p.tr p.b p.v).1).1.2 :: R) → K (.tuple #[pkA (ahb (jo m (decide (p.fu = 6)) p.tr p.b p.v).1 p.tr p.b (jo m (decide (p.fu = 6)) p.tr p.b p.v).2 (decide (p.fu = 6))), .int .i64 0]) w') :
  fk P F.v [jd q, pkA p] w K := by
 rw [M.n.fcall]
 apply M.n.calls
 unfold M.n jd
 refine St.po S fun pb w1 S1 => ?_
 have S1' : St w0 w1 (gc pb (pkC p).toArray T.a :: ko q hb m L dn :: gk hb D :: R) := S1
 simp
 have S2 := zj S1'
 generalize w1.heap.size = tb at *
 generalize w1.alloc _ = w2 at *
 unfold M.n.j0
 simp [fun K => uu S2.swap K]
 have hp2 : oz w2 p ls lm lu := hp w2 (gc tb (pkC pkZ).toArray T.a :: gc pb (pkC p).toArray T.a :: ko q hb m L dn :: gk hb D :: []) S2
 have noW : ∀ (t : Value) (k : Int) (w3 : World), pn p ls lm lu = false → (∀ w' K', taT P t T.aq T.p true w' K' = K' (.tuple #[.agg #[.int .u64 0, .int .u64 0, .int .u64 0, .int .i64 0], .bool false]) w') → St w0 w3 (gc tb (pkC pkZ).toArray T.a :: gc pb (pkC p).toArray T.a :: ko q hb m L dn :: gk hb D :: R) → True := fun _ _ _ _ _ _ => trivial
 refine bbj hp2 hr (fun hre w3 t ht f3 => ?_) (fun hre w3 f3 => ?_)
 ·have S3 := S2.iu f3
  by_cases hk : p.fu = 4 ∨ p.fu = 6
  ·have hae : pn p ls lm lu = true := by unfold pn; rw [hre]; simpa using hk
   obtain ⟨_, htr, hbn⟩ := air hae hr
   rw [ht.bhi hk]
   unfold afo aud
   simp [ash]
   have S4 : St w0 (w3.alloc (.cells #[.int .u64 0, .int .u64 0, .int .u64 0, .int .i64 0] T.p)) (gc w3.heap.size #[.int .u64 0, .int .u64 0, .int .u64 0, .int .i64 0] T.p :: _) := S3.mkB #[.int .u64 0, .int .u64 0, .int .u64 0, .int .i64 0] T.p
   generalize w3.heap.size = ab at *
   generalize w3.alloc _ = w4 at *
   refine St.put (cs' := #[.int .u64 p.tr, .int .u64 p.b.n, .int .u64 p.b.gj, .int .i64 p.v]) (vs := [.int .u64 p.tr, .int .u64 p.b.n, .int .u64 p.b.gj, .int .i64 p.v]) S4 (by simp) (by simp) rfl fun w5 S5 => ?_
   have S5' : St w0 w5 (hdL ab tb pb q hb p m L dn D R) := S5
   have Sr : St w0 w5 (ko q hb m L dn :: gc ab #[.int .u64 p.tr, .int .u64 p.b.n, .int .u64 p.b.gj, .int .i64 p.v] T.p :: gc tb (pkC pkZ).toArray T.a :: gc pb (pkC p).toArray T.a :: gk hb D :: R) := St.up3 S5
   obtain ⟨lp, rp, mm, hm, Su⟩ := ach Sr
   obtain ⟨c0, _, _, c3⟩ := ny Su
   have outDn : (dn || D.gr) = true → stN P tb 0 [.int .i64 0, .int .u64 0, .int .u64 0, .int .u64 0, .int .u64 0, .int .u64 0, .int .i64 0, .bool false, .slice none 0 0, .slice none 0 0, .slice none 0 0] w5 fun _ w => lc P T.a (.pointer (some ⟨tb, 0, none⟩)) w fun r0 w' => w' = w ∧ K (.tuple #[r0, .int .i64 10]) w := fun hd =>
    atz (R2 := []) S5'.swap fun w' S' => hdn hae hd w' S'.drop.drop
   cases dn with
   | true =>
    have od := outDn rfl
    simp [c3]
    exact od
   | false =>
    simp [c3, c0]
    refine adz (St.up4 S5') ?_
    cases hd : D.gr with
    | true =>
     have od := outDn (by simp [hd])
     simp
     exact od
    | false =>
     simp
     obtain ⟨F0, I⟩ := hG rfl hd
     have hlu : ∀ {w' : World} {L' : List Asn}, St w0 w' (ku rp .u64 mm :: L') → ∀ K, luT P T.r (.map (some rp)) (.int .u64 p.tr) false w' K = K (jw (mi m p.tr)) w' := fun {w' L'} S' K => by
      rw [aan mt.r (xg S').1, hm p.tr]
      congr 1
      unfold mi
      cases lk m p.tr <;> rfl
     unfold M.n.j1
     have T1 := Su.iu ((Fr.refl _ w5).dr 1)
     obtain ⟨_, _, c2, _⟩ := ny T1
     obtain ⟨a0, _, _⟩ := vd (St.up3 T1)
     simp only [mf] at c2 a0
     have l1 := hlu T1.swap
     simp [c2, a0, l1]
     have T2 := tq T1 T.g
     rw [show (Eng.dr w5 1).heap.size = w5.heap.size from rfl] at T2
     generalize w5.heap.size = gb at *
     generalize (Eng.dr w5 1).alloc _ = w6 at *
     obtain ⟨_, _, c2, _⟩ := ny T2.swap
     obtain ⟨a0, _, _⟩ := vd (St.up4 T2)
     have l2 := hlu T2.up2
     simp [c2, a0, l2]
     unfold jw
     simp
     refine pf (r' := mi m p.tr) T2 fun w7 T3 => ?_
     obtain ⟨_, _, _, g7⟩ := iw T3
     obtain ⟨_, b7, _⟩ := vd (St.up4 T3)
     simp [g7, b7]
     refine bdx _ _ fun w8 f8 => ?_
     have T4 := T3.iu f8
     simp
     have T5 := tq T4 T.g
     generalize w8.heap.size = nb at *
     generalize w8.alloc _ = w9 at *
     unfold jw
     simp
     refine pf (r' := ((mi m p.tr).qr p.b).1) T5 fun w10 T6 => ?_
     have Tp : St w0 w10 (gc pb (pkC p).toArray T.a :: gc nb (rgC ((mi m p.tr).qr p.b).1) T.g :: gc gb (rgC (mi m p.tr)) T.g :: gc q (nt hb lp rp false) T.l :: ku rp .u64 mm :: la lp hb L :: gc ab #[.int .u64 p.tr, .int .u64 p.b.n, .int .u64 p.b.gj, .int .i64 p.v] T.p :: gc tb (pkC pkZ).toArray T.a :: gk hb D :: R) := T6.perm (List.perm_middle (l₁ := [_, _, _, _, _, _, _]))
     obtain ⟨k0, _⟩ := ik Tp
     simp [k0]
     have hokE : okE (p.tr, (jo m (decide (p.fu = 6)) p.tr p.b p.v).1) := ajn I.ok hr.tr htr hr.b
     have fin : ∀ (x1 : List Value) w', St w0 w' (gc nb (rgC (jo m (decide (p.fu = 6)) p.tr p.b p.v).1) T.g :: gc gb (rgC (mi m p.tr)) T.g :: gc q (nt hb lp rp false) T.l :: ku rp .u64 mm :: la lp hb L :: gc ab #[.int .u64 p.tr, .int .u64 p.b.n, .int .u64 p.b.gj, .int .i64 p.v] T.p :: gc tb (pkC pkZ).toArray T.a :: gc pb (pkC p).toArray T.a :: gk hb D :: R) →
       M.n.j2 (.pointer (some ⟨nb, 0, none⟩)) (.pointer (some ⟨gb, 0, none⟩)) (.pointer (some ⟨ab, 0, none⟩)) (.pointer (some ⟨q, 0, none⟩)) (.pointer (some ⟨tb, 0, none⟩)) x1 [.bool (jo m (decide (p.fu = 6)) p.tr p.b p.v).2] (.bool (decide (p.fu = 6))) w' K := by
      have hsame' := hsame hae rfl hd
      have hbad' := hbad hae rfl hd
      have hok' := hok hae rfl hd
      clear hno hdn hsame hbad hok outDn
      intro x1 w' S'
      generalize (jo m (decide (p.fu = 6)) p.tr p.b p.v).1 = r1 at *
      generalize (jo m (decide (p.fu = 6)) p.tr p.b p.v).2 = ok1 at *
      generalize decide (p.fu = 6) = tk at *
      -- what it answers at its end
      have ans : ∀ w2 (L2 : List Asn), St w0 w2 (gc nb (rgC r1) T.g :: gc ab #[.int .u64 p.tr, .int .u64 p.b.n, .int .u64 p.b.gj, .int .i64 p.v] T.p :: gc tb (pkC pkZ).toArray T.a :: L2) → (∀ w3, St w0 w3 L2 → K (.tuple #[pkA (ahb r1 p.tr p.b ok1 tk), .int .i64 0]) w3) →
        M.n.j3 (.pointer (some ⟨nb, 0, none⟩)) (.pointer (some ⟨ab, 0, none⟩)) [.bool ok1] (.bool tk) (.pointer (some ⟨tb, 0, none⟩)) w2 K := fun w2 L2 S2 hK => by
       obtain ⟨_, _, _, rl⟩ := iw S2
       obtain ⟨a0, b0, _⟩ := vd S2.swap
       unfold M.n.j3
       simp [rl, a0, b0]
       refine ayk _ _ _ _ _ fun w3 f3 => ?_
       rw [ajv]
       exact aaa (S2.iu f3).up2 rfl (sp _ _ _ _ _ _) (K := fun r0 w => K (.tuple #[r0, .int .i64 0]) w) fun w4 S4 => hK w4 S4.drop.drop.drop
      obtain ⟨_, _, _, n1⟩ := iw S'
      obtain ⟨_, _, _, g1⟩ := iw S'.swap
      have Z1 := aep hm (St.up4 (St.up4 (St.up4 S')))
      have Z2 := (St.up4 (St.up2 Z1).drop).drop
      unfold M.n.j2
      simp [n1, g1, bfg]
      by_cases hne : r1 = mi m p.tr
      ·simp [hne]
       exact ans w' _ (St.dn3 Z2) fun w3 S3 => hsame' hne w3 S3
      ·simp [hne]
       obtain ⟨a0, _, _⟩ := vd Z2.up2
       obtain ⟨_, _, _, n2⟩ := iw Z2.swap
       simp [a0, n2]
       have hv : 0 ≤ r1.v ∧ r1.v ≤ 3 := by
        have := hokE.2.2.2
        simp only at this
        unfold Rg.right at this
        split at this
        ·simp at this; omega
        ·simp [ki] at this; omega
       refine atv Z2 p.tr hv fun w2 v2 Z3 => ?_
       obtain ⟨sv, hsv⟩ := afq Z3
       subst hsv
       refine aps Z3 fun w3 sl Z4 => ?_
       refine aoz (St.up2 (up5 Z4)) I.th (fun b hb => by rw [List.mem_singleton.1 hb, yt]; omega) (by simpa using hf) (by simp) fun w4 Z5 => ?_
       have hwe : wrF L D [lz p.tr r1] = pg L D p.tr r1 := rfl
       rw [hwe] at Z5 ⊢
       by_cases h0 : (pg L D p.tr r1).2 = 0
       ·have hk := hok' hne h0
        rw [h0] at Z5
        rw [h0]
        simp
        unfold M.n.j4
        obtain ⟨lp2, rp2, mm2, hm2, Y1⟩ := ach Z5
        have Y2 := Y1.iu ((Fr.refl _ w4).dr 1)
        obtain ⟨_, _, e2, _⟩ := ny Y2
        have Y3 : St w0 (Eng.dr w4 1) (gc nb (rgC r1) T.g :: gc q _ T.l :: ku rp2 .u64 mm2 :: la lp2 hb _ :: gk hb _ :: _) := St.up4 Y2
        obtain ⟨_, _, _, n3⟩ := iw Y3
        obtain ⟨a3, _, _⟩ := vd (up5 Y2)
        simp only [mf] at e2 a3
        simp [e2, a3, n3]
        refine aog mt.r (xg Y2.swap).1 p.tr _ _ fun ob hob => ?_
        have Y4 := aep (aqs hm2 I.asc p.tr r1) (aro Y2.swap hob).swap
        refine ans _ _ (St.up4 (St.up4 (St.up4 Y4))) fun w6 Y6 => ?_
        exact hk w6 Y6
       ·have hb' := hbad' hne h0
        simp [h0]
        refine atz (R2 := []) (St.up4 Z5) fun w5 Y1 => ?_
        refine hb' w5 ?_
        have Y2 := (St.up2 (St.up2 Y1).drop).drop
        simpa using Y2
     by_cases h6 : p.fu = 6
     ·obtain ⟨_, _, _, g10⟩ := iw T6.swap
      obtain ⟨_, b10, v10⟩ := vd (up5 T6)
      have e1 : (jo m (decide (p.fu = 6)) p.tr p.b p.v) = (mi m p.tr).acc p.b p.v := by unfold jo; simp [h6]
      rw [e1] at fin
      simp only [h6, decide_true] at fin
      simp [h6, g10, b10, v10]
      refine bfp _ _ _ fun w11 f11 => ?_
      have T7 := T6.iu f11
      simp
      unfold jw
      simp
      refine pf (r' := ((mi m p.tr).acc p.b p.v).1) T7 fun w12 T8 => ?_
      exact fin _ w12 T8
     ·simp [h6]
      have e1 : (jo m (decide (p.fu = 6)) p.tr p.b p.v) = (mi m p.tr).qr p.b := by unfold jo; simp [h6]
      rw [e1] at fin
      have := fin
      simp only [h6, decide_false] at this
      exact this _ w10 T6
  ·have hae : pn p ls lm lu = false := by
    unfold pn
    have : (decide (p.fu = 4) || decide (p.fu = 6)) = false := by simpa using hk
    rw [this]; rfl
   simp [ht.bhn hk]
   have S4 := S3.mkB #[.int .u64 0, .int .u64 0, .int .u64 0, .int .i64 0] T.p
   generalize w3.heap.size = ab at *
   generalize w3.alloc _ = w4 at *
   refine St.put (cs' := #[.int .u64 0, .int .u64 0, .int .u64 0, .int .i64 0]) (vs := [.int .u64 0, .int .u64 0, .int .u64 0, .int .i64 0]) S4 (by simp) (by simp) rfl fun w5 S5 => ?_
   exact atz (R2 := []) S5.swap fun w' S' => hno hae w' S'.drop.drop
 ·have hae : pn p ls lm lu = false := by unfold pn; rw [hre, Bool.and_false]
  have S3 := S2.iu f3
  simp [ajs]
  have S4 := S3.mkB #[.int .u64 0, .int .u64 0, .int .u64 0, .int .i64 0] T.p
  generalize w3.heap.size = ab at *
  generalize w3.alloc _ = w4 at *
  refine St.put (cs' := #[.int .u64 0, .int .u64 0, .int .u64 0, .int .i64 0]) (vs := [.int .u64 0, .int .u64 0, .int .u64 0, .int .i64 0]) S4 (by simp) (by simp) rfl fun w5 S5 => ?_
  exact atz (R2 := []) S5.swap fun w' S' => hno hae w' S'.drop.drop
end
set_option maxRecDepth 100000
open Go.Eng Go.Proofs.YtfnhoaemapheoaaGreat.Sint
theorem aze {m : iy} (ha : Asc m) {i : Nat} (hi : i < m.length) : lk m m[i].1 = some m[i].2 := by
 induction m generalizing i with
 | nil => simp at hi
 | cons p t ih =>
  obtain ⟨x, y⟩ := p
  unfold Asc at ha
  rw [List.pairwise_cons] at ha
  cases i with
  | zero => rw [List.getElem_cons_zero, nh, if_pos rfl]
  | succ j =>
   simp only [List.length_cons] at hi
   rw [List.getElem_cons_succ, nh, if_neg]
   ·exact ih ha.2 (by omega)
   ·have := ha.1 t[j] (List.getElem_mem (by omega))
    simp only at this
    omega
inductive WrR (s f : Int) (L : Lg) (G : Nat) (D : Dk) (ga : List (List Int)) : (Lg × Dk) × Int → Prop
 | ok (L' : Lg) (D' : Dk) : ni s f L' (gh L'.fq).length D' → gh L'.fq = gh L.fq ++ ga → L'.gp = L.gp → D'.ie = D.ie → (D.ir = false → D'.ir = false) → WrR s f L G D ga ((L', D'), 0)
 | rh (i : Nat) (L' : Lg) (D' : Dk) : i < ga.length → ni s f L' G D' → gh L'.fq = gh L.fq ++ ga.take i → L'.gp = L.gp → D'.ie = D.ie → (D.ir = false → D'.ir = false) → WrR s f L G D ga ((L', D'), 9)
 | gr (i : Nat) (L' : Lg) (D' : Dk) (Q : List Prt) : D.ir = true → L'.gp = L.gp → L'.fq.length ≤ 63 → D'.gr = true → Vir s f Q G D' False → gh Q = gh L.fq ++ ga.take i → D'.ie = D.ie → f + (gh L'.fq).length ≤ f + (gh L.fq).length + ga.length → WrR s f L G D ga ((L', D'), 10)
theorem alz {s f : Int} {L : Lg} {G : Nat} {D : Dk} {ga : List (List Int)} (g : ni s f L G D) (hl : ∀ b ∈ ga, b.length ≤ 8192) (hn : f + (gh L.fq).length + ga.length ≤ 1000000000000) : WrR s f L G D ga (wrF L D ga) := by
 have ha := bfq ga g hl hn
 unfold wrF
 generalize qq L D ga = z at *
 cases ha with
 | ok L' D' g' e1 e2 e3 e4 =>
  obtain ⟨y1, y2, y3, y4, _, y6, _⟩ := aod g'.vir g'.up
  rw [if_pos rfl, y1]
  exact .ok L' _ ⟨y2, g'.size, y3⟩ e1 e2 (by rw [y6, e3]) fun h => by rw [y4]; exact e4 h
 | rh i L' D' hi g' e1 e2 e3 e4 =>
  rw [if_neg (by simp)]
  exact .rh i L' D' hi g' e1 e2 e3 e4
 | gr i j L' D0 D' Q b1 b2 b3 b4 b5 b6 b7 b8 =>
  rw [if_neg (by simp)]
  refine .gr i L' D' Q b1 b4 b2.vir.len b5 b6 b7 b8 ?_
  rw [b3, List.length_append, List.length_take]
  omega
section
variable {w0 w : World} {R : List Asn} {q hb : Nat} {m : iy} {L : Lg} {dn : Bool} {D : Dk} {s f : Int}
def ahy (L : Lg) (D : Dk) (m : iy) : (Lg × Dk) × Int :=
 if (wrF L D (jy m)).2 = 0 then Lg.drop (wrF L D (jy m)).1.1 (wrF L D (jy m)).1.2 (IntKind.i64.wrap (L.jc + (gh L.fq).length)) else wrF L D (jy m)
def CmI (w0 : World) (tv : Value) (m : iy) (q hb : Nat) (L : Lg) (D : Dk) (R : List Asn) : KL := fun x w1 => ∃ (u v : Value) (i : Nat), x = [u, v, .int .i64 (i : Nat)] ∧ i ≤ m.length ∧ St w0 w1 (jv v (jy (m.take i)) :: rdA 1 yl tv (m.map (·.1)) :: ko q hb m L false :: gk hb D :: R)
theorem bfa (S : St w0 w (ko q hb m L dn :: gk hb D :: R)) (hG : dn = false → D.gr = false → ∃ F, RI s f L F D m) (hf : f + (gh L.fq).length + m.length ≤ 1000000000000) (hml : m.length ≤ 50000) {K : KV}
  (hdn : (dn || D.gr) = true → ∀ w', St w0 w' (ko q hb m L dn :: gk hb D :: R) → K (.int .i64 10) w')
  (hbad : dn = false → D.gr = false → (wrF L D (jy m)).2 ≠ 0 → ∀ w', St w0 w' (ko q hb m (wrF L D (jy m)).1.1 (decide ((wrF L D (jy m)).2 = 10)) :: gk hb (wrF L D (jy m)).1.2 :: R) → K (.int .i64 (wrF L D (jy m)).2) w')
  (hok : dn = false → D.gr = false → (wrF L D (jy m)).2 = 0 → ∀ w', St w0 w' (ko q hb m (ahy L D m).1.1 false :: gk hb (ahy L D m).1.2 :: R) → K (.int .i64 (ahy L D m).2) w') :
  fk P F.ax [jd q] w K := by
 rw [M.z.fcall]
 apply M.z.calls
 unfold M.z jd
 obtain ⟨lp, rp, mm, hm, S1⟩ := ach S
 obtain ⟨c0, _, _, c3⟩ := ny S1
 cases dn with
 | true =>
  simp [c3]
  exact hdn rfl w S
 | false =>
 simp [c3, c0]
 refine adz S.swap ?_
 cases hd : D.gr with
 | true =>
  simp
  exact hdn (by simp [hd]) w S
 | false =>
 obtain ⟨F0, I⟩ := hG rfl hd
 simp
 unfold M.z.j0
 have T1 := S1.iu ((Fr.refl _ w).dr 1)
 obtain ⟨_, c1, _, _⟩ := ny T1
 simp only [mf] at c1
 simp [c1]
 have T2 : St w0 (Eng.dr w 1) (la lp hb L :: gk hb D :: gc q (nt hb lp rp false) T.l :: ku rp .u64 mm :: R) := St.s22 T1
 refine azn T2 ?_
 simp [c1]
 refine apu T2 I.th fun w2 v2 T3 => ?_
 have hlen := fun w' K => zc T3 w' K
 simp [hlen]
 have T4 := aep hm (St.s22 T3.drop)
 refine agf T4 I.asc (by omega) fun w3 tv T5 => ?_
 have hl5 := fun w' K => (T5.rd).ip (P := P) (t := T.f) (ty := T.b) (w := w') (by kernel_rfl) [false] (K := K)
 rw [List.length_map] at hl5
 simp [hl5]
 refine ⟨CmI w0 tv m q hb L D R, fun x _ => m.length - ms x 2, ⟨_, _, 0, rfl, Nat.zero_le _, amp T5⟩, ?_⟩
 rintro x w4 ⟨u, v, i, rfl, hi, T6⟩
 by_cases hil : i < m.length
 ·have hwi : IntKind.i64.wrap ((i : Int) + 1) = ((i + 1 : Nat) : Int) := by rw [ft (by omega) (by omega)]; rfl
  simp [hil]
  unfold M.z.j3
  have hrd : SlU w4 tv (m.map (·.1)) := T6.swap.rd
  obtain ⟨b, o, cap, hv, _, hc⟩ := yc hrd (i := i) (by simpa using hil)
  rw [List.getElem_map] at hc
  have hia : ∀ w' K, iaT P T.f tv (.int .i64 (i : Nat)) w' K = K (.pointer (some ⟨b, o + i, none⟩)) w' := fun w' K => by rw [hv]; simp [hil]
  obtain ⟨lp2, rp2, mm2, hm2, U1⟩ := ach T6.up2
  obtain ⟨_, _, e2, _⟩ := ny U1
  simp [hia, hc, e2]
  rw [aan mt.r (xg U1.swap).1, hm2 m[i].1, aze I.asc hil]
  show fk P F.di [_, jw m[i].2] w4 _
  have hv3 : 0 ≤ (m[i].2).v ∧ (m[i].2).v ≤ 3 := by
   have := (I.ok _ (List.getElem_mem hil)).2.2.2
   unfold Rg.right at this
   split at this
   ·simp at this; omega
   ·simp [ki] at this; omega
  refine atv T6 m[i].1 hv3 fun w5 v5 T7 => ?_
  obtain ⟨sv, hsv⟩ := afq T7
  subst hsv
  have hpush := fun {K' : KV} {cs : List Bool} {ty : TypeId} (hh : ∀ w' v', St w0 w' (jv v' (jy (m.take i) ++ [lz m[i].1 m[i].2]) :: rdA 1 yl tv (m.map (·.1)) :: ko q hb m L false :: gk hb D :: R) → K' v' w') => aci (cs := cs) (ty := ty) (K := K') T7 (by unfold jy; simp; omega) hh
  refine hpush fun w6 v6 T8 => ?_
  simp [hwi]
  refine ⟨⟨_, _, i + 1, rfl, by omega, ?_⟩, by simp [ms, gv]; omega⟩
  have e : jy (m.take (i + 1)) = jy (m.take i) ++ [lz m[i].1 m[i].2] := by
   unfold jy
   rw [List.take_add_one, List.getElem?_eq_getElem hil, List.map_append]
   rfl
  rw [e]
  exact T8
 ·have hie : i = m.length := by omega
  subst hie
  rw [List.take_length] at T6
  simp
  unfold M.z.j1
  have hbl : ∀ b ∈ jy m, b.length ≤ 8192 := fun b hb => by
   unfold jy at hb
   obtain ⟨p, _, rfl⟩ := List.mem_map.1 hb
   rw [yt]; omega
  have hall : (jy m).length = m.length := by unfold jy; simp
  have U1 : St w0 w4 (ko q hb m L false :: gk hb D :: jv v (jy m) :: rdA 1 yl tv (m.map (·.1)) :: R) := St.s22 T6
  refine aoz U1 I.th hbl (by rw [hall]; exact hf) (by rw [hall]; omega) fun w5 U2 => ?_
  have U3 := (St.up2 U2).drop
  by_cases h0 : (wrF L D (jy m)).2 = 0
  ·rw [h0] at U3
   rw [h0]
   have hok' := hok rfl hd h0
   unfold ahy at hok'
   rw [if_pos h0] at hok'
   obtain ⟨lp2, rp2, mm2, hm2, U4⟩ := ach U3
   obtain ⟨_, e1, _, _⟩ := ny U4
   simp [e1]
   have U5 : St w0 w5 (la lp2 hb _ :: gk hb _ :: gc q (nt hb lp2 rp2 _) T.l :: ku rp2 .u64 mm2 :: R) := St.s22 U4
   have hfew : (wrF L D (jy m)).1.1.fq.length ≤ 1000000 := by
    have hw := alz I.th hbl (by rw [hall]; exact hf)
    generalize wrF L D (jy m) = z at *
    cases hw with
    | ok L' D' g' => have := g'.vir.len; simp only; omega
    | rh => simp at h0
    | gr => simp at h0
   refine bdq U5 hfew _ fun w6 U6 => ?_
   have U7 := aep hm2 (St.s22 U6)
   exact hok' w6 (by simpa using U7)
  ·simp [h0]
   exact hbad rfl hd h0 w5 (by simpa using U3)
end
set_option maxRecDepth 100000
open Go.Eng Go.Proofs.YtfnhoaemapheoaaGreat.Sint
theorem ldO {w : World} {b i : Nat} {x : Int × Rg} (h : ∀ k v, (xm x)[k]? = some v → fx w b (i + k) = some v) (K : KV) : ldN P 6 b i w K = K (aeo x) w := wq (xm x) 6 rfl h K
theorem bio {w : World} {b i : Nat} {x : Int × Rg} (h : ∀ k v, (xm x)[k]? = some v → fx w b (i + k) = some v) (K : KV) : ldN P 5 b (i + 1) w K = K (jw x.2) w := wq (aki x.2) 5 rfl (fun k v hk => by
 have := h (k + 1) v (by simpa [xm] using hk)
 rw [show i + 1 + k = i + (k + 1) by omega]; exact this) K
def GtI (W : World) (l : iy) (tr : Int) (tb : Nat) : KL := fun x w1 => ∃ (i : Nat), x = [.int .i64 (i : Nat)] ∧ i ≤ l.length ∧ (∀ j (h : j < l.length), j < i → l[j].1 ≠ tr) ∧ St W w1 (gc tb (rgC rg0) T.i :: [])
theorem bdu {l : iy} {k : Int} (h : ∀ p ∈ l, p.1 ≠ k) : lk l k = none := by
 unfold lk
 rw [List.find?_eq_none.2 fun p hp => by simpa using h p hp]
 rfl
theorem bcc {l : iy} {k : Int} {i : Nat} (hi : i < l.length) (he : l[i].1 = k) (h : ∀ j (hj : j < l.length), j < i → l[j].1 ≠ k) : lk l k = some l[i].2 := by
 unfold lk
 have : l.find? (fun p => decide (p.1 = k)) = some l[i] := by
  rw [List.find?_eq_some_iff_getElem]
  exact ⟨by simpa using he, i, hi, rfl, fun j hj => by simpa using h j (by omega) hj⟩
 rw [this]; rfl
theorem bbh {w : World} {v : Value} {l : iy} (hs : SlO w v l) (hl : l.length ≤ 1000000) (tr : Int) {K : KV} (h : ∀ w', Fr (fun _ => False) w w' → K (jw (mi l tr)) w') : fk P F.dy [v, .int .u64 tr] w K := by
 rw [M.db.fcall]
 apply M.db.calls
 unfold M.db
 simp
 have S1 := tq (St.jc w) T.i
 generalize w.heap.size = tb at *
 generalize w.alloc _ = w1 at *
 have hlen : ∀ w' K, biT P .len #[T.h] T.b [false] [v] w' K = K (.int .i64 l.length) w' := fun w' K => hs.ip (by kernel_rfl) [false]
 have out : ∀ (r : Rg) w', St w w' (gc tb (rgC rg0) T.i :: []) → r = mi l tr → stN P tb 0 [.int .u64 r.p.n, .int .u64 r.p.gj, .int .u64 r.t.n, .int .u64 r.t.gj, .int .i64 r.v] w' fun _ w => lc P T.i (.pointer (some ⟨tb, 0, none⟩)) w fun r0 w' => w' = w ∧ K r0 w := fun r w' S' e => by
  refine pf S' fun w3 S3 => ?_
  obtain ⟨_, _, _, rl⟩ := iw S3
  rw [zh, rl, e]
  exact ⟨rfl, h w3 S3.fr⟩
 refine ⟨GtI w l tr tb, fun x _ => l.length - ms x 0, ⟨0, rfl, Nat.zero_le _, fun j _ h => by omega, S1⟩, ?_⟩
 rintro x w2 ⟨i, rfl, hi, hpre, S2⟩
 by_cases hil : i < l.length
 ·have hwi : IntKind.i64.wrap ((i : Int) + 1) = ((i + 1 : Nat) : Int) := by rw [ft (by omega) (by omega)]; rfl
  simp [hlen, hil]
  unfold M.db.j2
  obtain ⟨b, o, cap, hv, _, _, hc⟩ := (hs.fr S2.fr fun _ _ _ h => h : SlO w2 v l).at hil
  have hia : ∀ w' K, iaT P T.h v (.int .i64 (i : Nat)) w' K = K (.pointer (some ⟨b, o + i * 6, none⟩)) w' := fun w' K => by rw [hv]; simp [hil]
  have c0 : fx w2 b (o + i * 6) = some (.int .u64 l[i].1) := hc 0 _ rfl
  have lr := fun K => bio hc K
  by_cases he : l[i].1 = tr
  ·simp [hia, c0, he, lr]
   unfold jw
   simp
   exact out l[i].2 w2 S2 (by unfold mi; rw [bcc hil he hpre]; rfl)
  ·simp [hia, c0, he, hwi]
   refine ⟨⟨i + 1, rfl, by omega, fun j hj hlt => ?_, S2⟩, by simp [ms, gv]; omega⟩
   by_cases hji : j = i
   ·subst hji; exact he
   ·exact hpre j hj (by omega)
 ·simp [hlen, hil]
  refine out rg0 w2 S2 ?_
  unfold mi
  rw [bdu fun p hp => by
   obtain ⟨j, hj, rfl⟩ := List.getElem_of_mem hp
   exact hpre j hj (by omega)]
  rfl
theorem atr : ∀ {l : iy} {tr : Int} {r : Rg} {k : Nat}, k ≤ l.length → (∀ j (h : j < l.length), j < k → l[j].1 < tr) → (∀ h : k < l.length, ¬ l[k].1 < tr) →
  nl l tr r = l.take k ++ [(tr, r)] ++ (if h : k < l.length then if l[k].1 = tr then l.drop (k + 1) else l.drop k else [])
 | [], tr, r, k, hk, _, _ => by
  have : k = 0 := by simpa using hk
  subst this
  rfl
 | (x, y) :: t, tr, r, 0, _, _, h2 => by
  have h0 := h2 (by simp)
  simp only [List.getElem_cons_zero] at h0
  rw [nl, if_neg h0]
  by_cases he : x = tr
  ·rw [if_pos he]; simp [he]
  ·rw [if_neg he]; simp [he]
 | (x, y) :: t, tr, r, k + 1, hk, h1, h2 => by
  have h0 := h1 0 (by simp) (by omega)
  simp only [List.getElem_cons_zero] at h0
  rw [nl, if_pos h0]
  have ih := atr (l := t) (tr := tr) (r := r) (k := k) (by simpa using hk) (fun j hj hlt => by have := h1 (j + 1) (by simpa using hj) (by omega); simpa using this) (fun hh => by have := h2 (by simpa using hh); simpa using this)
  rw [ih]
  simp
def PtI (W : World) (l : iy) (tr : Int) (r : Rg) (tb : Nat) : KL := fun x w1 => ∃ (i : Nat), x = [.int .i64 (i : Nat)] ∧ i ≤ l.length ∧ (∀ j (h : j < l.length), j < i → l[j].1 < tr) ∧ St W w1 (gc tb (rgC r) T.i :: [])
theorem ago {w w1 : World} {v v3 : Value} {l rest : iy} {tr : Int} {r : Rg} {tb k : Nat} (S : St w w1 (gc tb (rgC r) T.i :: [])) (hs : SlO w v l) (hl : l.length ≤ 1000000) (hk : k ≤ l.length) (s3 : SlO w1 v3 rest) (hr : rest.length ≤ l.length) (hown : ∀ b, v.ownBlock = some b → b < w.heap.size) (hown3 : ∀ b, v3.ownBlock = some b → b < w.heap.size) {K : KV}
  (h : ∀ w' v', Ow w' w.heap.size T.x 6 xm v' (l.take k ++ [(tr, r)] ++ rest) → Fr (fun _ => False) w w' → K v' w') : M.ba.j3 v [.int .i64 (k : Nat)] (.pointer (some ⟨tb, 0, none⟩)) (.int .u64 tr) [v3] w1 K := by
 unfold M.ba.j3
 have hs1 : SlO w1 v l := hs.fr S.fr fun _ _ _ h => h
 obtain ⟨v', s', hob, hsub⟩ := hs1.sub (P := P) (t := T.h) (lo := none) (hi := some (.int .i64 (k : Nat))) (i := 0) (j := k) (by kernel_rfl) (by kernel_rfl) (.inl ⟨rfl, rfl⟩) (.inr ⟨_, rfl⟩) (Nat.zero_le _) hk
 rw [List.drop_zero, Nat.sub_zero] at s'
 have rl : ∀ {w'}, Fr (fun _ => False) w1 w' → ∀ K, ldN P 5 tb 0 w' K = K (.agg #[.int .u64 r.p.n, .int .u64 r.p.gj, .int .u64 r.t.n, .int .u64 r.t.gj, .int .i64 r.v]) w' := fun f K => (iw (S.iu f)).2.2.2 K
 have rld : ∀ K, ldN P 5 tb 0 (Eng.dr w1 1) K = K (.agg #[.int .u64 r.p.n, .int .u64 r.p.gj, .int .u64 r.t.n, .int .u64 r.t.gj, .int .i64 r.v]) (Eng.dr w1 1) := rl ((Fr.refl _ w1).dr 1)
 have g12 : ∀ (b0 b1 b2 b3 b4 b5 b6 b7 b8 b9 b10 b11 b12 : Value), gv [b0, b1, b2, b3, b4, b5, b6, b7, b8, b9, b10, b11, b12] 12 = b12 := fun _ _ _ _ _ _ _ _ _ _ _ _ _ => rfl
 have hsz := S.fr.size
 simp [hsub, rld, g12]
 exact bhf (P := P) (ty := T.h) et.h tx aqw (x := (tr, r)) (cells := #[.int .u64 tr, .int .u64 r.p.n, .int .u64 r.p.gj, .int .u64 r.t.n, .int .u64 r.t.gj, .int .i64 r.v]) rfl s' s3 (fun b hb => by have := hown b (hob b hb); omega) (fun b hb => by have := hown3 b hb; omega) (by simp; omega) (by decide)
  (Q := fun w1 => ldN P 5 tb 0 w1 fun v' w' => w' = w1 ∧ v' = .agg #[.int .u64 r.p.n, .int .u64 r.p.gj, .int .u64 r.t.n, .int .u64 r.t.gj, .int .i64 r.v]) (fun w' f => by rw [rl f]; exact ⟨rfl, rfl⟩)
  (c1 := [false, false]) (c2 := [false, false]) (c3 := [false, false]) (c4 := [false, false]) (c5 := [false, false]) (c6 := [false, false]) (c7 := [false, false]) (c8 := [false, false]) (c9 := [false, false]) (K := K) fun w' v' o f => h w' v' (o.mono hsz) (S.fr.trans f)
theorem bbi {w : World} {v : Value} {l : iy} (hs : SlO w v l) (hl : l.length ≤ 1000000) (hown : ∀ b, v.ownBlock = some b → b < w.heap.size) (tr : Int) (r : Rg) {K : KV}
  (h : ∀ w' v', Ow w' w.heap.size T.x 6 xm v' (nl l tr r) → Fr (fun _ => False) w w' → K v' w') : fk P F.dz [v, .int .u64 tr, jw r] w K := by
 rw [M.ba.fcall]
 apply M.ba.calls
 unfold M.ba
 refine St.po (St.jc w) fun tb w1 S1 => ?_
 have hlen : ∀ w' K, biT P .len #[T.h] T.b [false] [v] w' K = K (.int .i64 l.length) w' := fun w' K => hs.ip (by kernel_rfl) [false]
 simp only [fo]
 refine ⟨PtI w l tr r tb, fun x _ => l.length - ms x 0, ⟨0, rfl, Nat.zero_le _, fun j _ h => by omega, S1⟩, ?_⟩
 rintro x w2 ⟨i, rfl, hi, hpre, S2⟩
 unfold M.ba.j1
 have q0 : gv [.int .i64 (i : Nat)] 0 = .int .i64 (i : Nat) := rfl
 have hs2 : SlO w2 v l := hs.fr S2.fr fun _ _ _ h => h
 -- where it stops
 have gg : (∀ h : i < l.length, ¬ l[i].1 < tr) → M.ba.j0 v [.int .i64 (i : Nat)] (.int .u64 tr) (.pointer (some ⟨tb, 0, none⟩)) w2 K := fun h2 => by
  have hput := atr (r := r) hi hpre h2
  unfold M.ba.j0
  obtain ⟨v', s', hob, hsub⟩ := hs2.sub (P := P) (t := T.h) (lo := some (.int .i64 (i : Nat))) (hi := none) (i := i) (j := l.length) (by kernel_rfl) (by kernel_rfl) (.inr ⟨_, rfl⟩) (.inl ⟨rfl, rfl⟩) hi (Nat.le_refl _)
  rw [List.take_of_length_le (by simp)] at s'
  have hlen2 : ∀ w' K, biT P .len #[T.h] T.b [false] [v'] w' K = K (.int .i64 ((l.length - i : Nat) : Int)) w' := fun w' K => by
   have := s'.ip (P := P) (t := T.h) (ty := T.b) (w := w') (by kernel_rfl) [false] (K := K)
   rwa [List.length_drop] at this
  have hown2 : ∀ b, v'.ownBlock = some b → b < w.heap.size := fun b hb => hown b (hob b hb)
  rw [q0, hsub]
  by_cases hil : i < l.length
  ·have hpos : (0 : Int) < ((l.length - i : Nat) : Int) := by omega
   rw [dif_pos hil] at hput
   have hdl : 0 < (l.drop i).length := by rw [List.length_drop]; omega
   obtain ⟨b, o, cap, hv, _, _, hc⟩ := s'.at (i := 0) hdl
   have e0 : (l.drop i)[0]'hdl = l[i] := by rw [List.getElem_drop]; rfl
   rw [e0] at hc
   have c0 : fx w2 b o = some (.int .u64 l[i].1) := by have := hc 0 _ rfl; simpa using this
   have hia : ∀ w' K, iaT P T.h v' (.int .i64 0) w' K = K (.pointer (some ⟨b, o, none⟩)) w' := fun w' K => by
    have hpn : 0 < l.length - i := by omega
    rw [hv]; simp [hpn, hil]
   have hpn : 0 < l.length - i := by omega
   by_cases he : l[i].1 = tr
   ·rw [if_pos he] at hput
    simp only [fo]
    rw [hlen2]
    obtain ⟨v3, s3, hob3, hsub3⟩ := s'.sub (P := P) (t := T.h) (lo := some (.int .i64 (1 : Nat))) (hi := none) (i := 1) (j := (l.drop i).length) (by kernel_rfl) (by kernel_rfl) (.inr ⟨_, rfl⟩) (.inl ⟨rfl, rfl⟩) hdl (Nat.le_refl _)
    rw [List.take_of_length_le (by simp; omega), List.drop_drop] at s3
    have hsub3' : ∀ w1 K, slT P T.h v' (some (.int .i64 1)) none none w1 K = K v3 w1 := hsub3
    simp [hpn, hia, c0, he, hsub3']
    refine ago S2 hs hl hi s3 (by simp) hown (fun b hb => hown2 b (hob3 b hb)) fun w' v4 o4 f4 => ?_
    rw [← hput] at o4
    exact h w' v4 o4 f4
   ·rw [if_neg he] at hput
    simp only [fo]
    rw [hlen2]
    simp [hpn, hia, c0, he]
    refine ago S2 hs hl hi s' (by simp) hown hown2 fun w' v4 o4 f4 => ?_
    rw [← hput] at o4
    exact h w' v4 o4 f4
  ·have hpos : ¬ (0 : Int) < ((l.length - i : Nat) : Int) := by omega
   rw [dif_neg hil] at hput
   simp only [fo]
   rw [hlen2]
   simp only [nn, decide_eq_false hpos]
   simp
   refine ago S2 hs hl hi s' (by simp) hown hown2 fun w' v4 o4 f4 => ?_
   rw [List.drop_of_length_le (by omega), ← hput] at o4
   exact h w' v4 o4 f4
 by_cases hil : i < l.length
 ·have hwi : IntKind.i64.wrap ((i : Int) + 1) = ((i + 1 : Nat) : Int) := by rw [ft (by omega) (by omega)]; rfl
  obtain ⟨b, o, cap, hv, _, _, hc⟩ := hs2.at hil
  have hia : ∀ w' K, iaT P T.h v (.int .i64 (i : Nat)) w' K = K (.pointer (some ⟨b, o + i * 6, none⟩)) w' := fun w' K => by rw [hv]; simp [hil]
  have c0 : fx w2 b (o + i * 6) = some (.int .u64 l[i].1) := hc 0 _ rfl
  by_cases hlt : l[i].1 < tr
  ·simp [hlen, hil, hia, c0, hlt, hwi]
   refine ⟨⟨i + 1, rfl, by omega, fun j hj hj2 => ?_, S2⟩, by simp [ms, gv]; omega⟩
   by_cases hji : j = i
   ·subst hji; exact hlt
   ·exact hpre j hj (by omega)
  ·simp [hlen, hil, hia, c0, hlt]
   exact gg fun _ => hlt
 ·simp [hlen, hil]
  exact gg fun h => absurd h hil
def ahm (m : iy) (p : Pk) (ls : List Spn) (lm : List Mem) (lu : List Int) : iy := if pn p ls lm lu = true then wz m (decide (p.fu = 6)) p.tr p.b p.v else m
def xd (m : iy) (p : Pk) (ls : List Spn) (lm : List Mem) (lu : List Int) : Pk := if pn p ls lm lu = true then ahb (jo m (decide (p.fu = 6)) p.tr p.b p.v).1 p.tr p.b (jo m (decide (p.fu = 6)) p.tr p.b p.v).2 (decide (p.fu = 6)) else pkZ
abbrev nq (v : Value) (l : iy) : Asn := rdA 6 xm v l
section
variable {w0 w : World} {R : List Asn} {v : Value} {m : iy} {p : Pk} {ls : List Spn} {lm : List Mem} {lu : List Int}
theorem bfu {α : Type} {sz : Nat} {enc : α → List Value} {l : List α} (S : St w0 w (rdA sz enc v l :: R)) : ∀ b, v.ownBlock = some b → b < w.heap.size := fun b hb => by
 obtain ⟨B, h1, h2, _⟩ := S.open
 exact (h2 b (h1.2 b hb)).2
abbrev avi (w w' : World) (v : Value) (m : iy) (v' : Value) (m' : iy) : Prop := (v' = v ∧ m' = m) ∨ (SlO w' v' m' ∧ ∀ b, v'.ownBlock = some b → w.heap.size ≤ b ∧ b < w'.heap.size)
theorem bhr {w w' : World} {v v' : Value} {m m' : iy} (S : St w w' (nq v' m' :: [])) : avi w w' v m v' m' := .inr ⟨S.rd, fun b hb => by
 obtain ⟨B, h1, h2, _⟩ := S.open
 exact h2 b (h1.2 b hb)⟩
theorem auj (hs : SlO w v m) (hown : ∀ b, v.ownBlock = some b → b < w.heap.size) (hml : m.length ≤ 1000000) (hp : oz w p ls lm lu) (hr : wy p) (hls : LsR ls lm lu) {K : KV}
  (h : ∀ w' v', Fr (fun _ => False) w w' → avi w w' v m v' (ahm m p ls lm lu) → K (.tuple #[v', pkA (xd m p ls lm lu), .bool (pn p ls lm lu)]) w') : fk P F.cr [v, pkA p] w K := by
 rw [M.ae.fcall]
 apply M.ae.calls
 unfold M.ae
 refine St.po (St.jc w) fun pb w1 S1 => ?_
 have S1' : St w w1 (gc pb (pkC p).toArray T.a :: []) := S1
 simp
 have S2 := zj S1'
 generalize w1.heap.size = tb at *
 generalize w1.alloc _ = w2 at *
 obtain ⟨c0, c1, c2, c4, c6, _⟩ := ik S2.swap
 unfold ahm xd at h
 have no : ∀ w3, St w w3 (gc tb (pkC pkZ).toArray T.a :: gc pb (pkC p).toArray T.a :: []) → pn p ls lm lu = false → stN P tb 0 [.int .i64 0, .int .u64 0, .int .u64 0, .int .u64 0, .int .u64 0, .int .u64 0, .int .i64 0, .bool false, .slice none 0 0, .slice none 0 0, .slice none 0 0] w3 fun _ w => lc P T.a (.pointer (some ⟨tb, 0, none⟩)) w fun r0 w' => w' = w ∧ K (.tuple #[v, r0, .bool false]) w := fun w3 S3 he =>
  aaa (q := pkZ) S3 rfl (sp _ _ _ _ _ _) (K := fun r0 w => K (.tuple #[v, r0, .bool false]) w) fun w4 S4 => by
   have := h w4 v S4.fr
   rw [he] at this
   simp only [Bool.false_eq_true, if_false] at this
   exact this (.inl ⟨rfl, rfl⟩)
 have hask : (p.fu = 4 ∨ p.fu = 6) → pn p ls lm lu = sx p ls lm lu := fun hk => by
  unfold pn
  have : (decide (p.fu = 4) || decide (p.fu = 6)) = true := by simpa using hk
  rw [this, Bool.true_and]
 -- what is granted, in the end
 have fin : ∀ (r : Rg) (ok tk : Bool) (rb : Nat) w3, pn p ls lm lu = true → tk = decide (p.fu = 6) → (r, ok) = jo m tk p.tr p.b p.v → St w w3 (gc rb (rgC r) T.i :: gc tb (pkC pkZ).toArray T.a :: gc pb (pkC p).toArray T.a :: []) →
   M.ae.j1 [.bool ok] (.pointer (some ⟨pb, 0, none⟩)) (.pointer (some ⟨rb, 0, none⟩)) v (.pointer (some ⟨tb, 0, none⟩)) w3 K := fun r ok tk rb w3 he htk hrk S3 => by
  rw [he] at h
  simp only [if_true] at h
  rw [← htk, ← hrk] at h
  have hM : wz m tk p.tr p.b p.v = if ok = true then nl m p.tr r else m := by unfold wz; rw [← hrk]
  rw [hM] at h
  simp only at h
  have out : ∀ (v2 : Value) (m2 : iy) (X : List Asn) w4, m2 = (if ok = true then nl m p.tr r else m) → (∀ w', St w w' X → avi w w' v m v2 m2) → St w w4 (gc rb (rgC r) T.i :: gc tb (pkC pkZ).toArray T.a :: gc pb (pkC p).toArray T.a :: X) →
    M.ae.j2 (.pointer (some ⟨rb, 0, none⟩)) (.pointer (some ⟨pb, 0, none⟩)) [.bool ok] (.pointer (some ⟨tb, 0, none⟩)) [v2] w4 K := fun v2 m2 X w4 em hn S4 => by
   obtain ⟨_, _, _, rl⟩ := iw S4
   obtain ⟨d0, d1, d2, _⟩ := ik S4.up2
   unfold M.ae.j2
   simp [rl, d0, d1, d2]
   refine auh _ _ _ _ _ fun w5 f5 => ?_
   rw [ajv]
   have S5 := S4.iu f5
   rw [← htk]
   refine aaa S5.swap rfl (sp _ _ _ _ _ _) (K := fun r0 w => K (.tuple #[v2, r0, .bool true]) w) fun w6 S6 => ?_
   refine h w6 v2 S6.fr ?_
   rw [← em]
   exact hn w6 S6.drop.drop.drop
  unfold M.ae.j1
  cases ok with
  | false =>
   simp
   exact out v m [] w3 (by simp) (fun _ _ => .inl ⟨rfl, rfl⟩) S3
  | true =>
   obtain ⟨_, _, _, rl⟩ := iw S3
   obtain ⟨d0, d1, d2, _⟩ := ik S3.up2
   simp [d1, rl]
   have hsz := S3.fr.size
   refine bbi (hs.fr S3.fr fun _ _ _ h => h) hml (fun b hb => by have := hown b hb; omega) p.tr r fun w4 v4 o4 f4 => ?_
   have S4 : St w w4 (nq v4 (nl m p.tr r) :: _) := S3.add f4 (B := fun x => v4.ownBlock = some x) ⟨o4.sl tx, fun b hb => hb⟩ fun b hb => o4.lt hb
   exact out v4 _ _ w4 (by simp) (fun _ => bhr) (St.dn3 S4)
 -- an ask
 have ask : ∀ w3, St w w3 (gc tb (pkC pkZ).toArray T.a :: gc pb (pkC p).toArray T.a :: []) → (p.fu = 4 ∨ p.fu = 6) → sx p ls lm lu = true → M.ae.j0 (.pointer (some ⟨pb, 0, none⟩)) v (.pointer (some ⟨tb, 0, none⟩)) w3 K := fun w3 S3 hk hre => by
  have hae : pn p ls lm lu = true := by rw [hask hk]; exact hre
  obtain ⟨d0, d1, d2, _, d6, _⟩ := ik S3.swap
  unfold M.ae.j0
  simp [d1]
  refine bbh (hs.fr S3.fr fun _ _ _ h => h) hml p.tr fun w4 f4 => ?_
  have S4 := S3.iu f4
  have S5 := tq S4 T.i
  generalize w4.heap.size = rb at *
  generalize w4.alloc _ = w5 at *
  unfold jw
  simp
  refine pf (r' := mi m p.tr) S5 fun w6 S6 => ?_
  obtain ⟨d0, d1, d2, _, d6, _⟩ := ik S6.up2
  obtain ⟨_, _, _, rl⟩ := iw S6
  by_cases h4 : p.fu = 4
  ·have h6 : ¬ p.fu = 6 := by omega
   simp [d0, h4, rl, d2]
   refine bbs _ _ hr.b.1.1 fun w7 f7 => ?_
   have S7 := S6.iu f7
   simp
   unfold jw
   simp
   refine pf (r' := ((mi m p.tr).qr p.b).1) S7 fun w8 S8 => ?_
   exact fin _ _ false rb w8 hae (by simp [h6]) (by unfold jo; simp) S8
  ·have h6 : p.fu = 6 := by omega
   simp [d0, h6, rl, d2, d6]
   refine bfc _ _ _ hr.b.1.1 fun w7 f7 => ?_
   have S7 := S6.iu f7
   simp
   unfold jw
   simp
   refine pf (r' := ((mi m p.tr).acc p.b p.v).1) S7 fun w8 S8 => ?_
   exact fin _ _ true rb w8 hae (by simp [h6]) (by unfold jo; simp) S8
 by_cases hk : p.fu = 4 ∨ p.fu = 6
 ·have pl := fun K => uu S2.swap K
  have rt : ∀ {Q : KV}, (∀ w3, Fr (fun _ => False) w2 w3 → Q (.int .i64 (zo p ls lm lu)) w3) → fk P F.cc [pkA p] w2 Q := fun {Q} hq => anu (hp.fr S2.fr) hr (fun x hx => (hls.m x hx).1) (fun x hx => (hls.u x hx).1) hq
  have go : ∀ w3, Fr (fun _ => False) w2 w3 → fm (.bool !decide (zo p ls lm lu = 0)) (stN P tb 0 [.int .i64 0, .int .u64 0, .int .u64 0, .int .u64 0, .int .u64 0, .int .u64 0, .int .i64 0, .bool false, .slice none 0 0, .slice none 0 0, .slice none 0 0] w3 fun _ w => lc P T.a (.pointer (some ⟨tb, 0, none⟩)) w fun r0 w' => w' = w ∧ K (.tuple #[v, r0, .bool false]) w) (M.ae.j0 (.pointer (some ⟨pb, 0, none⟩)) v (.pointer (some ⟨tb, 0, none⟩)) w3 K) := fun w3 f3 => by
   have S3 := S2.iu f3
   unfold zo
   cases hre : sx p ls lm lu with
   | false =>
    simp
    exact no w3 S3 (by rw [hask hk]; exact hre)
   | true =>
    simp
    exact ask w3 S3 hk hre
  by_cases h4 : p.fu = 4
  ·simp [c0, h4, pl]
   exact rt fun w3 f3 => by simpa using go w3 f3
  ·have h6 : p.fu = 6 := by omega
   simp [c0, h6, pl]
   exact rt fun w3 f3 => by simpa using go w3 f3
 ·have h4 : ¬ p.fu = 4 := fun h => hk (.inl h)
  have h6 : ¬ p.fu = 6 := fun h => hk (.inr h)
  simp [c0, h4, h6]
  exact no w2 S2 (by unfold pn; simp [h4, h6])
end
set_option maxRecDepth 100000
open Go.Eng Go.Proofs.YtfnhoaemapheoaaGreat.Sint
def bhw (W : World) (l1 l2 : iy) : KL := fun x w1 => ∃ (u : Value) (i : Nat), x = [u, .int .i64 (i : Nat)] ∧ i ≤ l1.length ∧ (∀ j (h1 : j < l1.length) (h2 : j < l2.length), j < i → l1[j] = l2[j]) ∧ Fr (fun _ => False) W w1
theorem afv {w : World} {v1 v2 : Value} {l1 l2 : iy} (s1 : SlO w v1 l1) (s2 : SlO w v2 l2) (hlen : l1.length ≤ 1000000) {K : KV} (h : ∀ w', Fr (fun _ => False) w w' → K (.bool (decide (l1 = l2))) w') : fk P F.bv [v1, v2] w K := by
 rw [M.bu.fcall]
 apply M.bu.calls
 unfold M.bu
 have k1 : ∀ w' K, biT P .len #[T.h] T.b [false] [v1] w' K = K (.int .i64 l1.length) w' := fun w' K => s1.ip (by kernel_rfl) [false]
 have k2 : ∀ w' K, biT P .len #[T.h] T.b [false] [v2] w' K = K (.int .i64 l2.length) w' := fun w' K => s2.ip (by kernel_rfl) [false]
 by_cases hne : l1.length = l2.length
 case neg =>
  have hne' : ¬ (l1.length : Int) = (l2.length : Int) := by omega
  simp [k1, k2, hne']
  have := h w (Fr.refl _ _)
  rwa [decide_eq_false fun he => hne (congrArg List.length he)] at this
 have hne' : (l1.length : Int) = (l2.length : Int) := by omega
 simp [k1, k2, hne']
 refine ⟨bhw w l1 l2, fun x _ => l1.length - ms x 1, ⟨_, 0, rfl, Nat.zero_le _, fun j _ _ h => by omega, Fr.refl _ _⟩, ?_⟩
 rintro x w1 ⟨u, i, rfl, hi, hpre, f1⟩
 unfold M.bu.j2
 by_cases hil : i < l1.length
 ·have hil2 : i < l2.length := by omega
  have hwi : IntKind.i64.wrap ((i : Int) + 1) = ((i + 1 : Nat) : Int) := by rw [ft (by omega) (by omega)]; rfl
  obtain ⟨b1, o1, c1, e1, _, _, g1⟩ := (s1.fr f1 fun _ _ _ h => h : SlO w1 v1 l1).at hil
  obtain ⟨b2, o2, c2, e2, _, _, g2⟩ := (s2.fr f1 fun _ _ _ h => h : SlO w1 v2 l2).at hil2
  have i1 : ∀ w' K, iaT P T.h v1 (.int .i64 (i : Nat)) w' K = K (.pointer (some ⟨b1, o1 + i * 6, none⟩)) w' := fun w' K => by rw [e1]; simp [hil]
  have i2 : ∀ w' K, iaT P T.h v2 (.int .i64 (i : Nat)) w' K = K (.pointer (some ⟨b2, o2 + i * 6, none⟩)) w' := fun w' K => by rw [e2]; simp [hil2]
  have d1 : ∀ K, ldN P 6 b1 (o1 + i * 6) (dr w1 1) K = K (aeo l1[i]) (dr w1 1) := fun K => ldO (fun k v hk => by rw [mf]; exact g1 k v hk) K
  have d2 : ∀ K, ldN P 6 b2 (o2 + i * 6) (dr w1 1) K = K (aeo l2[i]) (dr w1 1) := fun K => ldO (fun k v hk => by rw [mf]; exact g2 k v hk) K
  simp [k1, hil]
  unfold M.bu.j3
  by_cases he : l1[i] = l2[i]
  ·simp [i1, i2, d1, d2, awi, he, hwi]
   refine ⟨⟨_, i + 1, rfl, by omega, fun j a1 a2 hj => ?_, f1.dr 1⟩, by simp [ms, gv]; omega⟩
   by_cases hji : j = i
   ·subst hji; exact he
   ·exact hpre j a1 a2 (by omega)
  ·simp [i1, i2, d1, d2, awi, he]
   have := h _ (f1.dr 1)
   rwa [decide_eq_false fun hee => he (by simp [hee])] at this
 ·simp [k1, hil]
  have := h _ f1
  rwa [decide_eq_true (akd hne fun j a1 a2 => hpre j a1 a2 (by omega))] at this
section
variable {w0 w : World} {R : List Asn} {q hb : Nat} {m : iy} {L : Lg} {dn : Bool}
def bip (w0 : World) (tv : Value) (q hb : Nat) (m : iy) (L : Lg) (dn : Bool) (R : List Asn) : KL := fun x w1 => ∃ (v : Value) (i : Nat), x = [v, .int .i64 (i : Nat)] ∧ i ≤ m.length ∧ St w0 w1 (uf T.x 6 xm v (m.take i) :: rdA 1 yl tv (m.map (·.1)) :: ko q hb m L dn :: R)
theorem aym (S : St w0 w (ko q hb m L dn :: R)) (ha : Asc m) (hl : m.length ≤ 50000) {K : KV} (h : ∀ w' v', St w0 w' (uf T.x 6 xm v' m :: ko q hb m L dn :: R) → K v' w') : fk P F.cs [jd q] w K := by
 rw [M.da.fcall]
 apply M.da.calls
 unfold M.da
 refine agf S ha (by omega) fun w2 tv S2 => ?_
 have hl5 := fun w' K => (S2.rd).ip (P := P) (t := T.f) (ty := T.b) (w := w') (by kernel_rfl) [false] (K := K)
 rw [List.length_map] at hl5
 simp only [fo]
 refine ⟨bip w0 tv q hb m L dn R, fun x _ => m.length - ms x 1, ⟨_, 0, rfl, Nat.zero_le _, Go.Eng.qz S2⟩, ?_⟩
 rintro x w3 ⟨v, i, rfl, hi, S3⟩
 by_cases hil : i < m.length
 ·have hwi : IntKind.i64.wrap ((i : Int) + 1) = ((i + 1 : Nat) : Int) := by rw [ft (by omega) (by omega)]; rfl
  have hrd : ∀ {w' : World} {L' : List Asn}, St w0 w' (rdA 1 yl tv (m.map (·.1)) :: L') → SlU w' tv (m.map (·.1)) := fun S' => S'.rd
  obtain ⟨b, o, cap, hv, _, hc⟩ := yc (hrd S3.swap) (i := i) (by simpa using hil)
  rw [List.getElem_map] at hc
  have hia : ∀ w' K, iaT P T.f tv (.int .i64 (i : Nat)) w' K = K (.pointer (some ⟨b, o + i, none⟩)) w' := fun w' K => by rw [hv]; simp [hil]
  have hcell : ∀ {w' : World} {L' : List Asn}, St w0 w' (rdA 1 yl tv (m.map (·.1)) :: L') → fx w' b (o + i) = some (.int .u64 m[i].1) := fun {w' L'} S' => by
   obtain ⟨b', o', cap', hv', _, hc'⟩ := yc (hrd S') (i := i) (by simpa using hil)
   rw [List.getElem_map] at hc'
   rw [hv] at hv'
   simp only [Value.slice.injEq, Option.some.injEq, Addr.mk.injEq] at hv'
   obtain ⟨⟨rfl, rfl, _⟩, _⟩ := hv'
   exact hc'
  simp [hl5, hil]
  unfold M.da.j2
  have S3d := S3.iu ((Fr.refl _ w3).dr 1)
  simp [hia, hc]
  have hq : (Value.pointer (some ⟨q, 0, none⟩)) = jd q := rfl
  refine awv S3d.up2 m[i].1 fun w4 S4 => ?_
  have S4' := S4.dn2
  have e : mi m m[i].1 = m[i].2 := by unfold mi; rw [aze ha hil]; rfl
  rw [e]
  simp [hcell S4'.swap]
  refine bea _ fun w5 f5 => ?_
  have S5 := S4'.iu f5
  simp [hcell S5.swap]
  unfold jw
  simp
  have S6 : St w0 (w5.alloc (.cells #[.int .u64 m[i].1, .int .u64 (m[i].2).p.n, .int .u64 (m[i].2).p.gj, .int .u64 (m[i].2).t.n, .int .u64 (m[i].2).t.gj, .int .i64 (m[i].2).v] T.x)) (uf T.x 6 xm (.slice (some ⟨w5.heap.size, 0, none⟩) 1 1) [m[i]] :: _) := St.aed (l := [m[i]]) S5 tx rfl (by simp [maxLen])
  refine Go.Eng.xw et.h tx aqw S6.swap (l2 := [m[i]]) (S6.row tx) (by simp; omega) (by decide) fun w7 v7 S7 => ?_
  rw [hwi]
  refine ⟨⟨v7, i + 1, rfl, by omega, ?_⟩, by simp [ms, gv]; omega⟩
  have e2 : m.take (i + 1) = m.take i ++ [m[i]] := by rw [List.take_add_one, List.getElem?_eq_getElem hil]; rfl
  rw [e2]
  exact S7.swap.drop
 ·have hie : i = m.length := by omega
  subst hie
  rw [List.take_length] at S3
  simp [hl5]
  exact h w3 v S3.swap.drop
end
set_option maxRecDepth 100000
open Go.Eng Go.Proofs.YtfnhoaemapheoaaGreat.Sint
section
variable {w0 w : World} {R : List Asn} {p hb : Nat} {v : Value} {L : Lg} {D : Dk} {s f : Int} {G : Nat} {l : List PB} {ls : List (List Int)} {vs : List SV}
end
set_option maxRecDepth 100000
open Go.Eng Go.Proofs.YtfnhoaemapheoaaGreat.Sint
theorem aye {L : Lg} {s f : Int} (h : Chn s f L.fq) (h0 : L.fq = [] → f = 0) : L.jc = f := by
 unfold Lg.jc
 cases hq : L.fq with
 | nil => exact (h0 hq).symm
 | cons q r => rw [hq] at h; exact h.2.1
def Cut (ds : List (List Int)) (F : Nat) (m1 m2 : iy) : Prop := ∀ j, F ≤ (ds.take j).length → jr (ds.take j) = m1 ∨ jr (ds.take j) = m2
theorem ahl {ds : List (List Int)} {F : Nat} {m : iy} (h : um ds F m) : Cut ds F m m := fun j hj => .inl (yf h hj)
theorem bcb {ds : List (List Int)} {F : Nat} {m : iy} {p : Int × Rg} (h : um ds F m) (hF : F ≤ ds.length) (hp : okE p) : Cut (ds ++ [lz p.1 p.2]) F m (nl m p.1 p.2) := fun j hj => app h hF hp hj
theorem beg {ds : List (List Int)} {F : Nat} {m : iy} (p : iy) (h : um ds F m) : Cut ds F m p := fun j hj => .inl (yf h hj)
theorem ala (n : Int) : ∀ (qs : List Prt) (D : Dk), (kw n qs D).1.2.ir = D.ir ∧ (kw n qs D).1.2.ie = D.ie ∧ (kw n qs D).1.2.left = D.left
 | [], D => ⟨rfl, rfl, rfl⟩
 | [_], D => ⟨rfl, rfl, rfl⟩
 | q :: q2 :: r, D => by
  have hr : (D.oc q.no).1.ir = D.ir ∧ (D.oc q.no).1.ie = D.ie ∧ (D.oc q.no).1.left = D.left := by
   unfold Dk.oc
   split
   ·exact ⟨rfl, rfl, rfl⟩
   ·split <;> exact ⟨rfl, rfl, rfl⟩
  rw [kw]
  split
  ·split
   ·have := ala n (q2 :: r) (D.oc q.no).1
    rw [this.1, this.2.1, this.2.2]
    exact hr
   ·exact hr
  ·exact ⟨rfl, rfl, rfl⟩
theorem aix (ie gp : Int) : ni 0 0 ⟨gp, []⟩ 0 ⟨ie, 0, false, false, []⟩ :=
 ⟨⟨trivial, by omega, by omega, by simp, by simp [gh], .inl ⟨rfl, rfl, rfl⟩, fun _ => ⟨rfl, rfl⟩, fun q h => by simp at h⟩, fun q h => by simp at h, rfl⟩
theorem ajw (ie gp : Int) : RI 0 0 ⟨gp, []⟩ 0 ⟨ie, 0, false, false, []⟩ [] :=
 ⟨aix ie gp, fun d hd => by simp [gh] at hd, fun j _ => by simp [gh, jr], Nat.zero_le _⟩
section
variable {w0 w : World} {R : List Asn} {q hb : Nat} {m m1 m2 : iy} {L : Lg} {D : Dk} {G : Nat} {s f : Int} {Q : List Prt} {x : Prop} {gp : Int}
theorem acl (S : St w0 w (gk hb D :: R)) (hv : Vir s f Q G D x) (hd : D.gr = false) (hm : 64 ≤ gp ∧ gp ≤ 1048576) (hr : vr (gh Q)) (hc : Cut (gh Q) G m1 m2) {K : KV}
  (h : ∀ w' q m' s' f' L' D', (m' = m1 ∨ m' = m2) → RI s' f' L' (gh L'.fq).length D' m' → L'.gp = gp → f' + (gh L'.fq).length ≤ f + (gh Q).length → D'.ir = D.ir → D'.ie = D.ie → (x → L'.fq = Q) → (gh L'.fq).length ≤ (gh Q).length → St w0 w' (ko q hb m' L' false :: gk hb D' :: R) → K (.tuple #[jd q, .int .i64 0]) w') : fk P F.bj [.pointer (some ⟨hb, 0, none⟩), .int .i64 gp] w K := by
 obtain ⟨s', f', Q', D', eo, g, e2, e3, ⟨j, e4⟩, e5, _, e6, _, _, e7⟩ := bgr hv hd hm
 obtain ⟨y1, y2, y3, y4, _, y6, _⟩ := aod g.vir g.up
 have hr' : vr (gh Q') := by rw [e4]; exact awx hr j
 refine azp S (by omega) eo g y1 hr' fun w2 q S2 => ?_
 have hl : (gh Q').length ≤ (gh Q).length := by rw [e4]; exact List.length_take_le' _ _
 have hcm : jr (gh Q') = m1 ∨ jr (gh Q') = m2 := by rw [e4]; exact hc j (by rw [← e4]; exact e5)
 exact h w2 q (jr (gh Q')) s' f' ⟨gp, Q'⟩ _ hcm ⟨⟨y2, g.size, y3⟩, hr', abe _, Nat.le_refl _⟩ rfl (by show f' + ((gh Q').length : Int) ≤ _; omega) (by rw [y4, e2]) (by rw [y6, e3]) (fun hx => (e6 hx).2.1) hl S2
inductive aio (s f : Int) (gp : Int) (B : Int) (arm : Bool) (ie : Int) (m1 m2 : iy) : Int → iy → Bool → Lg → Dk → Prop
 | ok (F : Nat) (L : Lg) (D : Dk) (s' f' : Int) : RI s' f' L F D m2 → L.gp = gp → f' + (gh L.fq).length ≤ B → (arm = false → D.ir = false) → D.ie = ie → aio s f gp B arm ie m1 m2 0 m2 false L D
 | rh (F : Nat) (L : Lg) (D : Dk) : RI s f L F D m1 → L.gp = gp → f + (gh L.fq).length ≤ B → (arm = false → D.ir = false) → D.ie = ie → aio s f gp B arm ie m1 m2 9 m1 false L D
 | gr (F : Nat) (L : Lg) (D : Dk) (Q : List Prt) : arm = true → D.gr = true → Vir s f Q F D False → vr (gh Q) → Cut (gh Q) F m1 m2 → f + (gh Q).length ≤ B → D.ie = ie → L.gp = gp → f + (gh L.fq).length ≤ B → aio s f gp B arm ie m1 m2 10 m1 true L D
variable {p : Pk} {ls : List Spn} {lm : List Mem} {lu : List Int} {F0 : Nat}
theorem aek {B : Int} {k : Int × Rg} (I : RI s f L F0 D m) (hp : okE k) (hB : f + (gh L.fq).length + 1 ≤ B) (hB2 : B ≤ 1000000000000) :
  ((pg L D k.1 k.2).2 = 0 → aio s f L.gp B D.ir D.ie m (nl m k.1 k.2) 0 (nl m k.1 k.2) false (pg L D k.1 k.2).1.1 (pg L D k.1 k.2).1.2) ∧ ((pg L D k.1 k.2).2 ≠ 0 → aio s f L.gp B D.ir D.ie m (nl m k.1 k.2) (pg L D k.1 k.2).2 m (decide ((pg L D k.1 k.2).2 = 10)) (pg L D k.1 k.2).1.1 (pg L D k.1 k.2).1.2) := by
 have hw : WrR s f L F0 D [lz k.1 k.2] (pg L D k.1 k.2) := alz I.th (fun b hb => by rw [List.mem_singleton.1 hb, yt]; omega) (by simp; omega)
 have hsnoc : ∀ {ds : List (List Int)}, vr ds → vr (ds ++ [lz k.1 k.2]) := fun {ds} hr d hd => by
  rcases List.mem_append.1 hd with hd | hd
  ·exact hr d hd
  ·exact ⟨k, hp, List.mem_singleton.1 hd⟩
 generalize pg L D k.1 k.2 = z at *
 cases hw with
 | ok L' D' g e1 e2 e3 e4 =>
  refine ⟨fun _ => .ok _ L' D' s f ⟨g, by rw [e1]; exact hsnoc I.ga, ?_, Nat.le_refl _⟩ e2 (by rw [e1, List.length_append, List.length_singleton]; omega) e4 e3, fun h => by simp at h⟩
  have : nl m k.1 k.2 = jr (gh L'.fq) := by rw [e1, ahd hp.1 hp.2.1 hp.2.2.1 hp.2.2.2, I.avz]
  rw [this]
  exact abe _
 | rh i L' D' hi g e1 e2 e3 e4 =>
  refine ⟨fun h => by simp at h, fun _ => ?_⟩
  have hi0 : i = 0 := by simpa using hi
  rw [hi0, List.take_zero, List.append_nil] at e1
  exact .rh F0 L' D' ⟨g, by rw [e1]; exact I.ga, by rw [e1]; exact I.set, by rw [e1]; exact I.le⟩ e2 (by rw [e1]; omega) e4 e3
 | gr i L' D' Q b1 b2 b3 b4 b5 b6 b7 b8 =>
  refine ⟨fun h => by simp at h, fun _ => ?_⟩
  have hQ : Cut (gh Q) F0 m (nl m k.1 k.2) ∧ vr (gh Q) := by
   cases i with
   | zero => rw [b6, List.take_zero, List.append_nil]; exact ⟨beg _ I.set, I.ga⟩
   | succ i => rw [b6, List.take_of_length_le (by simp)]; exact ⟨bcb I.set I.le hp, hsnoc I.ga⟩
  exact .gr F0 L' D' Q b1 b4 b5 hQ.2 hQ.1 (by rw [b6, List.length_append, List.length_take, List.length_singleton]; omega) b7 b2 (by simp at b8; omega)
theorem bcl {B : Int} (S : St w0 w (ko q hb m L false :: gk hb D :: R)) (hp : oz w0 p ls lm lu) (hr : wy p) (I : RI s f L F0 D m) (hB : f + (gh L.fq).length + 1 ≤ B) (hB2 : B ≤ 1000000000000) {K : KV}
  (hno : pn p ls lm lu = false → ∀ w', St w0 w' (ko q hb m L false :: gk hb D :: R) → K (.tuple #[pkA pkZ, .int .i64 6]) w')
  (hl : pn p ls lm lu = true → ∀ w' e m' dn' L' D', aio s f L.gp B D.ir D.ie m (wz m (decide (p.fu = 6)) p.tr p.b p.v) e m' dn' L' D' → St w0 w' (ko q hb m' L' dn' :: gk hb D' :: R) → K (.tuple #[pkA (if e = 0 then xd m p ls lm lu else pkZ), .int .i64 e]) w') :
  fk P F.v [jd q, pkA p] w K := by
 have up : D.gr = false := I.th.up
 have hfin : ∀ (hae : pn p ls lm lu = true), okE (p.tr, (jo m (decide (p.fu = 6)) p.tr p.b p.v).1) := fun hae => by
  obtain ⟨_, htr, _⟩ := air hae hr
  exact ajn I.ok hr.tr htr hr.b
 refine ath S (fun w' R' S' => hp.fr S'.fr) hr (fun _ _ => ⟨F0, I⟩) (by omega) hno (fun _ hd => by rw [up] at hd; cases hd) (fun hae _ _ he w' S' => ?_) (fun hae _ _ hne h0 w' S' => ?_) fun hae _ _ hne h0 w' S' => ?_
 ·have hM := aet (m := m) (kg := decide (p.fu = 6)) (tr := p.tr) (b := p.b) (v := p.v) I.asc
  rw [if_pos he] at hM
  have := hl hae w' 0 m false L D (by rw [hM]; exact .ok F0 L D s f I rfl (by omega) id rfl) S'
  unfold xd at this
  rw [if_pos rfl, if_pos hae] at this
  exact this
 ·have hM := aet (m := m) (kg := decide (p.fu = 6)) (tr := p.tr) (b := p.b) (v := p.v) I.asc
  rw [if_neg hne] at hM
  have := hl hae w' _ m _ _ _ (by rw [hM]; exact (aek I (hfin hae) hB hB2).2 h0) S'
  rw [if_neg h0] at this
  exact this
 ·have hM := aet (m := m) (kg := decide (p.fu = 6)) (tr := p.tr) (b := p.b) (v := p.v) I.asc
  rw [if_neg hne] at hM
  have := hl hae w' 0 _ false _ _ (by rw [hM]; exact (aek I (hfin hae) hB hB2).1 h0) S'
  unfold xd at this
  rw [if_pos rfl, if_pos hae] at this
  exact this
theorem bck {B : Int} (S : St w0 w (ko q hb m L false :: gk hb D :: R)) (I : RI s f L F0 D m) (hB : f + (gh L.fq).length + m.length ≤ B) (hB2 : B ≤ 1000000000000) (hml : m.length ≤ 50000) {K : KV}
  (hl : ∀ w' e dn' L' D', aio s f L.gp B D.ir D.ie m m e m dn' L' D' → (e = 0 → m.length ≤ (gh L'.fq).length ∧ (gh L'.fq).length ≤ m.length + (gh L.fq).length) → St w0 w' (ko q hb m L' dn' :: gk hb D' :: R) → K (.int .i64 e) w') :
  fk P F.ax [jd q] w K := by
 have up : D.gr = false := I.th.up
 have hall : (jy m).length = m.length := by unfold jy; simp
 have hw := alz (ga := jy m) I.th (fun b hb => by
  unfold jy at hb
  obtain ⟨p, _, rfl⟩ := List.mem_map.1 hb
  rw [yt]; omega) (by rw [hall]; omega)
 refine bfa S (fun _ _ => ⟨F0, I⟩) (by omega) hml (fun hd => by rw [up] at hd; cases hd) (fun _ _ h0 w' S' => ?_) fun _ _ h0 w' S' => ?_
 ·refine hl w' _ _ _ _ ?_ (fun h => absurd h h0) S'
  generalize wrF L D (jy m) = z at *
  cases hw with
  | ok => simp at h0
  | rh i L' D' hi g e1 e2 e3 e4 =>
   have I2 := bcn I g e1
   exact .rh F0 L' D' I2 e2 (by rw [e1, List.length_append, List.length_take, hall]; omega) e4 e3
  | gr i L' D' Q b1 b2 b3 b4 b5 b6 b7 b8 =>
   exact .gr F0 L' D' Q b1 b4 b5 (by rw [b6]; exact aem I.ga I.ok i) (by rw [b6]; exact ahl (afj I.set I.le I.ok i)) (by rw [b6, List.length_append, List.length_take, hall]; omega) b7 b2 (by rw [hall] at b8; omega)
 ·have hc : ahy L D m = Lg.drop (wrF L D (jy m)).1.1 (wrF L D (jy m)).1.2 (IntKind.i64.wrap (L.jc + (gh L.fq).length)) := by unfold ahy; rw [if_pos h0]
  have hst : L.jc = f := aye I.th.vir.chn fun h => (I.th.vir.nil h).2
  have hf0 := I.th.vir.f0
  have hwn : IntKind.i64.wrap (f + ((gh L.fq).length : Int)) = f + ((gh L.fq).length : Int) := ft (by omega) (by omega)
  rw [hst, hwn] at hc
  generalize wrF L D (jy m) = z at *
  cases hw with
  | rh => simp at h0
  | gr => simp at h0
  | ok L' D' g e1 e2 e3 e4 =>
   simp only at hc
   obtain ⟨most', qs⟩ := L'
   simp only at e1 e2 g
   obtain ⟨s', f', h1, h2, ⟨a, ⟨ha, hfa⟩, h3⟩, h4⟩ := bae g e1 I.avz I.ok
   have hnx := ajj (L := ⟨most', qs⟩) g.vir.chn g.vir.s0 (fun h => (g.vir.nil h).2) g.vir.f0 g.vir.few
   simp only at hnx
   have hd : Lg.drop ⟨most', qs⟩ D' (f + ((gh L.fq).length : Int)) = ((⟨most', (kw (f + ((gh L.fq).length : Int)) qs D').1.1⟩, (kw (f + ((gh L.fq).length : Int)) qs D').1.2), 0) := by
    unfold Lg.drop
    rw [if_neg (by
     have : (gh qs).length = (gh L.fq).length + (jy m).length := by rw [e1]; simp
     omega), g.up]
    simp only [Bool.false_eq_true, if_false]
    rw [h1]
   rw [hd] at hc
   rw [hc] at S' ⊢
   obtain ⟨k1, k2, _⟩ := ala (f + ((gh L.fq).length : Int)) qs D'
   have hlen : (gh (kw (f + ((gh L.fq).length : Int)) qs D').1.1).length = (gh L.fq).length - a + m.length := by rw [h3, List.length_append, List.length_drop, hall]
   have hrr : vr ((gh L.fq).drop a ++ jy m) := fun d hd => by
    rcases List.mem_append.1 hd with hd | hd
    ·exact I.ga d (List.mem_of_mem_drop hd)
    ·exact aem I.ga I.ok m.length d (List.mem_append_right _ (by rw [List.take_of_length_le (by omega)]; exact hd))
   refine hl w' 0 false _ _ (.ok _ _ _ s' f' ⟨h2, by rw [h3]; exact hrr, by rw [← h4]; exact abe _, Nat.le_refl _⟩ e2 ?_ (fun h => by rw [k1]; exact e4 h) (by rw [k2, e3])) (fun _ => by simp only; omega) S'
   simp only
   omega
end
set_option maxRecDepth 100000
open Go.Eng Go.Proofs.YtfnhoaemapheoaaGreat.Sint
theorem avm {s f : Int} {L : Lg} {G : Nat} {D : Dk} (g : ni s f L G D) (h : L.fq = []) : D.ib = 0 := by
 rcases g.vir.dsc with ⟨_, hf, _⟩ | ⟨Q0, q, _, _, _, hq, _⟩
 ·unfold Dk.ib; rw [hf]; rfl
 ·rw [h] at hq; simp at hq
theorem bar {s f : Int} {L : Lg} {G : Nat} {D : Dk} {k : Int} {r : Rg} (g : ni s f L G D) (hn : f + (gh L.fq).length + 1 ≤ 1000000000000) (h1 : L.fq.length < 63) (h2 : D.ir = false) (h3 : (D.ib : Int) + 65 ≤ D.ie) : (pg L D k r).2 = 0 := by
 have ha := baj (b := lz k r) g hn
 have hb := yt k r
 unfold pg
 have h0 : (L.append D (lz k r)).2 = 0 := by
  generalize L.append D (lz k r) = z at *
  cases ha with
  | ake hx => omega
  | rh D' hx _ _ _ => rcases hx with hx | hx <;> omega
  | gr D' Q hx => rw [h2] at hx; cases hx
  | ok => rfl
 rw [aqf h0]
 generalize L.append D (lz k r) = z at *
 cases ha with
 | ake hx => simp at h0
 | rh => simp at h0
 | gr => simp at h0
 | ok L' D' g' =>
  have e0 : wrF L' D' [] = ((L', (L'.mu D').1), (L'.mu D').2) := by unfold wrF qq; simp
  rw [e0]
  exact (aod g'.vir g'.up).1
section
variable {w0 w : World} {R : List Asn} {q hb : Nat} {m : iy} {L : Lg} {D : Dk} {s f : Int} {p : Pk} {ls : List Spn} {lm : List Mem} {lu : List Int} {F0 : Nat}
theorem axl {B : Int} (S : St w0 w (ko q hb m L false :: gk hb D :: R)) (hp : oz w0 p ls lm lu) (hr : wy p) (I : RI s f L F0 D m) (hB : f + (gh L.fq).length + 1 ≤ B) (hB2 : B ≤ 1000000000000) (hae : pn p ls lm lu = true) (h1 : L.fq.length < 63) (h2 : D.ir = false) (h3 : (D.ib : Int) + 65 ≤ D.ie) {K : KV}
  (hl : ∀ w' s' f' F' L' D', RI s' f' L' F' D' (wz m (decide (p.fu = 6)) p.tr p.b p.v) → L'.gp = L.gp → f' + (gh L'.fq).length ≤ B → D'.ir = false → D'.ie = D.ie → St w0 w' (ko q hb (wz m (decide (p.fu = 6)) p.tr p.b p.v) L' false :: gk hb D' :: R) → K (.tuple #[pkA (xd m p ls lm lu), .int .i64 0]) w') :
  fk P F.v [jd q, pkA p] w K := by
 have up : D.gr = false := I.th.up
 obtain ⟨_, htr, _⟩ := air hae hr
 have hok : okE (p.tr, (jo m (decide (p.fu = 6)) p.tr p.b p.v).1) := ajn I.ok hr.tr htr hr.b
 have hM := aet (m := m) (kg := decide (p.fu = 6)) (tr := p.tr) (b := p.b) (v := p.v) I.asc
 have hPk : xd m p ls lm lu = ahb (jo m (decide (p.fu = 6)) p.tr p.b p.v).1 p.tr p.b (jo m (decide (p.fu = 6)) p.tr p.b p.v).2 (decide (p.fu = 6)) := by unfold xd; rw [if_pos hae]
 rw [hPk] at hl
 have hw0 : ∀ r, (pg L D p.tr r).2 = 0 := fun r => bar I.th (by omega) h1 h2 h3
 refine ath S (fun w' R' S' => hp.fr S'.fr) hr (fun _ _ => ⟨F0, I⟩) (by omega) (fun he => by rw [hae] at he; cases he) (fun _ hd => by rw [up] at hd; cases hd) (fun _ _ _ he w' S' => ?_) (fun _ _ _ hne h0 => absurd (hw0 _) h0) fun _ _ _ hne h0 w' S' => ?_
 ·rw [if_pos he] at hM
  rw [hM] at hl
  exact hl w' s f F0 L D I rfl (by omega) h2 rfl S'
 ·rw [if_neg hne] at hM
  rw [hM] at hl
  have hL := (aek I hok hB hB2).1 h0
  simp only at hL
  generalize (pg L D p.tr (jo m (decide (p.fu = 6)) p.tr p.b p.v).1).1 = z at *
  cases hL with
  | ok F1 _ _ s' f' I' e1 e2 e3 e4 => exact hl w' s' f' F1 _ _ I' e1 e2 (e3 h2) e4 S'
end
theorem bdt {w : World} {K : KV} (h : ∀ w', Fr (fun _ => False) w w' → K (.bool true) w') : fk P F.bn [] w K := by
 rw [M.ck.fcall]
 apply M.ck.calls
 unfold M.ck
 refine asp (St.jc w) 10000 (fun h => by omega) fun _ _ w1 hb S1 => ?_
 simp
 refine acl (m1 := []) (m2 := []) S1 (aix 10000 256).vir rfl (by omega) (ajw 10000 256).ga (ahl (ajw 10000 256).set) fun w2 q m' s f L D hm I hmost hfl harm hroom hx _ S2 => ?_
 have hm' : m' = [] := by rcases hm with h | h <;> exact h
 subst hm'
 have hp0 : L.fq = [] := hx trivial
 simp only [jd]
 simp
 unfold M.ck.j0
 simp
 have S3 : St w (w2.alloc (.cells #[.int .u64 0, .int .u64 0] T.c)) (gc w2.heap.size #[.int .u64 0, .int .u64 0] T.c :: _) := S2.mkB #[.int .u64 0, .int .u64 0] T.c
 generalize w2.heap.size = bb at *
 generalize w2.alloc _ = w3 at *
 refine St.put (cs' := #[.int .u64 3, .int .u64 1]) (vs := [.int .u64 3, .int .u64 1]) S3 (by simp) (by simp) rfl fun w4 S4 => ?_
 have bl : ∀ {w' : World} {L' : List Asn}, St w w' (gc bb #[.int .u64 3, .int .u64 1] T.c :: L') → ∀ K, ldN P 2 bb 0 w' K = K (jf ⟨3, 1⟩) w' := fun S' K => S'.ldA [.int .u64 3, .int .u64 1] rfl rfl K
 rw [bl S4]
 unfold jf
 simp
 have ep : Value.agg #[.int .i64 4, .int .u64 5, .int .u64 3, .int .u64 1, .int .u64 0, .int .u64 0, .int .i64 0, .bool false, .slice none 0 0, .slice none 0 0, .slice none 0 0] = pkA (pk0 4 5 ⟨3, 1⟩ gu 0 false) := rfl
 rw [ep]
 have hae : pn (pk0 4 5 ⟨3, 1⟩ gu 0 false) [] [] [] = true := by decide
 have hrng : wy (pk0 4 5 ⟨3, 1⟩ gu 0 false) := ⟨⟨by decide, by decide⟩, ⟨⟨by decide, by decide⟩, by decide, by decide⟩, ⟨by decide, by decide⟩, by decide, by decide⟩
 have hM : wz [] (decide ((pk0 4 5 ⟨3, 1⟩ gu 0 false).fu = 6)) (pk0 4 5 ⟨3, 1⟩ gu 0 false).tr (pk0 4 5 ⟨3, 1⟩ gu 0 false).b (pk0 4 5 ⟨3, 1⟩ gu 0 false).v = [(5, ⟨⟨3, 1⟩, gu, 0⟩)] := by rfl
 have hP : xd [] (pk0 4 5 ⟨3, 1⟩ gu 0 false) [] [] [] = pk0 5 5 ⟨3, 1⟩ gu 0 true := by rfl
 have hu : D.ib = 0 := avm I.th hp0
 refine axl (B := 1) (St.dn2 S4) (bgm _ _ _ _ _ _ _) hrng I (by rw [hp0] at hfl ⊢; simp [gh] at hfl ⊢; omega) (by omega) hae (by rw [hp0]; simp) harm (by rw [hu, hroom]; simp) fun w5 s2 f2 F2 L2 D2 I2 hm2 hb2 ha2 hr2 S5 => ?_
 rw [hM] at I2 S5
 rw [hP]
 simp
 have S6 := zj S5
 generalize w5.heap.size = tb at *
 generalize w5.alloc _ = w6 at *
 unfold pkA pkC
 simp
 refine ahr (q := pk0 5 5 ⟨3, 1⟩ gu 0 true) S6 rfl (sp _ _ _ _ _ _) fun w7 S7 => ?_
 refine arl (kl := []) S7.up2 (fun _ _ _ => Sl.nil) fun w8 S8 => ?_
 obtain ⟨c1, c2, c3, c4⟩ := axb I2.th.vir []
 refine acl (m1 := [(5, ⟨⟨3, 1⟩, gu, 0⟩)]) (m2 := [(5, ⟨⟨3, 1⟩, gu, 0⟩)]) S8 c1 c2 (by omega) I2.ga (ahl I2.set) fun w9 q2 m' s3 f3 L3 D3 hm3 I3 _ _ _ _ _ _ S9 => ?_
 have hm' : m' = [(5, ⟨⟨3, 1⟩, gu, 0⟩)] := by rcases hm3 with h | h <;> exact h
 subst hm'
 have Z := S9.iu ((Fr.refl _ w9).dr 1)
 obtain ⟨k0, _, _, _, _, k7, _⟩ := ik Z.up2
 simp only [mf] at k0 k7
 have b9 := bl Z.up4
 simp [k0, k7, b9, pk0, jd]
 refine awv Z 5 fun w10 Z1 => ?_
 have e5 : mi [(5, (⟨⟨3, 1⟩, gu, 0⟩ : Rg))] 5 = ⟨⟨3, 1⟩, gu, 0⟩ := rfl
 rw [e5]
 have b10 := bl Z1.up4
 simp [b10, jw]
 have eb : Value.agg #[.int .u64 3, .int .u64 1] = jf ⟨3, 1⟩ := rfl
 simp only [eb, pt]
 simp
 refine agf Z1 I3.asc (by simp) fun w11 tv Z2 => ?_
 have hl5 := fun w' K => (Z2.rd).ip (P := P) (t := T.f) (ty := T.b) (w := w') (by kernel_rfl) [false] (K := K)
 simp at hl5
 simp [hl5]
 exact h w11 Z2.fr
set_option maxRecDepth 100000
open Go.Eng Go.Proofs.YtfnhoaemapheoaaGreat.Sint
structure agm where
 fu : Int
 n : Int
 p : Pk
 ls : List Spn
 lm : List Mem
 lu : List Int
 kv : Value
 jj : List Int
def alm (x : agm) : List Value := .int .i64 x.fu :: .int .i64 x.n :: (pkC x.p ++ [x.kv])
def yr (w : World) (b o : Nat) (x : agm) : Prop := (∀ j u, (alm x)[j]? = some u → fx w b (o + j) = some u) ∧ zd w x.p x.ls x.lm x.lu ∧ wy x.p ∧ LsR x.ls x.lm x.lu ∧ Sl w 1 qm x.kv x.jj ∧ x.n < 9223372036854775808
theorem beo {x : Int} (h : (Lit.int .i64 x).wf = true) : x < 9223372036854775808 := by
 simp [Lit.wf, IntKind.min, IntKind.max, IntKind.bits, IntKind.signed] at h
 omega
theorem bgf {w : World} {n : Nat} {v : Value} (h : TV P w n T.k [v]) : ∃ l, Sl w 1 qm v l := by
 refine abt (sz := 1) (rd := rdE qm) (e := T.b) (by kernel_rfl) (by kernel_rfl) (by decide) (fun n b o cs ht hl hc => ?_) h
 obtain ⟨x, hx, _⟩ := qg (k := .i64) (by kernel_rfl) ht
 subst hx
 exact ⟨x, fun j u hj => hc j u hj⟩
theorem bal {w : World} {n : Nat} {v : Value} (h : TV P w n T.ag [v]) : ∃ l, tc w 14 yr v l := by
 have hel := et.ag
 refine abt (sz := 14) (rd := yr) (e := T.ap) hel.ty (by kernel_rfl) (by decide) (fun n b o cs ht hl hc => ?_) h
 have hu := Tryz.underlying56
 obtain ⟨_, hf⟩ := zr hu ht
 obtain ⟨m0, t0⟩ : ∃ m, TV P w m T.b ((cs.drop 0).take (P.cellsOf T.b)) := hf 0 _ rfl
 obtain ⟨m1, t1⟩ : ∃ m, TV P w m T.b ((cs.drop 1).take (P.cellsOf T.b)) := hf 1 _ rfl
 obtain ⟨m2, t2⟩ : ∃ m, TV P w m T.a ((cs.drop 2).take (P.cellsOf T.a)) := hf 2 _ rfl
 obtain ⟨m3, t3⟩ : ∃ m, TV P w m T.k ((cs.drop 13).take (P.cellsOf T.k)) := hf 3 _ rfl
 have c0 : P.cellsOf T.b = 1 := by kernel_rfl
 have c1 : P.cellsOf T.a = 11 := by kernel_rfl
 have c2 : P.cellsOf T.k = 1 := by kernel_rfl
 match cs, hl with
 | [u0, u1, u2, u3, u4, u5, u6, u7, u8, u9, u10, u11, u12, u13], _ =>
  simp only [c0, c1, c2, List.drop_zero, List.drop_succ_cons, List.take_succ_cons, List.take_zero] at t0 t1 t2 t3
  obtain ⟨x0, e0, _⟩ := qg (k := .i64) (by kernel_rfl) t0
  obtain ⟨x1, e1, w1⟩ := qg (k := .i64) (by kernel_rfl) t1
  obtain ⟨p, ls, lm, lu, ep, hp, hr, hls⟩ := bhg t2
  obtain ⟨l3, s3⟩ := bgf t3
  simp only [List.cons.injEq, and_true] at e0 e1
  subst e0 e1
  refine ⟨⟨x0, x1, p, ls, lm, lu, u13, l3⟩, ?_, hp, hr, hls, s3, beo w1⟩
  have e : alm ⟨x0, x1, p, ls, lm, lu, u13, l3⟩ = [.int .i64 x0, .int .i64 x1, u2, u3, u4, u5, u6, u7, u8, u9, u10, u11, u12, u13] := by
   unfold alm
   rw [← ep]
   rfl
  rw [e]
  exact fun j u hj => hc j u hj
section
variable {w0 w w' : World} {R : List Asn} {v : Value} {l : List agm}
theorem amn {b o : Nat} {x : agm} (hb : b < w.heap.size) (h : yr w b o x) (hf : Fr (fun _ => False) w w') : yr w' b o x :=
 ⟨fun j u hj => by rw [td (hf.jj b hb fun h => h)]; exact h.1 j u hj, h.2.1.fr hf, h.2.2.1, h.2.2.2.1, h.2.2.2.2.1.fr hf fun _ _ _ h => h, h.2.2.2.2.2⟩
theorem bbx (h : tc w 14 yr v l) (hf : Fr (fun _ => False) w w') : tc w' 14 yr v l := h.jj hf.size fun b o x hb hr => amn hb hr hf
theorem ajo (h : tc w 14 yr v l) {i : Nat} (hi : i < l.length) : ∃ b o, (∀ w' K, iaT P T.ag v (.int .i64 (i : Nat)) w' K = K (.pointer (some ⟨b, o, none⟩)) w') ∧ b < w.heap.size ∧ yr w b o l[i] := by
 have hss : szE P T.ag = 14 := by kernel_rfl
 obtain ⟨a, cap, hv, _, _, h3⟩ := h
 obtain ⟨b, o, rfl, hb, hr⟩ := h3 i l[i] (List.getElem?_eq_getElem hi)
 exact ⟨b, o + i * 14, fun w' K => by rw [hv]; simp [hi], hb, hr⟩
theorem aao {b o : Nat} {x : agm} (h : yr w b o x) : fx w b o = some (.int .i64 x.fu) ∧ fx w b (o + 1) = some (.int .i64 x.n) ∧ (∀ K, ldN P 11 b (o + 2) w K = K (pkA x.p) w) ∧ fx w b (o + 13) = some x.kv :=
 ⟨h.1 0 _ rfl, h.1 1 _ rfl, fun K => wq (pkC x.p) 11 rfl (fun k u hk => by
  have hlt : k < (pkC x.p).length := (List.getElem?_eq_some_iff.1 hk).1
  have := h.1 (k + 2) u (by show (pkC x.p ++ [x.kv])[k]? = some u; rw [List.getElem?_append_left hlt]; exact hk)
  rw [show o + 2 + k = o + (k + 2) by omega]; exact this) K, h.1 13 _ rfl⟩
def bih (W : World) (l : List agm) : KL := fun x w1 => ∃ (u : Value) (i : Nat), x = [u, .int .i64 (i : Nat)] ∧ Fr (fun _ => False) W w1 ∧ i ≤ l.length ∧ ∀ (j : Nat) y, l[j]? = some y → j < i → ajz y.ls y.lm y.lu
theorem bes (hs : tc w 14 yr v l) {K : KV} (h : ∀ bb w', (bb = true → l.length ≤ 60 ∧ ∀ x ∈ l, ajz x.ls x.lm x.lu) → Fr (fun _ => False) w w' → K (.bool bb) w') : fk P F.db [v] w K := by
 rw [M.bo.fcall]
 apply M.bo.calls
 unfold M.bo
 have hlen : ∀ w' K, biT P .len #[T.ag] T.b [false] [v] w' K = K (.int .i64 l.length) w' := fun w' K => hs.ip (by kernel_rfl) [false]
 by_cases hl : 60 < l.length
 ·have : (60 : Int) < l.length := by omega
  simp [hlen, this]
  exact h false w (fun h => by cases h) (Fr.refl _ _)
 have hn : ¬ (60 : Int) < l.length := by omega
 simp [hlen, hn]
 unfold M.bo.j0
 simp only [fo]
 refine ⟨bih w l, fun x _ => l.length - ms x 1, ⟨_, 0, rfl, Fr.refl _ _, Nat.zero_le _, fun j k _ h => by omega⟩, ?_⟩
 rintro x w1 ⟨u, i, rfl, f1, hi, hz⟩
 by_cases hil : i < l.length
 ·obtain ⟨b, o, hia, hb, hr⟩ := ajo (bbx hs f1) hil
  obtain ⟨_, _, k2, _⟩ := aao hr
  have hwi : IntKind.i64.wrap ((i : Int) + 1) = ((i + 1 : Nat) : Int) := by rw [ft (by omega) (by omega)]; rfl
  simp [hlen, hil]
  unfold M.bo.j3
  simp [hia, k2]
  refine axn hr.2.1 fun bb w2 hbb f2 => ?_
  cases bb with
  | false =>
   simp
   exact h false w2 (fun h => by cases h) (f1.trans f2)
  | true =>
   simp [hwi]
   refine ⟨⟨_, i + 1, rfl, f1.trans f2, by omega, fun j y hj hlt => ?_⟩, by simp [ms, gv]; omega⟩
   by_cases hji : j = i
   ·subst hji
    rw [List.getElem?_eq_getElem hil] at hj
    cases hj
    exact hbb rfl
   ·exact hz j y hj (by omega)
 ·simp [hlen, hil]
  refine h true w1 (fun _ => ⟨by omega, fun x hx => ?_⟩) f1
  obtain ⟨j, hj, rfl⟩ := List.getElem_of_mem hx
  exact hz j _ (List.getElem?_eq_getElem hj) (by omega)
end
set_option maxRecDepth 100000
open Go.Eng Go.Proofs.YtfnhoaemapheoaaGreat.Sint
theorem bab (l : iy) (k : Int) (r : Rg) : (nl l k r).length ≤ l.length + 1 := by
 induction l with
 | nil => simp [nl]
 | cons p t ih =>
  obtain ⟨x, y⟩ := p
  rw [nl]
  split
  ·simp; omega
  ·split <;> simp
theorem axi (m : iy) (kg : Bool) (tr : Int) (b : Bal) (v : Int) : (wz m kg tr b v).length ≤ m.length + 1 := by
 unfold wz
 split
 ·exact bab _ _ _
 ·omega
theorem bee (m : iy) (p : Pk) (ls : List Spn) (lm : List Mem) (lu : List Int) : ∀ u ∈ pkC (xd m p ls lm lu), ju u = true := by
 unfold xd ahb
 split <;> exact sp _ _ _ _ _ _
structure Kp (q hb : Nat) (W w : World) (m : iy) (gp B : Int) (n : Nat) (arm : Bool) (R : List Asn) : Prop where
 ok : ∃ (L : Lg) (D : Dk) (s f : Int) (F : Nat), RI s f L F D m ∧ L.gp = gp ∧ f + (gh L.fq).length ≤ B ∧ (arm = false → D.ir = false) ∧ m.length ≤ n ∧ St W w (ko q hb m L false :: gk hb D :: R)
section
variable {w0 w w' : World} {L X R : List Asn} {v v' : Value} {m m' : iy}
theorem awz : ∀ {X : List Asn}, St w0 w (L ++ X) → St w0 w L
 | [], S => by simpa using S
 | a :: X, S => awz (S.perm List.perm_middle).drop
theorem bbm {e : TypeId} (S : St w0 w (uf e 6 xm v m :: R)) : St w0 w (nq v m :: R) := by
 obtain ⟨B, h1, _, g⟩ := S.open
 exact g w [nq v m] (Fr.refl _ _) (Rs.one (B := B) ⟨h1.1.sl tx, h1.2⟩ fun b hb => .inl hb)
theorem bbk (S : St w0 w (nq v m :: R)) (f : Fr (fun _ => False) w w') (hn : avi w w' v m v' m') : ∃ X : List Asn, St w0 w' (R ++ X) ∧ (∀ w2 L, St w0 w2 (L ++ X) → SlO w2 v m ∧ SlO w2 v' m') ∧ (∀ w2 L, St w0 w2 (L ++ X) → St w0 w2 (L ++ [nq v' m'])) ∧ ∀ w2 L, St w0 w2 (L ++ X) → St w0 w2 (L ++ [nq v m]) := by
 rcases hn with ⟨rfl, rfl⟩ | ⟨h1, h2⟩
 ·refine ⟨[nq v' m'], (S.iu f).perm (List.perm_append_comm (l₁ := [_])), fun w2 L S2 => ?_, fun w2 L S2 => S2, fun w2 L S2 => S2⟩
  have := (S2.perm (List.perm_append_comm)).rd
  exact ⟨this, this⟩
 ·have S2 : St w0 w' (nq v' m' :: nq v m :: R) := S.add f (B := fun x => v'.ownBlock = some x) ⟨h1, fun b hb => hb⟩ h2
  refine ⟨[nq v m, nq v' m'], S2.swap.perm (List.perm_append_comm (l₁ := [_, _])), fun w2 L S3 => ?_, fun w2 L S3 => ?_, fun w2 L S3 => ?_⟩
  ·have S4 := S3.perm List.perm_append_comm
   exact ⟨S4.rd, S4.swap.rd⟩
  ·exact (S3.perm List.perm_middle).drop
  ·exact ((S3.perm (List.perm_append_comm (l₂ := [_, _]))).swap.drop).perm (List.perm_append_comm (l₁ := [_]))
theorem asw (S : St w0 w (R ++ [nq v m])) : ∃ X : List Asn, St w0 w (R ++ X) ∧ (∀ w2 L, St w0 w2 (L ++ X) → SlO w2 v m ∧ SlO w2 v m) ∧ ∀ w2 L, St w0 w2 (L ++ X) → St w0 w2 (L ++ [nq v m]) := by
 refine ⟨[nq v m], S, fun w2 L S2 => ?_, fun w2 L S2 => S2⟩
 have := (S2.perm (List.perm_append_comm)).rd
 exact ⟨this, this⟩
end
theorem yp {W w : World} {hb : Nat} {v1 mv v6 : Value} {l : List agm} (hl : tc W 14 yr v1 l) {i : Nat} (hil : i < l.length) {x3 x6 : List Value} {K5 : KL} {K : KV} {a0 : Int} {m m6 mm : iy} {e B : Int} {X : List Asn} {q n : Nat} {dn : Bool} {L : Lg} {D : Dk} (h0 : 64 ≤ a0 ∧ a0 ≤ 1048576)
  (g13 : gv x3 13 = .int .i64 (i : Nat)) (g12 : gv x3 12 = mv) (g10 : gv x3 10 = jd q) (y3 : gv x6 3 = v6) (y4 : gv x6 4 = .int .i64 e)
  (hX1 : ∀ w2 L, St W w2 (L ++ X) → SlO w2 mv m ∧ SlO w2 v6 m6) (hX2 : ∀ w2 L, St W w2 (L ++ X) → St W w2 (L ++ [nq v6 m6])) (hm : m.length ≤ n) (hm6 : m6.length ≤ n) (hn : n ≤ 1000)
  (S : St W w (ko q hb mm L dn :: gk hb D :: X))
  (hs : (e ≠ 10 ∧ dn = false ∧ mm = m6 ∧ ∃ s f G, RI s f L G D m6 ∧ L.gp = a0 ∧ f + (gh L.fq).length ≤ B) ∨ (e = 10 ∧ ∃ s f Q G, Vir s f Q G D False ∧ vr (gh Q) ∧ Cut (gh Q) G m m6 ∧ f + (gh Q).length ≤ B))
  (hK : ∀ x5 w' q' mv' m', gv x5 10 = jd q' → gv x5 12 = mv' → Kp q' hb W w' m' a0 B n true [nq mv' m'] → K5 x5 w') :
  M.i.j6 x6 v1 x3 (.pointer (some ⟨hb, 0, none⟩)) (.int .i64 a0) K5 w K := by
 unfold M.i.j6
 obtain ⟨b, o, hia, hb0, hr0⟩ := ajo hl hil
 have hrd : ∀ {w' : World} {L' : List Asn}, St W w' L' → yr w' b o l[i] := fun S' => amn hb0 hr0 S'.fr
 obtain ⟨k0, _, _, k3⟩ := aao (hrd S)
 have hks := hr0.2.2.2.2.1
 generalize l[i] = op at *
 -- the sm
 have cr : ∀ s f Q G z, Vir s f Q G D z → vr (gh Q) → Cut (gh Q) G m m6 → f + (gh Q).length ≤ B → fk P F.bu [.pointer (some ⟨hb, 0, none⟩), op.kv] w fun _ w => fk P F.bj [.pointer (some ⟨hb, 0, none⟩), .int .i64 a0] w fun t123 w => exT P t123 0 w fun t124 w => exT P t123 1 w fun t125 w =>
   fl (fun K8 => fj P .neq T.ai (.tmp 126) (.const (.int .i64 0)) t125 (.int .i64 0) w fun t127 w =>
    fi (isB t127 false) (fun K' => K' t124 w) w fun t129 w =>
    fi (isB t127 false) (fun K' => fj P .eql T.ao (.tmp 129) (.const (.pointer none)) t129 (.pointer none) w K') w fun t130 w =>
    ge t127 (.bool true) t130 w fun t131 w =>
    fm t131 (K (.bool false) w) (K8 [(gv x3 9)] w)) fun x8 w => M.i.j8 t124 x3 x6 x8 K5 t125 w K := fun s f Q G z hv hr hc hB => by
  refine arl S.swap (kl := op.jj) (fun w' L S' => S'.old hks) fun w1 S1 => ?_
  obtain ⟨v1', v2', v3', v4'⟩ := axb hv op.jj
  refine acl S1 v1' v2' h0 hr hc fun w2 q1 m1 s1 f1 L1 D1 hm1 I1 hmost1 hfl1 harm1 hroom1 _ hlen1 S2 => ?_
  have S3 : St W w2 (ko q1 hb m1 L1 false :: gk hb D1 :: X) := S2.up2.drop
  simp only [jd]
  simp
  unfold M.i.j8
  have hl1 : m1.length ≤ n := by rcases hm1 with h | h <;> rw [h] <;> assumption
  refine aym S3 I1.asc (by omega) fun w4 av S4 => ?_
  obtain ⟨t1, t2⟩ := hX1 w4 [_, _, _] S4
  have done : ∀ w5 x5, Fr (fun _ => False) w4 w5 → gv x5 10 = jd q1 → gv x5 12 = av → K5 x5 w5 := fun w5 x5 f5 d10 d12 => by
   have S5 : St W w5 [uf T.x 6 xm av m1, ko q1 hb m1 L1 false, gk hb D1] := awz (L := [_, _, _]) (S4.iu f5)
   exact hK x5 w5 q1 av m1 d10 d12 ⟨L1, D1, s1, f1, _, I1, hmost1, by omega, (fun h => by cases h), hl1, (bbm S5).dn2⟩
  simp [g12, y3]
  refine afv (S4.row tx) t1 (by omega) fun w5 f5 => ?_
  by_cases hmm : m1 = m
  ·simp [hmm]
   exact done _ _ f5 rfl rfl
  ·have h6 : m1 = m6 := by
    rcases hm1 with h | h
    ·exact absurd h hmm
    ·exact h
   simp [hmm]
   refine afv ((S4.iu f5).row tx) (t2.fr f5 fun _ _ _ h => h) (by omega) fun w6 f6 => ?_
   simp [h6]
   exact done _ _ (f5.trans f6) rfl rfl
 rcases hs with ⟨he, rfl, rfl, s, f, G, I, hmost, hB⟩ | ⟨rfl, s, f, Q, G, hv, hr, hc, hB⟩
 ·by_cases h3 : op.fu = 3
  ·simp [y4, he, g13, hia, k0, h3, k3]
   exact cr s f _ G _ I.th.vir I.ga (fun j hj => .inr (yf I.set hj)) hB
  ·simp [y4, he, g13, hia, k0, h3]
   unfold M.i.j7
   simp [g10, y3]
   refine aym S I.asc (by omega) fun w4 av S4 => ?_
   obtain ⟨t1, t2⟩ := hX1 w4 [_, _, _] S4
   refine afv (S4.row tx) t2 (by omega) fun w5 f5 => ?_
   simp
   have S5 := hX2 w5 [_, _] (S4.iu f5).drop
   exact hK _ w5 q v6 _ rfl rfl ⟨L, D, s, f, G, I, hmost, hB, (fun h => by cases h), hm6, S5⟩
 ·simp [y4, g13, hia, k3]
  exact cr s f Q G _ hv hr hc hB
def PcI (W : World) (l : List agm) (gp : Int) (hb : Nat) : KL := fun x w1 => ∃ (q : Nat) (mv : Value) (m : iy) (i : Nat), gv x 10 = jd q ∧ gv x 12 = mv ∧ gv x 13 = .int .i64 (i : Nat) ∧ i ≤ l.length ∧ Kp q hb W w1 m gp (100 * i) i true (nq mv m :: [])
theorem aih {W : World} {a0 : Int} (h0 : (Lit.int .i64 a0).wf = true) {n1 : Nat} {v1 : Value} (h1 : TV P W n1 T.ag [v1]) {K : KV} (h : ∀ w', Fr (fun _ => False) W w' → K (.bool true) w') : jb P F.ch [.int .i64 a0, v1] W K := by
 obtain ⟨l, hl⟩ := bal h1
 apply M.i.calls
 unfold M.i
 have ex : ∀ {w'}, Fr (fun _ => False) W w' → (fk P F.bn [] w' fun v w => K v w) := fun f => bdt fun w'' f'' => h w'' (f.trans f'')
 have hlen : ∀ w' K, biT P .len #[T.ag] T.b [false] [v1] w' K = K (.int .i64 l.length) w' := fun w' K => hl.ip (by kernel_rfl) [false]
 refine bes hl fun bb w1 hbb f1 => ?_
 cases bb with
 | false =>
  simp
  exact ex f1
 | true =>
 obtain ⟨h60, hlight⟩ := hbb rfl
 by_cases c2 : a0 < 64
 ·simp [c2]
  exact ex f1
 by_cases c3 : 1048576 < a0
 ·simp [c2, c3]
  exact ex f1
 simp [c2, c3]
 unfold M.i.j0
 refine asp ((St.jc W).iu f1) 1048576 (fun h => by omega) fun _ _ w2 hb S2 => ?_
 simp
 refine acl (m1 := []) (m2 := []) S2 (aix 1048576 a0).vir rfl (by omega) (ajw 1048576 a0).ga (ahl (ajw 1048576 a0).set) fun w3 q0 m' s f L D hm I hmost hfl harm hroom hx _ S3 => ?_
 have hm' : m' = [] := by rcases hm with h | h <;> exact h
 subst hm'
 have hp1 : L.fq = [] := hx trivial
 simp only [jd]
 simp
 unfold M.i.j1
 have N1 : St W w3 (ko q0 hb [] L false :: gk hb D :: nq (.slice none 0 0) [] :: []) := St.dn2 (S3.add (a := nq (.slice none 0 0) []) (Fr.refl _ _) (B := fun _ => False) ⟨Sl.nil, fun b hb => by simp [Value.ownBlock] at hb⟩ fun b hb => hb.elim)
 simp only [fo]
 refine ⟨PcI W l a0 hb, fun x _ => l.length - ms x 13, ⟨q0, .slice none 0 0, [], 0, rfl, rfl, rfl, Nat.zero_le _, ⟨L, D, s, f, _, I, hmost, by rw [hp1] at hfl ⊢; simp [gh] at hfl ⊢; omega, fun _ => harm, by simp, N1⟩⟩, ?_⟩
 rintro x3 w5 ⟨q, mv, m, i, g10, g12, g13, hi, ⟨L, D, s, f, F0, I, hmost, hB, _, hml, S5⟩⟩
 unfold M.i.j3
 rw [g13]
 by_cases hil : i < l.length
 case neg =>
  simp [hlen, hil]
  exact ex S5.fr
 have hwi : IntKind.i64.wrap ((i : Int) + 1) = ((i + 1 : Nat) : Int) := by rw [ft (by omega) (by omega)]; rfl
 have up : D.gr = false := I.th.up
 simp [hlen, hil]
 unfold M.i.j4
 rw [g13]
 obtain ⟨b, o, hia, hb0, hr0⟩ := ajo hl hil
 have hrd : ∀ {w' : World} {L' : List Asn}, St W w' L' → yr w' b o l[i] := fun S' => amn hb0 hr0 S'.fr
 obtain ⟨k0, k1, k2, k3⟩ := aao (hrd S5)
 have hlt := hlight _ (List.getElem_mem hil)
 have hP : oz W l[i].p l[i].ls l[i].lm l[i].lu := hr0.2.1.aun hlt
 have hpr := hr0.2.2.1
 have hpl := hr0.2.2.2.1
 have hn := hr0.2.2.2.2.2
 generalize l[i] = op at *
 have next : ∀ x5 w' q' mv' m', gv x5 10 = jd q' → gv x5 12 = mv' → Kp q' hb W w' m' a0 (100 * (i + 1 : Nat)) (i + 1) true [nq mv' m'] → (fun x' w' => PcI W l a0 hb x' w' ∧ l.length - ms x' 13 < l.length - ms x3 13) [gv x5 0, gv x5 1, gv x5 2, gv x5 3, gv x5 4, gv x5 5, gv x5 6, gv x5 7, gv x5 8, gv x5 9, gv x5 10, gv x5 11, gv x5 12, .int .i64 ((i + 1 : Nat) : Int)] w' := fun x5 w' q' mv' m' d10 d12 hk => by
  refine ⟨⟨q', mv', m', i + 1, d10, d12, rfl, by omega, hk⟩, ?_⟩
  have : ms x3 13 = i := by unfold ms; rw [g13]; simp
  rw [this]
  simp [ms, gv]; omega
 have same : ∃ X, St W w5 ([ko q hb m L false, gk hb D] ++ X) ∧ (∀ w2 L, St W w2 (L ++ X) → SlO w2 mv m ∧ SlO w2 mv m) ∧ ∀ w2 L, St W w2 (L ++ X) → St W w2 (L ++ [nq mv m]) := asw S5
 obtain ⟨X, SX, hX1, hX2⟩ := same
 by_cases e0 : op.fu = 0
 ·simp [hia, k0, e0, k2, g10, g12]
  have Sv := S5.up2
  refine auj Sv.rd (bfu Sv) (by omega) (hP.fr S5.fr) hpr hpl fun w6 v6 f6 hn6 => ?_
  simp
  obtain ⟨Y, SY, hY1, hY2, hY3⟩ := bbk Sv f6 hn6
  have S7 := zj SY
  generalize w6.heap.size = tb at *
  generalize w6.alloc _ = w7 at *
  rw [ajv]
  refine ahr S7 rfl (bee _ _ _ _ _) fun w8 S8 => ?_
  obtain ⟨_, _, k2', _⟩ := aao (hrd S8)
  simp [hia, k2']
  have hl6 : (ahm m op.p op.ls op.lm op.lu).length ≤ i + 1 := by
   unfold ahm
   split
   ·have := axi m (decide (op.p.fu = 6)) op.p.tr op.p.b op.p.v; omega
   ·omega
  -- the old table lj
  have old : ∀ e (L1 : Lg) (D1 : Dk) s1 f1 F1 w9 x6, e ≠ 10 → RI s1 f1 L1 F1 D1 m → L1.gp = a0 → f1 + (gh L1.fq).length ≤ 100 * ((i + 1 : Nat) : Int) → St W w9 (ko q hb m L1 false :: gk hb D1 :: gc tb (pkC (xd m op.p op.ls op.lm op.lu)).toArray T.a :: Y) → gv x6 3 = mv → gv x6 4 = .int .i64 e →
    M.i.j6 x6 v1 x3 (.pointer (some ⟨hb, 0, none⟩)) (.int .i64 a0) (fun x5 w => fj P .add T.b (.tmp 51) (.const (.int .i64 1)) (.int .i64 (i : Nat)) (.int .i64 1) w fun t52 w => (fun x' w' => PcI W l a0 hb x' w' ∧ l.length - ms x' 13 < l.length - ms x3 13) [gv x5 0, gv x5 1, gv x5 2, gv x5 3, gv x5 4, gv x5 5, gv x5 6, gv x5 7, gv x5 8, gv x5 9, gv x5 10, gv x5 11, gv x5 12, t52] w) w9 K := fun e L1 D1 s1 f1 F1 w9 x6 he I1 hm1 hB1 S9 y3 y4 => by
   have S10 : St W w9 ([ko q hb m L1 false, gk hb D1] ++ Y) := S9.up2.drop
   obtain ⟨Z, SZ, hZ1, hZ2⟩ := asw (hY3 _ _ S10)
   refine yp (n := i + 1) (B := 100 * (i + 1 : Nat)) hl hil (by omega) g13 g12 g10 y3 y4 hZ1 hZ2 (by omega) (by omega) (by omega) SZ (.inl ⟨he, rfl, rfl, s1, f1, F1, I1, hm1, hB1⟩) fun x5 w' q' mv' m' d10 d12 hk => ?_
   simp [hwi]
   exact next x5 w' q' mv' m' d10 d12 hk
  refine bcl (B := 100 * (i + 1 : Nat)) S8.dn2 hP hpr I (by omega) (by omega) (fun hae w9 S9 => ?_) fun hae w9 e m1 dn L1 D1 hleft S9 => ?_
  ·simp
   exact old 6 L D s f F0 w9 _ (by decide) I hmost (by omega) S9 rfl rfl
  ·have hM : ahm m op.p op.ls op.lm op.lu = wz m (decide (op.p.fu = 6)) op.p.tr op.p.b op.p.v := by unfold ahm; rw [hae]; rfl
   cases hleft with
   | rh F1 _ _ I1 hm1 hB1 ha1 hr1 =>
    simp
    exact old 9 L1 D1 s f F1 w9 _ (by decide) I1 (by omega) hB1 S9 rfl rfl
   | ok F1 _ _ s1 f1 I1 hm1 hB1 ha1 hr1 =>
    simp
    rw [← hM] at I1 S9
    have S10 : St W w9 ([ko q hb _ L1 false, gk hb D1] ++ Y) := S9.up2.drop
    refine yp (n := i + 1) (B := 100 * (i + 1 : Nat)) hl hil (by omega) g13 g12 g10 rfl rfl hY1 hY2 (by omega) hl6 (by omega) S10 (.inl ⟨by decide, rfl, rfl, s1, f1, F1, I1, by omega, hB1⟩) fun x5 w' q' mv' m' d10 d12 hk => ?_
    simp [hwi]
    exact next x5 w' q' mv' m' d10 d12 hk
   | gr F1 _ _ Q ha hd hv hr hc hB1 hro hm1 hB2 =>
    simp
    rw [← hM] at hc
    have S10 : St W w9 ([ko q hb _ L1 true, gk hb D1] ++ Y) := S9.up2.drop
    refine yp (n := i + 1) (B := 100 * (i + 1 : Nat)) hl hil (by omega) g13 g12 g10 rfl rfl hY1 hY2 (by omega) hl6 (by omega) S10 (.inr ⟨rfl, s, f, Q, F1, hv, hr, hc, hB1⟩) fun x5 w' q' mv' m' d10 d12 hk => ?_
    simp [hwi]
    exact next x5 w' q' mv' m' d10 d12 hk
 by_cases e1 : op.fu = 1
 ·simp [hia, k0, e0, e1, g10, g12]
  refine bck (B := 100 * (i + 1 : Nat)) SX I (by omega) (by omega) (by omega) fun w6 e dn L1 D1 hleft _ S6 => ?_
  refine yp (n := i + 1) (B := 100 * (i + 1 : Nat)) hl hil (by omega) g13 g12 g10 rfl rfl hX1 hX2 (by omega) (by omega) (by omega) S6 ?_ fun x5 w' q' mv' m' d10 d12 hk => ?_
  ·cases hleft with
   | ok F1 _ _ s1 f1 I1 hm1 hB1 ha1 hr1 => exact .inl ⟨by decide, rfl, rfl, s1, f1, F1, I1, by omega, hB1⟩
   | rh F1 _ _ I1 hm1 hB1 ha1 hr1 => exact .inl ⟨by decide, rfl, rfl, s, f, F1, I1, by omega, hB1⟩
   | gr F1 _ _ Q ha hd hv hr hc hB1 hro hm1 hB2 => exact .inr ⟨rfl, s, f, Q, F1, hv, hr, hc, hB1⟩
  ·simp [hwi]
   exact next x5 w' q' mv' m' d10 d12 hk
 by_cases e2 : op.fu = 2
 ·simp [hia, k0, e0, e1, e2, k1]
  refine bft SX.swap hn fun w6 S6 => ?_
  have I7 : RI s f L F0 { D with ir := decide (0 ≤ op.n), left := op.n } m := by
   obtain ⟨⟨⟨v1, v2, v3, v4, v5, v6, v7, v8⟩, g2, g3⟩, r1, r2, r3⟩ := I
   exact ⟨⟨⟨v1, v2, v3, v4, v5, v6, v7, v8⟩, g2, g3⟩, r1, r2, r3⟩
  simp [g12]
  refine yp (n := i + 1) (B := 100 * (i + 1 : Nat)) hl hil (by omega) g13 g12 g10 rfl rfl hX1 hX2 (by omega) (by omega) (by omega) S6.swap (.inl ⟨by decide, rfl, rfl, s, f, F0, I7, hmost, by omega⟩) fun x5 w' q' mv' m' d10 d12 hk => ?_
  simp [hwi]
  exact next x5 w' q' mv' m' d10 d12 hk
 simp [hia, k0, e0, e1, e2, g12]
 refine yp (n := i + 1) (B := 100 * (i + 1 : Nat)) hl hil (by omega) g13 g12 g10 rfl rfl hX1 hX2 (by omega) (by omega) (by omega) SX (.inl ⟨by decide, rfl, rfl, s, f, F0, I, hmost, by omega⟩) fun x5 w' q' mv' m' d10 d12 hk => ?_
 simp [hwi]
 exact next x5 w' q' mv' m' d10 d12 hk
end Go.Proofs.YtfnhoaemapheoaaGreat
