/-
  A store: the chapter's example. No condition.
-/
import Derived.Test.YtfnhoaemapheoaaGreatZSs0
import Derived.Test.YtfnhoaemapheoaaGreatZRef3
set_option maxRecDepth 100000
namespace Go.Proofs.YtfnhoaemapheoaaGreat
open Go.Eng Go.Proofs.YtfnhoaemapheoaaGreat.Sint
def spA : Spn := ⟨5, 2, 0, 0, 0, ⟨#[97]⟩, ⟨#[98]⟩, false⟩
def spC : Spn := ⟨5, 1, 0, 0, 0, ⟨#[97]⟩, ⟨#[99]⟩, false⟩
theorem nmA : ou ⟨#[97]⟩ = 0 := by decide +kernel
theorem nmB : ou ⟨#[98]⟩ = 0 := by decide +kernel
theorem nmC : ou ⟨#[99]⟩ = 0 := by decide +kernel
theorem bkd : ku spA = 0 := by
 unfold ku spA
 simp only [nmA, nmB]
 decide
theorem bkl : ku spC = 0 := by
 unfold ku spC
 simp only [nmA, nmC]
 decide
def pkX (v : Value) : Pk := ⟨9, 5, ⟨1, 0⟩, ic, 0, false, v, ia, ia⟩
theorem blc (v : Value) : wrE (pkX v) [spA, spC] [] [] = true := by
 have h1 : qk 5 [spA, spC] = true := by
  have a := zp (tr := 5) (met := []) (s := spA) (r := [spC]) bkd rfl (by simp)
  have b := zp (tr := 5) (met := [] ++ [spA.id]) (s := spC) (r := []) bkl rfl (by simp [spA, spC])
  unfold qk
  rw [a, b]
  simp [rn]
 unfold wrE rl acr px lr
 simp [pkX, kr, oc, og, om, lc, ia, h1, atm]
theorem biu (v : Value) : xn (pkX v) := by
 have u : ∀ x : Int, 0 ≤ x → x < 10 → sy x := fun x h1 h2 => ⟨h1, by omega⟩
 exact ⟨u 5 (by decide) (by decide), ⟨u 1 (by decide) (by decide), u 0 (by decide) (by decide)⟩, ⟨u 0 (by decide) (by decide), u 0 (by decide) (by decide)⟩⟩
theorem bln : ∀ s ∈ [spA, spC], vk s := fun s hs => by
 have u : ∀ x : Int, 0 ≤ x → x < 10 → sy x := fun x h1 h2 => ⟨h1, by omega⟩
 rcases List.mem_cons.1 hs with rfl | hs
 ·exact ⟨u _ (by decide) (by decide), u _ (by decide) (by decide), u _ (by decide) (by decide), u _ (by decide) (by decide), u _ (by decide) (by decide)⟩
 ·rw [List.mem_singleton.1 hs]
  exact ⟨u _ (by decide) (by decide), u _ (by decide) (by decide), u _ (by decide) (by decide), u _ (by decide) (by decide), u _ (by decide) (by decide)⟩
theorem blf : mi [spA, spC] = [1, 2] := by
 have e : mi [spA, spC] = Suint64.oy [2, 1] := rfl
 rw [e, Suint64.yk (List.Perm.swap 1 2 [])]
 exact List.mergeSort_of_pairwise (by simp)
theorem bbi {l : List Spn} (h1 : nw l) (h2 : l.Perm [spA, spC]) : l = [spC, spA] := by
 refine (ann (h2.trans (List.Perm.swap _ _ _)) h1 ?_ ?_)
 ·simp [leS, spA, spC]
 ·intro x hx y hy he
  have hx' := h2.mem_iff.1 hx
  have hy' := h2.mem_iff.1 hy
  simp only [List.mem_cons, List.not_mem_nil, or_false] at hx' hy'
  rcases hx' with rfl | rfl <;> rcases hy' with rfl | rfl
  ·rfl
  ·simp [spA, spC] at he
  ·simp [spA, spC] at he
  ·rfl
theorem bhc {w : World} {K : KV} (h : ∀ w', Fr (fun _ => False) w w' → K (.bool true) w') : gb P F.bt [] w K := by
 rw [M.bm.fcall]
 apply M.bm.calls
 unfold M.bm
 refine avl (St.jh w) 10000 (fun h => by omega) fun _ _ w1 hb S1 => ?_
 simp
 refine afl (X := []) S1 (ash 10000 256).vir rfl (by omega) (by simp [jf]) (fun m hm => by simp at hm) fun w2 q j s f L D _ I hmost hfl _ harm hroom hused _ hx S2 => ?_
 rw [List.take_nil] at I S2
 have hp0 : L.gk = [] := hx trivial
 simp only [jv]
 simp
 unfold M.bm.j0
 simp
 have S3 : St w (w2.alloc (.cells #[.int .u64 5, .int .u64 2, .int .u64 0, .int .u64 0, .int .u64 0, .string ⟨#[97]⟩, .string ⟨#[98]⟩, .bool false, .int .u64 5, .int .u64 1, .int .u64 0, .int .u64 0, .int .u64 0, .string ⟨#[97]⟩, .string ⟨#[99]⟩, .bool false] T.e)) (kg (.slice (some ⟨w2.heap.size, 0, none⟩) 2 2) [spA, spC] :: _) := St.uy (l := [spA, spC]) S2 lk rfl (by simp [maxLen])
 generalize w2.heap.size = rb at *
 generalize w2.alloc _ = w3 at *
 have ep : Value.agg #[.int .i64 9, .int .u64 5, .int .u64 1, .int .u64 0, .int .u64 0, .int .u64 0, .int .i64 0, .bool false, .slice (some ⟨rb, 0, none⟩) 2 2, .slice none 0 0, .slice none 0 0] = pkA (pkX (.slice (some ⟨rb, 0, none⟩) 2 2)) := rfl
 rw [ep]
 have hrng := biu (.slice (some ⟨rb, 0, none⟩) 2 2)
 have hu : D.ij = 0 := akj I.aaq hp0
 have hf0 : f = 0 := (I.aaq.vir.nil hp0).2
 have S4 : St w w3 (rp q hb (jt []) L false :: ig hb D :: kg (.slice (some ⟨rb, 0, none⟩) 2 2) [spA, spC] :: []) := St.dn2 S3
 have hfr : ko (jt []) [spA, spC] = [spA, spC] := rfl
 refine abf S4 (fun w' R' S' => ⟨(S'.perm List.perm_middle).row lk, Sl.nil, Sl.nil, by simp, by simp, by simp⟩) hrng bln I (by rw [hf0]; simp) (blc _) (by rw [hp0]; simp) harm (by rw [hu, hroom]; simp) fun w5 v' v3 L2 D2 I2 hm2 ha2 hr2 hu2 hp2 S5 => ?_
 rw [hfr, blf] at S5
 rw [hfr] at I2
 have hms : qu [] (pkX (.slice (some ⟨rb, 0, none⟩) 2 2)).b [spA, spC] = [(⟨1, 0⟩, [spA, spC])] := rfl
 rw [hms] at I2 S5
 simp
 have S6 := zv S5
 generalize w5.heap.size = tb at *
 generalize w5.alloc _ = w6 at *
 have one6 := ye (tr := (pkX (.slice (some ⟨rb, 0, none⟩) 2 2)).tr) (S5.rd : SlU w5 v' [1, 2])
 rw [aah]
 refine acj (q := oe (pkX (.slice (some ⟨rb, 0, none⟩) 2 2)).tr v') S6 rfl one6 fun w7 S7 => ?_
 refine bea (kl := []) (S7.up4) (fun _ _ _ => Sl.nil) fun w8 S8 => ?_
 obtain ⟨c1, c2, c3, c4⟩ := bkr I2.aaq.vir []
 refine afl (X := [(⟨1, 0⟩, [spA, spC])]) S8 c1 c2 (by omega) I2.ii I2.ok fun w9 q2 j s3 f3 L3 D3 hj I3 _ _ _ _ _ _ _ _ S9 => ?_
 have hjt : [((⟨1, 0⟩ : Bal), [spA, spC])].take j = [(⟨1, 0⟩, [spA, spC])] := List.take_of_length_le (by
  rw [List.length_take] at hj
  simp at hj ⊢
  omega)
 rw [hjt] at I3 S9
 have hes : jt [((⟨1, 0⟩ : Bal), [spA, spC])] = [(⟨1, 0⟩, spA), (⟨1, 0⟩, spC)] := rfl
 rw [hes] at S9
 have hsp : mo [((⟨1, 0⟩ : Bal), spA), (⟨1, 0⟩, spC)] 5 = [spA, spC] := rfl
 have hun : vp [((⟨1, 0⟩ : Bal), spA), (⟨1, 0⟩, spC)] := by rw [← hes]; exact afo _
 -- [sto, disk, tb, rd ids, rd fresh, sto old, row]
 obtain ⟨_, _, _, _, _, _, _, _, k10, _⟩ := jb S9.up2
 have li : ∀ w' K, biT P .len #[T.k] T.b [false] [v'] w' K = K (.int .i64 2) w' := fun w' K => (S9.up3.rd : SlU w9 v' [1, 2]).im (by kernel_rfl) [false]
 have lf : ∀ w' K, biT P .len #[T.c] T.b [false] [v3] w' K = K (.int .i64 2) w' := fun w' K => (S9.up4.rd : SlS w9 v3 [spA, spC]).im (by kernel_rfl) [false]
 obtain ⟨b1, o1, cap1, hv1, _, _, hc1⟩ := (S9.up3.rd : SlU w9 v' [1, 2]).at (i := 0) (by simp)
 have d1 : gi w9 b1 o1 = some (.int .u64 1) := by simpa using hc1 0 _ rfl
 have ia1 : ∀ w' K, iaT P T.k v' (.int .i64 0) w' K = K (.pointer (some ⟨b1, o1, none⟩)) w' := fun w' K => by
  rw [hv1, aet (by simp) (by omega) (by simp)]; simp
 simp [k10, li, lf, ia1, d1, oe, jv]
 refine zz S9 hun (by simp) 5 fun w10 v4 l4 g1 g2 S10 => ?_
 rw [hsp] at g2
 have hl4 := bbi g1 g2
 subst hl4
 have l4' : ∀ w' K, biT P .len #[T.c] T.b [false] [v4] w' K = K (.int .i64 2) w' := fun w' K => (S10.rd : SlS w10 v4 [spC, spA]).im (by kernel_rfl) [false]
 simp [l4']
 refine zz S10.swap hun (by simp) 5 fun w11 v5 l5 g3 g4 S11 => ?_
 rw [hsp] at g4
 have hl5 := bbi g3 g4
 subst hl5
 obtain ⟨b2, o2, cap2, hv2, _, _, hc2⟩ := (S11.rd : SlS w11 v5 [spC, spA]).at (i := 0) (by simp)
 have d2 : gi w11 b2 (o2 + 1) = some (.int .u64 1) := by simpa [spC] using hc2 1 _ rfl
 have ia2 : ∀ w' K, iaT P T.c v5 (.int .i64 0) w' K = K (.pointer (some ⟨b2, o2, none⟩)) w' := fun w' K => by
  rw [hv2, aet (by simp) (by omega) (by simp)]; simp
 simp [ia2, d2]
 exact h w11 S11.fr
set_option maxRecDepth 100000
section
variable {w0 w : World} {R : List Asn} {hb : Nat} {D : Dk} {p : Pk} {ls : List Spn} {lm : List Mem} {lu : List Int}
theorem afj (hp : pw w p ls lm lu) (hr : xn p) (hls : LsR ls lm lu) {K : KV} (h : ∀ w', Fr (fun _ => False) w w' → K (.bool (wrE p ls lm lu)) w') : gb P F.cj [pkA p] w K := by
 rw [M.cq.fcall]
 apply M.cq.calls
 unfold M.cq
 refine St.sx (St.jh w) fun pb w1 S1 => ?_
 have S1' : St w w1 (gp pb (pkC p).toArray T.a :: []) := S1
 obtain ⟨c0, _⟩ := jb S1'
 have pl := fun K => qc S1' K
 unfold wrE at h
 by_cases hk : p.gr = 9
 ·simp [c0, hk, pl]
  refine aoa (hp.fr S1'.fr) hr (fun m hm => (hls.m m hm).1) (fun m hm => (hls.u m hm).1) fun w2 f2 => ?_
  have S2 := S1'.jg f2
  have := h w2 S2.fr
  unfold aaj
  cases he : rl p ls lm lu with
  | true => rw [he] at this; simp [hk] at this; simp; exact this
  | false => rw [he] at this; simp [hk] at this; simp; exact this
 ·have := h w1 S1'.fr
  simp [hk] at this
  simp [c0, hk]
  exact this
end
set_option maxRecDepth 100000
open Go.Eng Go.Proofs.YtfnhoaemapheoaaGreat.Sint
theorem bhl (rx ry : Operand) (x y : Spn) (w : World) (K : KV) : ga P .eql T.e rx ry (jx x) (jx y) w K = K (.bool (ub x y)) w := by
 have hm : P.eqGuardType P.depth T.e = false := by kernel_rfl
 have hg := run_eqGuard_agg (P := P) w .eql T.e rx ry #[.int .u64 x.il, .int .u64 x.id, .int .u64 x.ph, .int .u64 x.jh, .int .u64 x.len, .string x.jn, .string x.name, .bool x.tc] #[.int .u64 y.il, .int .u64 y.id, .int .u64 y.ph, .int .u64 y.jh, .int .u64 y.len, .string y.jn, .string y.name, .bool y.tc] hm
 have he := ajs x y w
 unfold ga je
 unfold jx at he ⊢
 rw [Sem.run_bind, hg]
 simp only [Result.andThen]
 rw [run_eql_struct, he]
 rfl
def TwI (w0 : World) (n : Nat) (X : List Asn) : KL := fun v w1 => ∃ (u0 u1 u2 : Value) (x : Nat), v = [u0, u1, u2, .int .i64 (x : Nat)] ∧ x ≤ n ∧ St w0 w1 X
def TyI (w0 : World) (l2 : List Spn) (y : Spn) (X : List Asn) : KL := fun v w1 => ∃ (b : Bool) (j : Nat), v = [.bool b, .int .i64 (j : Nat)] ∧ j ≤ l2.length ∧ (∀ i (h : i < l2.length), i < j → l2[i] = y → b = true) ∧ St w0 w1 X
section
variable {w0 w : World} {R : List Asn} {v1 v2 : Value} {l1 l2 : List Spn}
theorem ayj (S : St w0 w R) (h1 : ∀ w' L, St w0 w' (L ++ R) → SlS w' v1 l1) (h2 : ∀ w' L, St w0 w' (L ++ R) → SlS w' v2 l2) (hn1 : l1.length ≤ 100000) (hn2 : l2.length ≤ 100000) (hin : ∀ x ∈ l1, x ∈ l2) {u0 u1 u2 : Value} {K3 : KL} {K : KV} (h : ∀ w' x3, St w0 w' R → K3 x3 w') :
  ir [u0, u1, u2, .int .i64 0] w fun K4 x4 w => M.c.j4 v1 x4 K3 v2 K4 w K := by
 have len1 : ∀ w' K, biT P .len #[T.c] T.b [false] [v1] w' K = K (.int .i64 l1.length) w' := fun w' K => (h1 w [] S).im (by kernel_rfl) [false]
 have len2 : ∀ w' K, biT P .len #[T.c] T.b [false] [v2] w' K = K (.int .i64 l2.length) w' := fun w' K => (h2 w [] S).im (by kernel_rfl) [false]
 refine ⟨TwI w0 l1.length R, fun v _ => l1.length - ms v 3, ⟨_, _, _, 0, rfl, Nat.zero_le _, S⟩, ?_⟩
 rintro v w1 ⟨u0, u1, u2, x, rfl, hx, S1⟩
 have q3 : gv [u0, u1, u2, Value.int .i64 (x : Nat)] 3 = .int .i64 (x : Nat) := rfl
 have q2 : gv [u0, u1, u2, Value.int .i64 (x : Nat)] 2 = u2 := rfl
 unfold M.c.j4
 simp only [gg, len1, q3, km]
 by_cases hxl : x < l1.length
 ·have hxl' : (x : Int) < (l1.length : Int) := by omega
  have hwx : IntKind.i64.wrap ((x : Int) + 1) = ((x + 1 : Nat) : Int) := by rw [gm (by omega) (by omega)]; rfl
  simp only [hxl', decide_true, Eng.cond_true]
  unfold M.c.j5
  simp only [gg]
  refine ⟨TyI w0 l2 l1[x] R, fun v _ => l2.length - ms v 1, ⟨false, 0, rfl, Nat.zero_le _, fun i _ h => by omega, S1⟩, ?_⟩
  rintro v w2 ⟨b, j, rfl, hj, hb, S2⟩
  have g1 : gv [Value.bool b, .int .i64 (j : Nat)] 1 = .int .i64 (j : Nat) := rfl
  have g0 : gv [Value.bool b, .int .i64 (j : Nat)] 0 = .bool b := rfl
  unfold M.c.j8
  simp only [gg, len2, g1, km]
  by_cases hjl : j < l2.length
  ·have hjl' : (j : Int) < (l2.length : Int) := by omega
   have hwj : IntKind.i64.wrap ((j : Int) + 1) = ((j + 1 : Nat) : Int) := by rw [gm (by omega) (by omega)]; rfl
   simp only [hjl', decide_true, Eng.cond_true]
   unfold M.c.j9
   have S3 := S2.jg ((Fr.refl _ w2).dr 1)
   obtain ⟨b1, o1, c1, hv1, _, _, k1⟩ := (h1 _ [] S3).at hxl
   obtain ⟨b2, o2, c2, hv2, _, _, k2⟩ := (h2 _ [] S3).at hjl
   have i1 : ∀ w' K, iaT P T.c v1 (.int .i64 (x : Nat)) w' K = K (.pointer (some ⟨b1, o1 + x * 8, none⟩)) w' := fun w' K => by rw [hv1]; simp [hxl]
   have i2 : ∀ w' K, iaT P T.c v2 (.int .i64 (j : Nat)) w' K = K (.pointer (some ⟨b2, o2 + j * 8, none⟩)) w' := fun w' K => by rw [hv2]; simp [hjl]
   have d1 : ∀ K, ldN P 8 b1 (o1 + x * 8) (Eng.dr w2 1) K = K (jx l1[x]) (Eng.dr w2 1) := fun K => rh (gy l1[x]) 8 rfl k1 K
   have d2 : ∀ K, ldN P 8 b2 (o2 + j * 8) (Eng.dr w2 1) K = K (jx l2[j]) (Eng.dr w2 1) := fun K => rh (gy l2[j]) 8 rfl k2 K
   have next : ∀ b' : Bool, (b = true → b' = true) → (l2[j] = l1[x] → b' = true) → TyI w0 l2 l1[x] R [.bool b', .int .i64 ((j + 1 : Nat) : Int)] (Eng.dr w2 1) ∧ l2.length - ms [.bool b', .int .i64 ((j + 1 : Nat) : Int)] 1 < l2.length - ms [.bool b, .int .i64 (j : Nat)] 1 := fun b' hb1 hb2 => by
    refine ⟨⟨b', j + 1, rfl, by omega, fun i hi hij he => ?_, S3⟩, by simp [ms, gv]; omega⟩
    by_cases hie : i = j
    ·subst hie; exact hb2 he
    ·exact hb1 (hb i hi (by omega) he)
   cases b with
   | true =>
    simp [q3]
    rw [hwj]
    exact next true (fun h => h) fun _ => rfl
   | false =>
    simp [q3, i1, i2, d1, d2, bhl]
    rw [hwj]
    exact next _ (fun h => by cases h) fun he => by rw [he]; exact aeb _
  ·have hje : j = l2.length := by omega
   have hjl' : ¬ (j : Int) < (l2.length : Int) := by omega
   have hbt : b = true := by
    obtain ⟨i, hi, he⟩ := List.mem_iff_getElem.1 (hin l1[x] (List.getElem_mem hxl))
    exact hb i hi (by omega) he
   subst hbt
   simp only [hjl', decide_false, Eng.cond_false]
   simp [q2, q3]
   rw [hwx]
   exact ⟨⟨_, _, _, x + 1, rfl, by omega, S2⟩, by simp [ms, gv]; omega⟩
 ·have hxl' : ¬ (x : Int) < (l1.length : Int) := by omega
  simp only [hxl', decide_false, Eng.cond_false]
  exact h w1 _ S1
end
set_option maxRecDepth 100000
open Go.Eng Go.Proofs.YtfnhoaemapheoaaGreat.Sint
theorem awz {es : List EnS} {l : List Spn} (h : ∀ x ∈ l, wq es x = true) : ko es l = [] := List.filter_eq_nil_iff.2 fun x hx => by simp [h x hx]
theorem bkm {es : List EnS} {b : Bal} {x : Spn} (h : (b, x) ∈ es) : wq es x = true := by
 unfold wq
 rw [List.any_eq_true]
 exact ⟨_, h, by simp⟩
theorem bhw (b : Bal) (l : List Spn) {t : Int} (h : ∀ x ∈ l, x.il = t) : mo (l.map fun x => (b, x)) t = l := by
 unfold mo
 rw [List.filter_eq_self.2 fun e he => by
  obtain ⟨x, hx, rfl⟩ := List.mem_map.1 he
  simp [isE, h x hx]]
 rw [List.map_map]
 exact List.map_id' l
theorem bhg (es es' : List EnS) (t : Int) : mo (es ++ es') t = mo es t ++ mo es' t := by unfold mo; rw [List.filter_append, List.map_append]
theorem ayb (b : Bal) (l : List Spn) {t : Int} (h : ∀ x ∈ l, x.il ≠ t) : mo (l.map fun x => (b, x)) t = [] := by
 unfold mo
 rw [List.filter_eq_nil_iff.2 fun e he => by
  obtain ⟨x, hx, rfl⟩ := List.mem_map.1 he
  simp [isE, h x hx]]
 rfl
theorem bbl (tr : Int) (v v' : Value) (l : List Int) : px (oe tr v) (oe tr v') [] [] [] [] l l = true := by simp [px, qw, oe, lc]
theorem alv {W : World} {n0 : Nat} {c0 : Array Value} (h0 : TV P W n0 T.a c0.toList) {n1 : Nat} {c1 : Array Value} (h1 : TV P W n1 T.a c1.toList) {K : KV}
  (h : ∀ w', Fr (fun _ => False) W w' → K (.bool true) w') : jr P F.dd [.agg c0, .agg c1] W K := by
 obtain ⟨p, ls, lm, lu, ep, hp0, hpr, hpl⟩ := bab h0
 obtain ⟨q, ms, mm, mu, eq', hq0, hqr, hql⟩ := bab h1
 rw [ep, eq']
 apply M.c.calls
 unfold M.c
 refine St.sx (St.jh W) fun pb w1 S1 => ?_
 refine St.sx S1 fun qb w2 S2 => ?_
 have S2' : St W w2 (gp qb (pkC q).toArray T.a :: gp pb (pkC p).toArray T.a :: []) := S2
 have pl := fun K => qc S2'.swap K
 simp [pl]
 have ex : ∀ {w'}, Fr (fun _ => False) W w' → (gb P F.bt [] w' fun v w => K v w) := fun f => bhc fun w'' f'' => h w'' (f.trans f'')
 refine ano (hp0.fr S2'.fr) fun b1 w3 hb1 f3 => ?_
 have S3 := S2'.jg f3
 cases b1 with
 | false =>
  simp
  exact ex S3.fr
 | true =>
 have ql := fun K => qc S3 K
 simp [ql]
 refine ano (hq0.fr S3.fr) fun b2 w4 hb2 f4 => ?_
 have S4 := S3.jg f4
 cases b2 with
 | false =>
  simp
  exact ex S4.fr
 | true =>
 have hP : pw W p ls lm lu := hp0.aoo (hb1 rfl)
 have hQ : pw W q ms mm mu := hq0.aoo (hb2 rfl)
 have pl4 := fun K => qc S4.swap K
 simp [pl4]
 refine afj (hP.fr S4.fr) hpr hpl fun w5 f5 => ?_
 have S5 := S4.jg f5
 cases hw : wrE p ls lm lu with
 | false =>
  simp
  exact ex S5.fr
 | true =>
 have ql5 := fun K => qc S5 K
 simp [ql5]
 refine afj (hQ.fr S5.fr) hqr hql fun w6 f6 => ?_
 have S6 := S5.jg f6
 cases hv : wrE q ms mm mu with
 | false =>
  simp
  exact ex S6.fr
 | true =>
 obtain ⟨_, Wp⟩ := ahy hw
 obtain ⟨_, Wq⟩ := ahy hv
 simp
 unfold M.c.j0
 refine avl S6 1048576 (fun h => by omega) fun _ _ w7 hb S7 => ?_
 simp
 refine afl (X := []) S7 (ash 1048576 1000).vir rfl (by omega) (by simp [jf]) (fun m hm => by simp at hm) fun w9 st j s f L D _ I hmost hfl _ harm hroom hused _ hx S9 => ?_
 rw [List.take_nil] at I S9
 have hq1 : L.gk = [] := hx trivial
 have hu : D.ij = 0 := akj I.aaq hq1
 have hf0 : f = 0 := (I.aaq.vir.nil hq1).2
 simp only [jv]
 simp
 unfold M.c.j1
 have pl9 := fun K => qc S9.up3 K
 simp [pl9]
 have hfr : ko (jt []) ls = ls := List.filter_eq_self.2 fun x _ => rfl
 refine abf S9 (fun w' R' S' => hP.fr S'.fr) hpr hpl.s I (by rw [hf0]; simp) hw (by rw [hq1]; simp) harm (by rw [hu, hroom]; simp) fun w10 v1 n1 L1 D1 I1 hm1 ha1 hr1 hu1 hp1 T1 => ?_
 rw [hfr] at I1 T1
 have em1 : qu [] p.b ls = [(p.b, ls)] := by unfold qu; rw [if_neg Wp.ne]; rfl
 rw [em1] at I1 T1
 have ee1 : jt [(p.b, ls)] = ls.map fun x => (p.b, x) := by
  show ls.foldl (ll p.b) [] = _
  rw [aez p.b Wp.ids fun x _ => rfl]
  rfl
 have hun1 : vp (jt [(p.b, ls)]) := afo _
 have hsp1 : mo (jt [(p.b, ls)]) p.tr = ls := by rw [ee1]; exact bhw p.b ls fun x hx => (Wp.ok x hx).2
 have hel1 : (jt [(p.b, ls)]).length ≤ 16 := by rw [ee1, List.length_map]; exact Wp.len
 simp
 have T2 := zv T1
 generalize w10.heap.size = t1 at *
 generalize w10.alloc _ = w11 at *
 rw [aah]
 refine acj (q := oe p.tr v1) T2 rfl (ye (T2.swap.rd : SlU w11 v1 (mi ls))) fun w12 T3 => ?_
 -- [t1, ids1, n1, sto, disk, qb, pb]
 have hpb3 := (jb (up6 T3)).2.1
 simp [hpb3]
 have T3s : St W w12 (rp st hb (jt [(p.b, ls)]) L1 false :: gp t1 (pkC (oe p.tr v1)).toArray T.a :: rdA 1 mw v1 (mi ls) :: rdA 8 gy n1 ls :: ig hb D1 :: gp qb (pkC q).toArray T.a :: gp pb (pkC p).toArray T.a :: []) := T3.up3
 refine zz T3s hun1 (by omega) p.tr fun w13 wv was g1 g2 T4 => ?_
 rw [hsp1] at g2
 have hwl := g2.length_eq
 -- [was, sto, t1, ids1, n1, disk, qb, pb]
 have pl13 := fun K => qc (up7 T4) K
 simp [pl13]
 have T4s : St W w13 (rp st hb (jt [(p.b, ls)]) L1 false :: ig hb D1 :: rdA 8 gy wv was :: gp t1 (pkC (oe p.tr v1)).toArray T.a :: rdA 1 mw v1 (mi ls) :: rdA 8 gy n1 ls :: gp qb (pkC q).toArray T.a :: gp pb (pkC p).toArray T.a :: []) := (up5 T4).up2
 have hfr2 : ko (jt [(p.b, ls)]) ls = [] := awz fun x hx => by
  rw [ee1]
  exact bkm (List.mem_map.2 ⟨x, hx, rfl⟩)
 refine abf T4s (fun w' R' S' => hP.fr S'.fr) hpr hpl.s I1 (by rw [hf0]; simp) hw (by rw [hq1] at hp1; simp at hp1; omega) ha1 (by rw [hr1, hroom]; simp; omega) fun w14 v2 n2 L2 D2 I2 hm2 ha2 hr2 hu2 hp2 T5 => ?_
 rw [hfr2] at I2 T5
 have em2 : qu [(p.b, ls)] p.b [] = [(p.b, ls)] := rfl
 rw [em2] at I2 T5
 simp
 have T6 := zv T5
 generalize w14.heap.size = t2 at *
 generalize w14.alloc _ = w15 at *
 rw [aah]
 refine acj (q := oe p.tr v2) T6 rfl (ye (T6.swap.rd : SlU w15 v2 (mi ls))) fun w16 T7 => ?_
 -- [t2, ids2, n2, sto, disk, was, t1, ids1, n1, qb, pb]
 have r1 := fun K => qc T7 K
 have r2 := fun K => qc (up6 T7) K
 simp [r1, r2]
 have s1 : SlU w16 v1 (mi ls) := (up7 T7).rd
 have s2 : SlU w16 v2 (mi ls) := T7.swap.rd
 have hil : (mi ls).length ≤ 16 := by
  have e1 : (mi ls).length = (ls.map Spn.id).length := (Suint64.nn (ls.map Spn.id)).length_eq
  rw [List.length_map] at e1
  have := Wp.len
  omega
 refine ams ⟨Sl.nil, Sl.nil, s1, by simp, by simp, by omega⟩ ⟨Sl.nil, Sl.nil, s2, by simp, by simp, by omega⟩ fun w17 f17 => ?_
 rw [bbl]
 have T8 := T7.jg f17
 have lf1 : ∀ w' K, biT P .len #[T.c] T.b [false] [n1] w' K = K (.int .i64 ls.length) w' := fun w' K => ((up8 T8).rd : SlS w17 n1 ls).im (by kernel_rfl) [false]
 have lf2 : ∀ w' K, biT P .len #[T.c] T.b [false] [n2] w' K = K (.int .i64 0) w' := fun w' K => (T8.up2.rd : SlS w17 n2 []).im (by kernel_rfl) [false]
 have lfp : ∀ w' K, biT P .len #[T.c] T.b [false] [p.sv] w' K = K (.int .i64 ls.length) w' := fun w' K => (hP.s.fr T8.fr fun _ _ _ h => h : SlS w17 p.sv ls).im (by kernel_rfl) [false]
 have T8p : St W w17 (gp pb (pkC p).toArray T.a :: gp t2 (pkC (oe p.tr v2)).toArray T.a :: rdA 1 mw v2 (mi ls) :: rdA 8 gy n2 [] :: rp st hb (jt [(p.b, ls)]) L2 false :: ig hb D2 :: rdA 8 gy wv was :: gp t1 (pkC (oe p.tr v1)).toArray T.a :: rdA 1 mw v1 (mi ls) :: rdA 8 gy n1 ls :: gp qb (pkC q).toArray T.a :: []) := T8.perm (List.perm_middle (l₁ := [_, _, _, _, _, _, _, _, _, _]))
 obtain ⟨_, k1, _, _, _, _, k8, _⟩ := jb T8p
 simp [lf1, lf2, lfp, k1, k8]
 refine zz T8p.up4 hun1 (by omega) p.tr fun w18 wv2 was2 g3 g4 T9 => ?_
 rw [hsp1] at g4
 have hweq : was2 = was := ann (g4.trans g2.symm) g3 g1 fun x hx y hy he => bfz hun1 p.tr x (by rw [hsp1]; exact g4.mem_iff.1 hx) y (by rw [hsp1]; exact g4.mem_iff.1 hy) he
 subst hweq
 -- [was2, sto, pb, t2, ids2, n2, disk, was, t1, ids1, n1, qb]
 have sw2 : SlS w18 wv2 was2 := T9.rd
 have sw1 : SlS w18 wv was2 := (up7 T9).rd
 rw [M.z.fcall]
 refine bdf sw2 sw1 (by have := Wp.len; omega) ⟨rfl, fun j _ _ => aeb _⟩ fun w19 f19 => ?_
 have T10 := T9.jg f19
 simp
 unfold M.c.j2
 have T10q : St W w19 (gp qb (pkC q).toArray T.a :: rdA 8 gy wv2 was2 :: rp st hb (jt [(p.b, ls)]) L2 false :: gp pb (pkC p).toArray T.a :: gp t2 (pkC (oe p.tr v2)).toArray T.a :: rdA 1 mw v2 (mi ls) :: rdA 8 gy n2 [] :: ig hb D2 :: rdA 8 gy wv was2 :: gp t1 (pkC (oe p.tr v1)).toArray T.a :: rdA 1 mw v1 (mi ls) :: rdA 8 gy n1 ls :: []) := T10.perm (List.perm_middle (l₁ := [_, _, _, _, _, _, _, _, _, _, _]))
 have ql19 := fun K => qc T10q K
 simp [ql19]
 have T11 : St W w19 (rp st hb (jt [(p.b, ls)]) L2 false :: ig hb D2 :: gp qb (pkC q).toArray T.a :: rdA 8 gy wv2 was2 :: gp pb (pkC p).toArray T.a :: gp t2 (pkC (oe p.tr v2)).toArray T.a :: rdA 1 mw v2 (mi ls) :: rdA 8 gy n2 [] :: rdA 8 gy wv was2 :: gp t1 (pkC (oe p.tr v1)).toArray T.a :: rdA 1 mw v1 (mi ls) :: rdA 8 gy n1 ls :: []) := (up7 T10q).up3
 refine abf T11 (fun w' R' S' => hQ.fr S'.fr) hqr hql.s I2 (by rw [hf0]; simp) hv (by rw [hq1] at hp1; simp at hp1; omega) ha2 (by rw [hr2, hr1, hroom]; simp; omega) fun w20 v3 n3 L3 D3 I3 hm3 ha3 hr3 hu3 hp3 T12 => ?_
 generalize hF : ko (jt [(p.b, ls)]) ms = F2 at *
 have hmf : ∀ x ∈ F2, x.il = q.tr := fun x hx => by
  rw [← hF] at hx
  exact (Wq.ok x (List.mem_filter.1 hx).1).2
 have hFl : F2.length ≤ 16 := by
  rw [← hF]
  exact Nat.le_trans (List.length_filter_le _ _) Wq.len
 have ee3 : jt (qu [(p.b, ls)] q.b F2) = jt [(p.b, ls)] ++ F2.map fun x => (q.b, x) := by
  rw [amw, ← hF]
  exact ati Wq
 have hun3 : vp (jt (qu [(p.b, ls)] q.b F2)) := afo _
 have hsp3 : mo (jt (qu [(p.b, ls)] q.b F2)) p.tr = ls ++ mo (F2.map fun x => (q.b, x)) p.tr := by rw [ee3, bhg, hsp1]
 have hel3 : (jt (qu [(p.b, ls)] q.b F2)).length ≤ 32 := by rw [ee3, List.length_append, List.length_map]; omega
 simp
 have T13 := zv T12
 generalize w20.heap.size = t3 at *
 generalize w20.alloc _ = w21 at *
 rw [aah]
 refine acj (q := oe q.tr v3) T13 rfl (ye (T13.swap.rd : SlU w21 v3 (mi ms))) fun w22 T14 => ?_
 -- [t3, ids3, n3, sto, disk, qb, was2, pb, ..]
 have hpb := (jb (up7 T14)).2.1
 simp [hpb]
 refine zz T14.up3 hun3 (by omega) p.tr fun w23 nv now g5 g6 T15 => ?_
 rw [hsp3] at g6
 have hnl := g6.length_eq
 rw [List.length_append] at hnl
 -- [now, sto, t3, ids3, n3, disk, qb, was2, pb, ..]
 have hsf : (mo (F2.map fun x => (q.b, x)) p.tr).length ≤ F2.length := by
  have := als (F2.map fun x => (q.b, x)) p.tr
  rwa [List.length_map] at this
 have hwasl : was2.length ≤ 16 := by have := Wp.len; omega
 refine ayj (l1 := was2) (l2 := now) T15 (fun w' L' S' => ?_) (fun w' L' S' => (S'.perm List.perm_middle).rd) (by omega) (by omega) (fun x hx => g6.mem_iff.2 (List.mem_append_left _ (g2.mem_iff.1 hx))) fun w24 x3 T16 => ?_
 ·exact ((S'.perm List.perm_append_comm).perm (List.perm_middle (l₁ := [_, _, _, _, _, _, _, _, _, _, _, _]))).rd
 unfold M.c.j3
 have T16q : St W w24 (gp qb (pkC q).toArray T.a :: _ :: _ :: _ :: _ :: _ :: _ :: _) := T16.perm (List.perm_middle (l₁ := [_, _, _, _, _, _]))
 have T16p := T16.perm (List.perm_middle (l₁ := [_, _, _, _, _, _, _, _]))
 have kq := (jb T16q).2.1
 have kp := (jb T16p).2.1
 have ln1 : ∀ w' K, biT P .len #[T.c] T.b [false] [nv] w' K = K (.int .i64 now.length) w' := fun w' K => (T16.rd : SlS w24 nv now).im (by kernel_rfl) [false]
 have ln2 : ∀ w' K, biT P .len #[T.c] T.b [false] [wv] w' K = K (.int .i64 was2.length) w' := fun w' K => ((T16.perm (List.perm_middle (l₁ := [_, _, _, _, _, _, _, _, _, _, _, _]))).rd : SlS w24 wv was2).im (by kernel_rfl) [false]
 by_cases hqp : q.tr = p.tr
 ·simp [kq, kp, hqp]
  exact ex T16.fr
 ·have hz : mo (F2.map fun x => (q.b, x)) p.tr = [] := ayb q.b F2 fun x hx => by rw [hmf x hx]; exact hqp
  rw [hz] at hnl
  have hll : now.length = was2.length := by simp at hnl; omega
  simp [kq, kp, hqp, ln1, ln2, hll]
  exact ex T16.fr
end Go.Proofs.YtfnhoaemapheoaaGreat
