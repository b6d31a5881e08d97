/-
  A store: the chapter's example. No condition.
-/
import Derived.Test.YtfnhoaemapheoaaGreatZSs0
import Derived.Test.YtfnhoaemapheoaaGreatZRef3
set_option maxRecDepth 100000
namespace Go.Proofs.YtfnhoaemapheoaaGreat
open Go.Eng Go.Proofs.YtfnhoaemapheoaaGreat.Sint
def spA : Spn := ⟨5, 2, 0, 0, 0, ⟨#[97]⟩, ⟨#[98]⟩, false⟩
def spC : Spn := ⟨5, 1, 0, 0, 0, ⟨#[97]⟩, ⟨#[99]⟩, false⟩
theorem nmA : oz ⟨#[97]⟩ = 0 := by decide +kernel
theorem nmB : oz ⟨#[98]⟩ = 0 := by decide +kernel
theorem nmC : oz ⟨#[99]⟩ = 0 := by decide +kernel
theorem bjx : ky spA = 0 := by
 unfold ky spA
 simp only [nmA, nmB]
 decide
theorem biz : ky spC = 0 := by
 unfold ky spC
 simp only [nmA, nmC]
 decide
def pkX (v : Value) : Pk := ⟨9, 5, ⟨1, 0⟩, ij, 0, false, v, ii, ii⟩
theorem blp (v : Value) : wrE (pkX v) [spA, spC] [] [] = true := by
 have h1 : qi 5 [spA, spC] = true := by
  have a := zz (tr := 5) (met := []) (s := spA) (r := [spC]) bjx rfl (by simp)
  have b := zz (tr := 5) (met := [] ++ [spA.id]) (s := spC) (r := []) biz rfl (by simp [spA, spC])
  unfold qi
  rw [a, b]
  simp [ri]
 unfold wrE rj acs qt lz
 simp [pkX, kw, ol, oo, om, ll, ii, h1, atr]
theorem bhh (v : Value) : xo (pkX v) := by
 have u : ∀ x : Int, 0 ≤ x → x < 10 → sy x := fun x h1 h2 => ⟨h1, by omega⟩
 exact ⟨u 5 (by decide) (by decide), ⟨u 1 (by decide) (by decide), u 0 (by decide) (by decide)⟩, ⟨u 0 (by decide) (by decide), u 0 (by decide) (by decide)⟩⟩
theorem bks : ∀ s ∈ [spA, spC], vk s := fun s hs => by
 have u : ∀ x : Int, 0 ≤ x → x < 10 → sy x := fun x h1 h2 => ⟨h1, by omega⟩
 rcases List.mem_cons.1 hs with rfl | hs
 ·exact ⟨u _ (by decide) (by decide), u _ (by decide) (by decide), u _ (by decide) (by decide), u _ (by decide) (by decide), u _ (by decide) (by decide)⟩
 ·rw [List.mem_singleton.1 hs]
  exact ⟨u _ (by decide) (by decide), u _ (by decide) (by decide), u _ (by decide) (by decide), u _ (by decide) (by decide), u _ (by decide) (by decide)⟩
theorem bkw : qe [spA, spC] = [1, 2] := by
 have e : qe [spA, spC] = Suint64.mj [2, 1] := rfl
 rw [e, Suint64.wq (List.Perm.swap 1 2 [])]
 exact List.mergeSort_of_pairwise (by simp)
theorem bcm {l : List Spn} (h1 : oa l) (h2 : l.Perm [spA, spC]) : l = [spC, spA] := by
 refine (azz (h2.trans (List.Perm.swap _ _ _)) h1 ?_ ?_)
 ·simp [leS, spA, spC]
 ·intro x hx y hy he
  have hx' := h2.mem_iff.1 hx
  have hy' := h2.mem_iff.1 hy
  simp only [List.mem_cons, List.not_mem_nil, or_false] at hx' hy'
  rcases hx' with rfl | rfl <;> rcases hy' with rfl | rfl
  ·rfl
  ·simp [spA, spC] at he
  ·simp [spA, spC] at he
  ·rfl
theorem bit {w : World} {K : KV} (h : ∀ w', Fr (fun _ => False) w w' → K (.bool true) w') : gi P F.ca [] w K := by
 rw [M.br.fcall]
 apply M.br.calls
 unfold M.br
 refine avj (St.jn w) 10000 (fun h => by omega) fun _ _ w1 hb S1 => ?_
 simp
 refine agx (X := []) S1 (atm 10000 256).vir rfl (by omega) (by simp [ji]) (fun m hm => by simp at hm) fun w2 q j s f L D _ I hmost hfl _ harm hroom hused _ hx S2 => ?_
 rw [List.take_nil] at I S2
 have hp0 : L.gt = [] := hx trivial
 simp only [ka]
 simp
 unfold M.br.j0
 simp
 have S3 : St w (w2.alloc (.cells #[.int .u64 5, .int .u64 2, .int .u64 0, .int .u64 0, .int .u64 0, .string ⟨#[97]⟩, .string ⟨#[98]⟩, .bool false, .int .u64 5, .int .u64 1, .int .u64 0, .int .u64 0, .int .u64 0, .string ⟨#[97]⟩, .string ⟨#[99]⟩, .bool false] T.e)) (ko (.slice (some ⟨w2.heap.size, 0, none⟩) 2 2) [spA, spC] :: _) := St.vh (l := [spA, spC]) S2 lx rfl (by simp [maxLen])
 generalize w2.heap.size = rb at *
 generalize w2.alloc _ = w3 at *
 have ep : Value.agg #[.int .i64 9, .int .u64 5, .int .u64 1, .int .u64 0, .int .u64 0, .int .u64 0, .int .i64 0, .bool false, .slice (some ⟨rb, 0, none⟩) 2 2, .slice none 0 0, .slice none 0 0] = pkA (pkX (.slice (some ⟨rb, 0, none⟩) 2 2)) := rfl
 rw [ep]
 have hrng := bhh (.slice (some ⟨rb, 0, none⟩) 2 2)
 have hu : D.ir = 0 := akt I.wj hp0
 have hf0 : f = 0 := (I.wj.vir.nil hp0).2
 have S4 : St w w3 (ta q hb (ki []) L false :: im hb D :: ko (.slice (some ⟨rb, 0, none⟩) 2 2) [spA, spC] :: []) := St.dn2 S3
 have hfr : lh (ki []) [spA, spC] = [spA, spC] := rfl
 refine ayc S4 (fun w' R' S' => ⟨(S'.perm List.perm_middle).row lx, Sl.nil, Sl.nil, by simp, by simp, by simp⟩) hrng bks I (by rw [hf0]; simp) (blp _) (by rw [hp0]; simp) harm (by rw [hu, hroom]; simp) fun w5 v' v3 L2 D2 I2 hm2 ha2 hr2 hu2 hp2 S5 => ?_
 rw [hfr, bkw] at S5
 rw [hfr] at I2
 have hms : vu [] (pkX (.slice (some ⟨rb, 0, none⟩) 2 2)).b [spA, spC] = [(⟨1, 0⟩, [spA, spC])] := rfl
 rw [hms] at I2 S5
 simp
 have S6 := wx S5
 generalize w5.heap.size = tb at *
 generalize w5.alloc _ = w6 at *
 have one6 := aew (tr := (pkX (.slice (some ⟨rb, 0, none⟩) 2 2)).tr) (S5.rd : SlU w5 v' [1, 2])
 rw [xh]
 refine aaa (q := uf (pkX (.slice (some ⟨rb, 0, none⟩) 2 2)).tr v') S6 rfl one6 fun w7 S7 => ?_
 refine bff (kl := []) (S7.up4) (fun _ _ _ => Sl.nil) fun w8 S8 => ?_
 obtain ⟨c1, c2, c3, c4⟩ := bkf I2.wj.vir []
 refine agx (X := [(⟨1, 0⟩, [spA, spC])]) S8 c1 c2 (by omega) I2.ip I2.ok fun w9 q2 j s3 f3 L3 D3 hj I3 _ _ _ _ _ _ _ _ S9 => ?_
 have hjt : [((⟨1, 0⟩ : Bal), [spA, spC])].take j = [(⟨1, 0⟩, [spA, spC])] := List.take_of_length_le (by
  rw [List.length_take] at hj
  simp at hj ⊢
  omega)
 rw [hjt] at I3 S9
 have hes : ki [((⟨1, 0⟩ : Bal), [spA, spC])] = [(⟨1, 0⟩, spA), (⟨1, 0⟩, spC)] := rfl
 rw [hes] at S9
 have hsp : ro [((⟨1, 0⟩ : Bal), spA), (⟨1, 0⟩, spC)] 5 = [spA, spC] := rfl
 have hun : yr [((⟨1, 0⟩ : Bal), spA), (⟨1, 0⟩, spC)] := by rw [← hes]; exact bay _
 -- [sto, disk, tb, rd ids, rd fresh, sto old, row]
 obtain ⟨_, _, _, _, _, _, _, _, k10, _⟩ := jl S9.up2
 have li : ∀ w' K, biT P .len #[T.j] T.b [false] [v'] w' K = K (.int .i64 2) w' := fun w' K => (S9.up3.rd : SlU w9 v' [1, 2]).jd (by kernel_rfl) [false]
 have lf : ∀ w' K, biT P .len #[T.f] T.b [false] [v3] w' K = K (.int .i64 2) w' := fun w' K => (S9.up4.rd : SlS w9 v3 [spA, spC]).jd (by kernel_rfl) [false]
 obtain ⟨b1, o1, cap1, hv1, _, _, hc1⟩ := (S9.up3.rd : SlU w9 v' [1, 2]).at (i := 0) (by simp)
 have d1 : gr w9 b1 o1 = some (.int .u64 1) := by simpa using hc1 0 _ rfl
 have ia1 : ∀ w' K, iaT P T.j v' (.int .i64 0) w' K = K (.pointer (some ⟨b1, o1, none⟩)) w' := fun w' K => by
  rw [hv1, aey (by simp) (by omega) (by simp)]; simp
 simp [k10, li, lf, ia1, d1, uf, ka]
 refine amv S9 hun (by simp) 5 fun w10 v4 l4 g1 g2 S10 => ?_
 rw [hsp] at g2
 have hl4 := bcm g1 g2
 subst hl4
 have l4' : ∀ w' K, biT P .len #[T.f] T.b [false] [v4] w' K = K (.int .i64 2) w' := fun w' K => (S10.rd : SlS w10 v4 [spC, spA]).jd (by kernel_rfl) [false]
 simp [l4']
 refine amv S10.swap hun (by simp) 5 fun w11 v5 l5 g3 g4 S11 => ?_
 rw [hsp] at g4
 have hl5 := bcm g3 g4
 subst hl5
 obtain ⟨b2, o2, cap2, hv2, _, _, hc2⟩ := (S11.rd : SlS w11 v5 [spC, spA]).at (i := 0) (by simp)
 have d2 : gr w11 b2 (o2 + 1) = some (.int .u64 1) := by simpa [spC] using hc2 1 _ rfl
 have ia2 : ∀ w' K, iaT P T.f v5 (.int .i64 0) w' K = K (.pointer (some ⟨b2, o2, none⟩)) w' := fun w' K => by
  rw [hv2, aey (by simp) (by omega) (by simp)]; simp
 simp [ia2, d2]
 exact h w11 S11.fr
set_option maxRecDepth 100000
theorem ayn {ig : Int} {D : Dk} {b : List Int} (hd : D.iy = false) (ha : D.jk = true) (hl : D.left < 41) (hb : 41 ≤ b.length) (hb2 : b.length ≤ 8192) (hr : D.ir + 9000 ≤ D.iu) : ((⟨ig, []⟩ : Lg).append D b).2 = 10 := by
 unfold Lg.append
 rw [if_neg (by omega)]
 simp only [List.getLast?_nil]
 unfold Lg.zf
 simp only [List.getLast?_nil]
 unfold Lg.zg
 have hlen : (mq (Lg.next ⟨ig, []⟩) ++ ja b).length = (mq (Lg.next ⟨ig, []⟩)).length + (ja b).length := List.length_append
 have h1 := acv (Lg.next ⟨ig, []⟩)
 have h2 := nb b
 have e : (D.append 0 (mq (Lg.next ⟨ig, []⟩) ++ ja b)).2 = 10 := by
  unfold Dk.append
  rw [hd]
  simp only [Bool.false_eq_true, if_false]
  rw [if_neg (by omega), if_neg (by rw [hlen]; push_cast; omega)]
  have hp : (D.put 0 (mq (Lg.next ⟨ig, []⟩) ++ ja b)).iy = true := by
   unfold Dk.put
   cases D.get 0 with
   | none =>
    simp only [Dk.after, Dk.abz, Dk.nn, ha, hd, hlen]
    simp
    omega
   | some q =>
    simp only [Dk.after, Dk.nn, ha, hd, hlen]
    simp
    omega
  simp only [hp, if_true]
 rw [e]
 rfl
theorem bfx {b : Bal} {l : List Spn} (hne : l ≠ []) (hr : ∀ s ∈ l, ky s = 0) : 41 ≤ (lw b l).length := by
 obtain ⟨x, r, rfl⟩ := List.exists_cons_of_ne_nil hne
 have h := (act (hr x (by simp))).1
 unfold lw
 rw [List.length_append, List.length_append, ku, ku, List.flatMap_cons, List.length_append]
 omega
section
variable {w0 w : World} {R : List Asn} {hb : Nat} {D : Dk} {p : Pk} {ls : List Spn} {lm : List Mem} {lu : List Int}
theorem bcg (S : St w0 w R) (p : Pk) {K : KV} (h : ∀ w', St w0 w' R → K (.tuple #[pkA pkZ, .slice none 0 0, .int .i64 13]) w') : gi P F.ay [.pointer none, pkA p] w K := by
 rw [M.c.fcall]
 apply M.c.calls
 unfold M.c
 refine St.td S fun pb w1 S1 => ?_
 simp
 have S2 := wx S1
 generalize w1.heap.size = tb at *
 generalize w1.alloc _ = w2 at *
 exact ati S2 fun w' S' => h w' S'.drop
theorem bbi {ig : Int} {K : KV} (h : K (.tuple #[.pointer none, .int .i64 13]) w) : gi P F.bv [.pointer none, .int .i64 ig] w K := by
 rw [M.ab.fcall]
 apply M.ab.calls
 unfold M.ab
 rw [M.bk.fcall]
 apply M.bk.calls
 unfold M.bk
 simp
 exact h
theorem bbw (S : St w0 w (im hb D :: R)) {K : KV} (h : ∀ w', St w0 w' (im hb D :: R) → K (.tuple #[.pointer none, .int .i64 1]) w') : gi P F.bv [.pointer (some ⟨hb, 0, none⟩), .int .i64 1] w K := by
 rw [M.ab.fcall]
 apply M.ab.calls
 unfold M.ab
 have e : xp D 1 = ((D, none), 1) := by unfold xp; simp
 refine azj S (by omega) (fun w2 hn S2 => ?_) fun w2 p qs hs S2 => ?_
 ·rw [e] at S2 ⊢
  simp
  exact h w2 S2
 ·rw [e] at hs; simp at hs
theorem ayt (t : Int) {K : KV} (h : K (.slice none 0 0) w) : gi P F.bl [.pointer none, .int .u64 t] w K := by
 rw [M.ay.fcall]
 apply M.ay.calls
 unfold M.ay
 simp
 exact h
theorem aun {K : KV} (h : K (.slice none 0 0) w) : gi P F.bp [.pointer none] w K := by
 rw [M.ar.fcall]
 apply M.ar.calls
 unfold M.ar
 simp
 exact h
theorem atw (S : St w0 w R) (t : Int) {K : KV} (h : ∀ w', St w0 w' R → K (kj ij) w') : gi P F.cv [.pointer none, .int .u64 t] w K := by
 rw [M.bq.fcall]
 apply M.bq.calls
 unfold M.bq
 simp
 have S2 := akm S
 generalize w.heap.size = rb at *
 generalize w.alloc _ = w2 at *
 have hres : ∀ w' K, po P T.c (.pointer (some ⟨rb, 0, none⟩)) w' K = ldN P 2 rb 0 w' K := fun w' K => Eq.trans (by kernel_rfl) rfl
 refine St.put (vs := [.int .u64 0, .int .u64 0]) (cs' := #[.int .u64 0, .int .u64 0]) S2 (by simp [ke]) (by simp) rfl fun w3 S3 => ?_
 have b2 : ∀ K, ldN P 2 rb 0 w3 K = K (kj ij) w3 := fun K => S3.ldA [.int .u64 0, .int .u64 0] rfl rfl K
 rw [hres, b2]
 exact ⟨rfl, h w3 S3.drop⟩
theorem afr (hp : qc w p ls lm lu) (hr : xo p) (hls : LsR ls lm lu) {K : KV} (h : ∀ w', Fr (fun _ => False) w w' → K (.bool (wrE p ls lm lu)) w') : gi P F.di [pkA p] w K := by
 rw [M.cw.fcall]
 apply M.cw.calls
 unfold M.cw
 refine St.td (St.jn w) fun pb w1 S1 => ?_
 have S1' : St w w1 (ic pb (pkC p).toArray T.a :: []) := S1
 obtain ⟨c0, _⟩ := jl S1'
 have pl := fun K => qp S1' K
 unfold wrE at h
 by_cases hk : p.ib = 9
 ·simp [c0, hk, pl]
  refine aob (hp.fr S1'.fr) hr (fun m hm => (hls.m m hm).1) (fun m hm => (hls.u m hm).1) fun w2 f2 => ?_
  have S2 := S1'.jm f2
  have := h w2 S2.fr
  unfold aal
  cases he : rj p ls lm lu with
  | true => rw [he] at this; simp [hk] at this; simp; exact this
  | false => rw [he] at this; simp [hk] at this; simp; exact this
 ·have := h w1 S1'.fr
  simp [hk] at this
  simp [c0, hk]
  exact this
end
set_option maxRecDepth 100000
open Go.Eng Go.Proofs.YtfnhoaemapheoaaGreat.Sint
theorem aok {W : World} {n0 : Nat} {c0 : Array Value} (h0 : TV P W n0 T.a c0.toList) {a1 : Int} (h1 : (Lit.int .i64 a1).wf = true) {K : KV}
  (h : ∀ w', Fr (fun _ => False) W w' → K (.bool true) w') : jy P F.dq [.agg c0, .int .i64 a1] W K := by
 obtain ⟨p, ls, lm, lu, ep, hp0, hpr, hpl⟩ := bjw h0
 rw [ep]
 apply M.aa.calls
 unfold M.aa
 refine St.td (St.jn W) fun pb w1 S1 => ?_
 have S1' : St W w1 (ic pb (pkC p).toArray T.a :: []) := S1
 have pl := fun K => qp S1' K
 simp [pl]
 have ex : ∀ {w'}, Fr (fun _ => False) W w' → (gi P F.ca [] w' fun v w => K v w) := fun f => bit fun w'' f'' => h w'' (f.trans f'')
 refine bat (hp0.fr S1'.fr) fun b1 w3 hb1 f3 => ?_
 have S3 := S1'.jm f3
 cases b1 with
 | false =>
  simp
  exact ex S3.fr
 | true =>
 have hP : qc W p ls lm lu := hp0.ayj (hb1 rfl)
 by_cases n1 : a1 < 0
 ·simp [n1]
  exact ex S3.fr
 by_cases n2 : 40 < a1
 ·simp [n1, n2]
  exact ex S3.fr
 simp [n1, n2]
 unfold M.aa.j0
 have pl3 := fun K => qp S3 K
 simp [pl3]
 refine bcg S3 p fun w4 S4 => ?_
 simp
 have S5 := wx S4
 generalize w4.heap.size = t1 at *
 generalize w4.alloc _ = w5 at *
 rw [xh]
 refine aaa (q := pkZ) S5 rfl (zx _ _ _ _ _ _) fun w6 S6 => ?_
 refine bbi ?_
 simp
 refine avj S6.drop 1048576 (fun h => by omega) fun _ _ w7 hb S7 => ?_
 simp
 refine bbw S7 fun w8 S8 => ?_
 simp
 refine agx (X := []) S8 (atm 1048576 256).vir rfl (by omega) (by simp [ji]) (fun m hm => by simp at hm) fun w9 q j s f L D _ I hmost hfl _ harm hroom hused _ hx S9 => ?_
 rw [List.take_nil] at I S9
 have hq1 : L.gt = [] := hx trivial
 simp only [ka]
 simp
 refine ayt 1 ?_
 simp
 refine aun ?_
 simp
 refine atw S9 1 fun w10 S10 => ?_
 have eb : Value.agg #[.int .u64 0, .int .u64 0] = kj ij := rfl
 have wz : IntKind.i64.wrap 0 = 0 := by decide
 simp [wz]
 rw [eb, ajp]
 simp
 unfold M.aa.j1
 refine bjm (n := a1) S10.swap (by omega) fun w11 S11 => ?_
 have hu : D.ir = 0 := akt I.wj hq1
 have hf0 : f = 0 := (I.wj.vir.nil hq1).2
 have dfs : decide (0 ≤ a1) = true := by simp; omega
 rw [dfs] at S11
 have S11' : St W w11 (ta q hb (ki []) L false :: im hb { D with jk := true, left := a1 } :: ic pb (pkC p).toArray T.a :: []) := S11.swap
 have I7 : SI s f L { D with jk := true, left := a1 } [] := by
  obtain ⟨⟨⟨v1, v2, v3, v4, v5, v6, v7, v8⟩, g2, g3⟩, r1, r2⟩ := I
  exact ⟨⟨⟨v1, v2, v3, v4, v5, v6, v7, v8⟩, g2, g3⟩, r1, r2⟩
 have pl11 := fun K => qp S11'.up2 K
 simp [pl11]
 have shp : wrE p ls lm lu = true → (nj L { D with jk := true, left := a1 } p.b (lh (ki []) ls)).2 = 10 ∧ (nj L { D with jk := true, left := a1 } p.b (lh (ki []) ls)).1.1 = L := fun hw => by
  obtain ⟨_, Wp⟩ := alp hw
  have hfr : lh (ki []) ls = ls := List.filter_eq_self.2 fun x _ => rfl
  rw [hfr]
  unfold nj
  rw [if_neg Wp.ne]
  have ok := aga (es := ki []) (p := p) (ls := ls) hpr hpl.s Wp (by rw [hfr]; exact Wp.ne)
  rw [hfr] at ok
  have hln := ajd ok
  have er : pr (p.b, ls) = lw p.b ls := rfl
  rw [er] at hln
  obtain ⟨ig, qs⟩ := L
  simp only at hq1
  subst hq1
  have e10 := ayn (ig := ig) (D := { D with jk := true, left := a1 }) (b := lw p.b ls) I.wj.up rfl (by show a1 < 41; omega) (bfx Wp.ne fun z hz => (Wp.ok z hz).1) (by omega) (by
   show (D.ir : Int) + 9000 ≤ D.iu
   rw [hu, hroom]; simp)
  have hap := awl (b := lw p.b ls) I7.wj (by rw [hf0]; simp [ji])
  rw [apf (by rw [e10]; simp)]
  refine ⟨e10, ?_⟩
  generalize Lg.append ⟨ig, []⟩ { D with jk := true, left := a1 } (lw p.b ls) = z at *
  cases hap with
  | ahk => simp at e10
  | tz => simp at e10
  | iy => rfl
  | ok => simp at e10
 have hup : ({ D with jk := true, left := a1 } : Dk).iy = false := I.wj.up
 have hall : f + (ji L.gt).length + 1 ≤ 1000000000000 := by rw [hf0, hq1]; simp [ji]
 refine aer (s := s) (f := f) S11' (fun w' R' S' => hP.fr S'.fr) hpr hpl.s (aed I7.ok) (fun _ _ => ⟨_, I7.wj⟩) hall (fun hw w12 S12 => ?_) (fun _ hd => by rw [hup] at hd; cases hd) (fun hw _ _ _ w12 S12 => ?_) (fun hw _ _ hz => by rw [(shp hw).1] at hz; cases hz)
 ·simp
  have T1 := wx S12
  generalize w12.heap.size = t2 at *
  generalize w12.alloc _ = w13 at *
  rw [xh]
  refine aaa (q := pkZ) T1 rfl (zx _ _ _ _ _ _) fun w14 T2 => ?_
  have pl14 := fun K => qp T2.up3 K
  simp [pl14]
  refine aer (s := s) (f := f) T2.drop (fun w' R' S' => hP.fr S'.fr) hpr hpl.s (aed I7.ok) (fun _ _ => ⟨_, I7.wj⟩) hall (fun _ w15 T3 => ?_) (fun hw' => by rw [hw] at hw'; cases hw') (fun hw' => by rw [hw] at hw'; cases hw') (fun hw' => by rw [hw] at hw'; cases hw')
  simp
  have T4 := wx T3
  generalize w15.heap.size = t3 at *
  generalize w15.alloc _ = w16 at *
  rw [xh]
  refine aaa (q := pkZ) T4 rfl (zx _ _ _ _ _ _) fun w17 T5 => ?_
  have pl17 := fun K => qp T5.up3 K
  simp [pl17]
  refine afr (hP.fr T5.fr) hpr hpl fun w18 f18 => ?_
  have T6 := T5.drop.jm f18
  rw [hw]
  simp
  unfold M.aa.j2
  simp
  refine akc T6 (by simp [ki]) fun w19 v19 T7 => ?_
  have e0 : Suint64.mj (nw (ki [])) = [] := by simp [ki, nw, Suint64.mj]
  rw [e0] at T7
  have hl5 := fun w' K => (T7.rd).jd (P := P) (t := T.j) (ty := T.b) (w := w') (by kernel_rfl) [false] (K := K)
  simp at hl5
  simp [hl5]
  exact ex T7.fr
 ·obtain ⟨e10, eL⟩ := shp hw
  rw [e10, eL] at S12
  rw [e10]
  generalize (nj L { D with jk := true, left := a1 } p.b (lh (ki []) ls)).1.2 = D9 at *
  have hd10 : decide ((10 : Int) = 10) = true := by decide
  rw [hd10] at S12
  simp
  have T1 := wx S12
  generalize w12.heap.size = t2 at *
  generalize w12.alloc _ = w13 at *
  rw [xh]
  refine aaa (q := pkZ) T1 rfl (zx _ _ _ _ _ _) fun w14 T2 => ?_
  have pl14 := fun K => qp T2.up3 K
  simp [pl14]
  refine aer (s := s) (f := f) T2.drop (fun w' R' S' => hP.fr S'.fr) hpr hpl.s (aed I7.ok) (fun hd => by cases hd) hall (fun hw' => by rw [hw] at hw'; cases hw') (fun _ _ w15 T3 => ?_) (fun _ hd => by cases hd) (fun _ hd => by cases hd)
  simp
  have T4 := wx T3
  generalize w15.heap.size = t3 at *
  generalize w15.alloc _ = w16 at *
  rw [xh]
  refine aaa (q := pkZ) T4 rfl (zx _ _ _ _ _ _) fun w17 T5 => ?_
  have pl17 := fun K => qp T5.up3 K
  simp [pl17]
  refine afr (hP.fr T5.fr) hpr hpl fun w18 f18 => ?_
  have T6 := T5.drop.jm f18
  rw [hw]
  simp
  unfold M.aa.j2
  simp
  refine akc T6 (by simp [ki]) fun w19 v19 T7 => ?_
  have e0 : Suint64.mj (nw (ki [])) = [] := by simp [ki, nw, Suint64.mj]
  rw [e0] at T7
  have hl5 := fun w' K => (T7.rd).jd (P := P) (t := T.j) (ty := T.b) (w := w') (by kernel_rfl) [false] (K := K)
  simp at hl5
  simp [hl5]
  exact ex T7.fr
end Go.Proofs.YtfnhoaemapheoaaGreat
