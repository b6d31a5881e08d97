/-
  The order of a log's files. No condition.
-/
import Derived.Test.YtfnhoaemapheoaaGreatZKeyD
import Derived.Test.YtfnhoaemapheoaaGreatZMs0
import Derived.Test.YtfnhoaemapheoaaGreatZSpn0
import Derived.Test.YtfnhoaemapheoaaGreatM
import Derived.Test.YtfnhoaemapheoaaGreatFacts
import Derived.Test.YtfnhoaemapheoaaGreatZEngSl
import Derived.Sort.AssemblyPlain
set_option maxRecDepth 100000
namespace Go.Proofs.YtfnhoaemapheoaaGreat
open Go.Eng Go.Proofs.YtfnhoaemapheoaaGreat.Sint
def uy (ns : List Int) : Nat → Nat → List Int
 | 0, _ => ns
 | f + 1, i => match ns[i]? with
  | none => ns
  | some n => if 0 < i ∧ (n + 63) % 64 ∉ ns then ns.drop i ++ ns.take i else uy ns f (i + 1)
def xa (ns : List Int) : List Int := uy ns ns.length 0
section
variable {w0 w : World} {R : List Asn} {v : Value} {ns : List Int}
abbrev SlI (w : World) (v : Value) (l : List Int) : Prop := Sl w 1 mj v l
def IxI (w0 : World) (ns : List Int) (x : Int) : KL := fun y w1 => ∃ (u0 u1 : Value) (i : Nat), y = [u0, u1, .int .i64 (i : Nat)] ∧ i ≤ ns.length ∧ w1 = w0 ∧ x ∉ ns.take i
theorem bcd (hs : SlI w v ns) (hl : ns.length ≤ 1000000) (x : Int) {K : KV} (h : K (.bool (decide (x ∈ ns))) w) : ey P F.bn [v, .int .i64 x] w K := by
 rw [M.ca.fcall]
 apply M.ca.calls
 unfold M.ca
 rw [M.bh.fcall]
 apply M.bh.calls
 unfold M.bh
 have hlen : ∀ w' K, biT P .len #[T.g] T.b [false] [v] w' K = K (.int .i64 ns.length) w' := fun w' K => hs.ii (by kernel_rfl) [false]
 simp [hlen]
 refine ⟨IxI w ns x, fun y _ => ns.length - ms y 2, ⟨_, _, 0, rfl, Nat.zero_le _, rfl, by simp⟩, ?_⟩
 rintro y w1 ⟨u0, u1, i, rfl, hi, rfl, hn⟩
 by_cases hlt : i < ns.length
 ·have hlti : (i : Int) < (ns.length : Int) := by omega
  obtain ⟨b, o, cap, hv, _, _, hc⟩ := hs.at hlt
  have c0 := hc 0 _ rfl
  simp only [Nat.mul_one, Nat.add_zero] at c0
  have hia : ∀ w' K, iaT P T.g v (.int .i64 (i : Nat)) w' K = K (.pointer (some ⟨b, o + i, none⟩)) w' := fun w' K => by rw [hv]; simp [hlt]
  simp [hlti]
  unfold M.bh.j2
  simp [hia, c0]
  by_cases hx : ns[i] = x
  ·have hin : x ∈ ns := hx ▸ List.getElem_mem hlt
   have hge : (0 : Int) ≤ (i : Int) := by omega
   simp [hx]
   simpa [hin, hge] using h
  ·have hx' : ¬ x = ns[i] := fun h => hx h.symm
   simp [hx']
   have hw : IntKind.i64.wrap ((i : Int) + 1) = ((i + 1 : Nat) : Int) := by rw [fj (by omega) (by omega)]; omega
   rw [hw]
   refine ⟨⟨_, _, i + 1, rfl, hlt, rfl, ?_⟩, ?_⟩
   ·rw [List.take_succ_eq_append_getElem hlt, List.mem_append, List.mem_singleton]
    exact fun h => h.elim hn hx'
   ·simp [ms, gv]; omega
 ·have hge : ¬ (i : Int) < (ns.length : Int) := by omega
  rw [List.take_of_length_le (by omega)] at hn
  simp [hge]
  simpa [hn] using h
theorem axj {v1 v2 : Value} {l1 l2 : List Int} (S : St w0 w R) (s1 : SlI w v1 l1) (s2 : SlI w v2 l2) (hl : l1.length + l2.length ≤ 100000000) {K : KV} (h : ∀ w' v', St w0 w' (pn v' (l1 ++ l2) :: R) → K v' w') :
  bsT P T.av 2 #[(0, v1), (1, v2)] w fun t w => ey P F.bc [t] w K := by
 obtain ⟨a1, k1, hv1, _⟩ := id s1
 obtain ⟨a2, k2, hv2, _⟩ := id s2
 have hbs : ∀ K', bsT P T.av 2 #[(0, v1), (1, v2)] w K' = K' (.slice (some ⟨w.heap.size, 0, none⟩) 2 2) (w.alloc (.cells #[v1, v2] T.g)) := fun K' => by rw [hv1, hv2]; simp
 rw [hbs]
 have f1 : Fr (fun _ => False) w (w.alloc (.cells #[v1, v2] T.g)) := (Fr.refl _ w).alloc _
 have hn : (w.alloc (.cells #[v1, v2] T.g)).heap[w.heap.size]? = some (.cells (([(v1, l1), (v2, l2)] : List (Value × List Int)).map (·.1)).toArray T.g (0, 0)) := by
  rw [fx, if_pos rfl]; rfl
 rw [M.ag.fcall]
 refine CI.yq (L := [(v1, l1), (v2, l2)]) hn (fun p hp => ?_) (by simp [CI.tot]; omega) (by simp) fun w' v o f2 => ?_
 ·simp at hp
  rcases hp with rfl | rfl
  ·exact s1.fr f1 fun _ _ _ h => h
  ·exact s2.fr f1 fun _ _ _ h => h
 ·have hs : w.heap.size ≤ (w.alloc (.cells #[v1, v2] T.g)).heap.size := f1.size
  refine h w' v (S.add (a := pn v (l1 ++ l2)) (f1.trans f2) (B := fun b => v.ownBlock = some b) ⟨?_, fun b hb => hb⟩ fun b hb => ?_)
  ·simpa using o.mono (Nat.zero_le _)
  ·have := o.lt hb
   exact ⟨by omega, this.2⟩
def OrW (w0 : World) (v : Value) (ns : List Int) (R : List Asn) : KL := fun y w1 => ∃ (u0 u1 u2 : Value) (i f : Nat), y = [u0, u1, u2, .int .i64 (i : Nat)] ∧ i + f = ns.length ∧ xa ns = uy ns f i ∧ St w0 w1 (pn v ns :: R)
theorem azk (S : St w0 w (pn v ns :: R)) (hl : ns.length ≤ 1000000) (hr : ∀ n ∈ ns, 0 ≤ n ∧ n < 64) {K : KV} (h : ∀ w' v', St w0 w' (pn v' (xa ns) :: R) → K v' w') : ey P F.dx [v] w K := by
 rw [M.dn.fcall]
 apply M.dn.calls
 unfold M.dn
 have hlen : ∀ {w1 : World}, St w0 w1 (pn v ns :: R) → ∀ w' K, biT P .len #[T.g] T.b [false] [v] w' K = K (.int .i64 ns.length) w' := fun S w' K => (S.row lq : SlI _ v ns).ii (by kernel_rfl) [false]
 simp [hlen S]
 refine ⟨OrW w0 v ns R, fun y _ => ns.length - ms y 3, ⟨_, _, _, 0, ns.length, rfl, by omega, rfl, S⟩, ?_⟩
 rintro y w1 ⟨u0, u1, u2, i, f, rfl, hif, ho, S1⟩
 have hs : SlI w1 v ns := S1.row lq
 by_cases hlt : i < ns.length
 ·have hlti : (i : Int) < (ns.length : Int) := by omega
  obtain ⟨b, o, cap, hv, _, _, hc⟩ := hs.at hlt
  have c0 := hc 0 _ rfl
  simp only [Nat.mul_one, Nat.add_zero] at c0
  have hia : ∀ w' K, iaT P T.g v (.int .i64 (i : Nat)) w' K = K (.pointer (some ⟨b, o + i, none⟩)) w' := fun w' K => by rw [hv]; simp [hlt]
  have hr1 := hr _ (List.getElem_mem hlt)
  simp [hlti]
  unfold M.dn.j2
  have hw1 : IntKind.i64.wrap (ns[i] + 64) = ns[i] + 64 := fj (by omega) (by omega)
  have hw2 : IntKind.i64.wrap (ns[i] + 64 - 1) = ns[i] + 63 := by rw [fj (by omega) (by omega)]; omega
  have et : (ns[i] + 63).tmod 64 = (ns[i] + 63) % 64 := by rw [Int.tmod_eq_emod_of_nonneg (by omega)]
  simp [hia, c0, hw1, hw2, aru, et]
  refine bcd hs hl _ ?_
  cases f with
  | zero => omega
  | succ f =>
   rw [uy, List.getElem?_eq_getElem hlt] at ho
   simp only at ho
   have hw : IntKind.i64.wrap ((i : Int) + 1) = ((i + 1 : Nat) : Int) := by rw [fj (by omega) (by omega)]; omega
   by_cases hin : (ns[i] + 63) % 64 ∈ ns
   ·rw [if_neg (fun hx => hx.2 hin)] at ho
    simp [hin]
    rw [hw]
    refine ⟨⟨_, _, _, i + 1, f, rfl, by omega, ho, S1⟩, ?_⟩
    simp [ms, gv]; omega
   ·by_cases h0 : 0 < i
    ·rw [if_pos ⟨h0, hin⟩] at ho
     rw [ho] at h
     have h0i : (0 : Int) < (i : Int) := by omega
     simp [hin, h0]
     have S2 := S1.iq ((Fr.refl _ w1).dr 1)
     have hs2 : SlI (dr w1 1) v ns := S2.row lq
     obtain ⟨va, sa, _, ra⟩ := hs2.sub (P := P) (t := T.g) (lo := some (.int .i64 (i : Nat))) (hi := none) (i := i) (j := ns.length) (by kernel_rfl) (by kernel_rfl) (.inr ⟨_, rfl⟩) (.inl ⟨rfl, rfl⟩) (by omega) (Nat.le_refl _)
     obtain ⟨vb, sb, _, rb⟩ := hs2.sub (P := P) (t := T.g) (lo := none) (hi := some (.int .i64 (i : Nat))) (i := 0) (j := i) (by kernel_rfl) (by kernel_rfl) (.inl ⟨rfl, rfl⟩) (.inr ⟨_, rfl⟩) (by omega) (by omega)
     rw [ra]
     refine ⟨rfl, ?_⟩
     rw [rb]
     refine ⟨rfl, ?_⟩
     have ea : (ns.drop i).take (ns.length - i) = ns.drop i := List.take_of_length_le (by simp)
     have eb : (ns.drop 0).take (i - 0) = ns.take i := by simp
     rw [ea] at sa
     rw [eb] at sb
     refine axj S2 sa sb (by simp; omega) fun w2 v2 S3 => h w2 v2 ?_
     exact S3.swap.drop
    ·rw [if_neg (fun hx => h0 hx.1)] at ho
     have h0i : ¬ (0 : Int) < (i : Int) := by omega
     simp [hin, h0]
     rw [hw]
     refine ⟨⟨_, _, _, i + 1, f, rfl, by omega, ho, S1⟩, ?_⟩
     simp [ms, gv]; omega
 ·have hge : ¬ (i : Int) < (ns.length : Int) := by omega
  have hf0 : f = 0 := by omega
  subst hf0
  rw [ho] at h
  simp [hge]
  exact h w1 v S1
end
set_option maxRecDepth 100000
open Go.Eng Go.Proofs.YtfnhoaemapheoaaGreat.Sint
def zo (k : Int) (a : List (List Int) × Nat) : Prt := ⟨k, IntKind.i64.wrap (lj (a.1.headD [])), a.1.tail, (a.2 : Int)⟩
def my (D : Dk) (k : Int) (jl : Bool) : (Dk × Option Prt) × Int :=
 if (D.jp k).2 ≠ 0 then ((D, none), (D.jp k).2) else
 if jl = false ∧ (ru (D.jp k).1).2 < (D.jp k).1.length then ((D, none), 6) else
 if (ru (D.jp k).1).1 = [] ∧ jl = true then (((D.acy k).1, none), (D.acy k).2) else
 if (ru (D.jp k).1).1 = [] ∨ ((ru (D.jp k).1).1.headD []).length ≠ 8 then ((D, none), 6) else
 if (ru (D.jp k).1).2 < (D.jp k).1.length then
  (if (D.cut k (ru (D.jp k).1).2).2 ≠ 0 then (((D.cut k (ru (D.jp k).1).2).1, none), (D.cut k (ru (D.jp k).1).2).2) else (((D.cut k (ru (D.jp k).1).2).1, some (zo k (ru (D.jp k).1))), 0))
 else ((D, some (zo k (ru (D.jp k).1))), 0)
section
variable {w0 w : World} {R : List Asn} {p hb : Nat} {v : Value} {ps : List Nat} {L : Lg} {q : Prt} {D : Dk}
theorem bag (S : St w0 w (fy hb D :: R)) (k : Int) : (D.jp k).1.length ≤ 1048576 := by
 obtain ⟨r, m, es, hk, _⟩ := xk S
 unfold Dk.jp
 split
 ·simp
 ·cases hg : D.get k with
  | none => simp
  | some f =>
   have h1 := hk.gq
   have h2 := hk.gk
   have h3 : f.len ≤ D.gk := adm (List.mem_map_of_mem (List.mem_of_find?_eq_some hg))
   simp only [List.length_append]
   unfold Fil.len at h3
   omega
theorem axt {lv : Value} {d : List Int} {r : List (List Int)} {us : Nat} (S : St w0 w (jk lv (d :: r) :: R)) (hd : d.length = 8) {k : Int} {K : KV} (h : ∀ w' np, St w0 w' (ln np (zo k (d :: r, us)) :: R) → K (.tuple #[iz np, .int .i64 0]) w') : M.ay.j1 lv (.int .i64 us) (.int .i64 k) w K := by
 unfold M.ay.j1
 have S1 := S.iq ((Fr.refl _ w).dr 1)
 obtain ⟨b, o, s, hia, hcs, cc, hs⟩ := acz S1 (i := 0) (by simp)
 have hia0 : ∀ w' K, iaT P T.i lv (.int .i64 0) w' K = K (.pointer (some ⟨b, o, none⟩)) w' := hia
 obtain ⟨v', S2, hsl⟩ := avh S1 (k := .i64)
 simp only [SV.v] at cc
 have cc1 : fi w b o = some (.slice s.a s.n s.c) := by simpa using cc
 simp only [List.getElem_cons_zero] at hs
 simp [hia0, cc1, hsl]
 refine aut hs (by omega) ?_
 obtain ⟨sv, rfl⟩ := arz S2
 simp [hsl, SV.v]
 rw [kf (ks := .u64) (kd := .i64) (by kernel_rfl) (by kernel_rfl)]
 simp
 have S3 := acr S2 (qu (zo k (d :: r, us)) sv.v) T.af
 exact h _ _ (ail S3)
theorem bco (S : St w0 w (fq p (mi hb L.gg v) T.ac :: fy hb D :: R)) (k : Int) (jl : Bool) {K : KV}
  (hn : ∀ w', (my D k jl).1.2 = none → St w0 w' (fq p (mi hb L.gg v) T.ac :: fy hb (my D k jl).1.1 :: R) → K (.tuple #[.pointer none, .int .i64 (my D k jl).2]) w')
  (hs : ∀ w' np q, my D k jl = (((my D k jl).1.1, some q), 0) → St w0 w' (ln np q :: fq p (mi hb L.gg v) T.ac :: fy hb (my D k jl).1.1 :: R) → K (.tuple #[iz np, .int .i64 0]) w') :
  ey P F.bw [iz p, .int .i64 k, .bool jl] w K := by
 rw [M.ay.fcall]
 apply M.ay.calls
 unfold M.ay
 obtain ⟨c0, _⟩ := nh S.blk
 have hrl := bag S.swap k
 simp only [iz]
 simp [c0]
 refine bbl S.swap k fun w1 v1 S1 => ?_
 have S2 : St w0 w1 (jd v1 (D.jp k).1 :: fq p (mi hb L.gg v) T.ac :: fy hb D :: R) := S1.tail (.swap _ _ _)
 unfold my at hn hs
 generalize D.jp k = rd at *
 obtain ⟨l, kd⟩ := rd
 simp only at hrl S2 hn hs ⊢
 by_cases hkd : kd ≠ 0
 ·rw [if_pos hkd] at hn
  simp [hkd]
  exact hn w1 rfl S2.drop
 ·rw [if_neg hkd] at hn hs
  have hkd0 : kd = 0 := by omega
  subst hkd0
  simp
  unfold M.ay.j0
  refine bcq S2 (fun w' L' S' => (S'.perm List.perm_middle).row il) (by omega) fun w2 lv kx S3 => ?_
  have hlenv := fun w' K => xr S3.swap w' K
  generalize ru l = a at *
  obtain ⟨ds, us⟩ := a
  simp only at hn hs S3 ⊢
  have hdlen := fun w' K => aai S3 w' K
  have S4 : St w0 w2 (jk lv ds :: fq p (mi hb L.gg v) T.ac :: fy hb D :: R) := S3.swap.drop
  obtain ⟨c0, _⟩ := nh S4.swap.blk
  have fin : ∀ {D' : Dk} {w3 : World} {d : List Int} {r : List (List Int)}, ds = d :: r → d.length = 8 → (∀ w' np, St w0 w' (ln np (zo k (d :: r, us)) :: fq p (mi hb L.gg v) T.ac :: fy hb D' :: R) → K (.tuple #[iz np, .int .i64 0]) w') → St w0 w3 (jk lv ds :: fq p (mi hb L.gg v) T.ac :: fy hb D' :: R) → M.ay.j1 lv (.int .i64 us) (.int .i64 k) w3 K := fun hd h8 h S5 => by
   rw [hd] at S5
   exact axt S5 h8 h
  cases jl with
  | false =>
   by_cases hus : us < l.length
   ·have husi : (us : Int) < (l.length : Int) := by omega
    rw [if_pos ⟨rfl, hus⟩] at hn
    simp [hlenv, husi]
    exact hn w2 rfl S4.drop
   ·have husi : ¬ (us : Int) < (l.length : Int) := by omega
    rw [if_neg (fun hx => hus hx.2)] at hn hs
    cases ds with
    | nil =>
     rw [if_neg (by simp), if_pos (.inl rfl)] at hn
     simp [hlenv, hdlen, husi]
     exact hn w2 rfl S4.drop
    | cons d r =>
     rw [if_neg (by simp)] at hn hs
     have hz : ¬ ((r.length : Int) + 1 = 0) := by omega
     obtain ⟨b, o, sv, hia, _, cc, hsd⟩ := acz S4 (i := 0) (by simp)
     have hia0 : ∀ w' K, iaT P T.i lv (.int .i64 0) w' K = K (.pointer (some ⟨b, o, none⟩)) w' := hia
     simp only [List.getElem_cons_zero] at hsd
     have hd8 : ∀ w' K, biT P .len #[T.d] T.b [false] [sv.v] w' K = K (.int .i64 d.length) w' := fun w' K => hsd.ii (by kernel_rfl) [false]
     simp only [SV.v] at cc hd8
     by_cases h8 : d.length = 8
     ·have h8i : (d.length : Int) = 8 := by omega
      rw [if_neg (by simp [h8]), if_neg hus] at hn hs
      simp [hlenv, hdlen, husi, hia0, hz, cc, hd8, h8i]
      exact fin rfl h8 (fun w' np S5 => hs w' np _ rfl S5) S4
     ·have h8i : ¬ (d.length : Int) = 8 := by omega
      rw [if_pos (.inr (by simpa using h8))] at hn
      simp [hlenv, hdlen, husi, hia0, hz, cc, hd8, h8i]
      exact hn w2 rfl S4.drop
  | true =>
   rw [if_neg (by simp)] at hn hs
   cases ds with
   | nil =>
    rw [if_pos ⟨rfl, rfl⟩] at hn
    simp [hdlen, c0]
    refine awm S4.up2 k fun w3 S5 => ?_
    exact hn w3 rfl S5.dn2.drop
   | cons d r =>
    rw [if_neg (by simp)] at hn hs
    have hz : ¬ ((r.length : Int) + 1 = 0) := by omega
    obtain ⟨b, o, sv, hia, _, cc, hsd⟩ := acz S4 (i := 0) (by simp)
    have hia0 : ∀ w' K, iaT P T.i lv (.int .i64 0) w' K = K (.pointer (some ⟨b, o, none⟩)) w' := hia
    simp only [List.getElem_cons_zero] at hsd
    have hd8 : ∀ w' K, biT P .len #[T.d] T.b [false] [sv.v] w' K = K (.int .i64 d.length) w' := fun w' K => hsd.ii (by kernel_rfl) [false]
    simp only [SV.v] at cc hd8
    by_cases h8 : d.length = 8
    ·have h8i : (d.length : Int) = 8 := by omega
     rw [if_neg (by simp [h8])] at hn hs
     by_cases hus : us < l.length
     ·have husi : (us : Int) < (l.length : Int) := by omega
      rw [if_pos hus] at hn hs
      simp [hlenv, hdlen, husi, hia0, hz, cc, hd8, h8i, c0]
      refine bff S4.up2 k us fun w3 S5 => ?_
      by_cases hc : (D.cut k us).2 = 0
      ·rw [if_neg (by simpa using hc)] at hs
       rw [hc]
       simp
       exact fin rfl h8 (fun w' np S6 => hs w' np _ rfl S6) S5.dn2
      ·rw [if_pos hc] at hn
       simp [hc]
       exact hn w3 rfl S5.dn2.drop
     ·have husi : ¬ (us : Int) < (l.length : Int) := by omega
      rw [if_neg hus] at hs
      simp [hlenv, hdlen, husi, hia0, hz, cc, hd8, h8i]
      exact fin rfl h8 (fun w' np S5 => hs w' np _ rfl S5) S4
    ·have h8i : ¬ (d.length : Int) = 8 := by omega
     rw [if_pos (.inr (by simpa using h8))] at hn
     simp [hdlen, hia0, hz, cc, hd8, h8i]
     exact hn w2 rfl S4.drop
end
set_option maxRecDepth 100000
open Go.Eng Go.Proofs.YtfnhoaemapheoaaGreat.Sint
def acu (qs : List Prt) : Int := Lg.next ⟨0, qs⟩
def tg : List Int → Dk → List Prt → (Dk × Option (List Prt)) × Int
 | [], D, qs => ((D, some qs), 0)
 | k :: ks, D, qs => if (my D k ks.isEmpty).2 ≠ 0 then (((my D k ks.isEmpty).1.1, none), (my D k ks.isEmpty).2) else match (my D k ks.isEmpty).1.2 with
  | none => tg ks (my D k ks.isEmpty).1.1 qs
  | some q => if qs ≠ [] ∧ q.first ≠ acu qs then (((my D k ks.isEmpty).1.1, none), 6) else tg ks (my D k ks.isEmpty).1.1 (qs ++ [q])
def yb (D : Dk) (gg : Int) : (Dk × Option (List Prt)) × Int := if gg < 64 ∨ 1048576 < gg then ((D, none), 1) else if D.gh then ((D, none), 10) else tg (xa D.gr) D []
theorem aqc : ∀ (n : Nat) (l : List Int), l.Nodup → (∀ x ∈ l, 0 ≤ x ∧ x < n) → l.length ≤ n
 | 0, l, _, h => by
  cases l with
  | nil => simp
  | cons x l => have := h x (by simp); omega
 | n + 1, l, hn, h => by
  have := aqc n (l.erase (n : Int)) (hn.erase _) (fun x hx => by
   have h1 := h x (List.mem_of_mem_erase hx)
   have h2 : x ≠ (n : Int) := fun he => by
    subst he
    exact (List.Nodup.not_mem_erase hn) hx
   omega)
  rw [List.length_erase] at this
  split at this <;> omega
theorem ais (ns : List Int) : ∀ f i, i ≤ ns.length → (uy ns f i).length = ns.length
 | 0, _, _ => rfl
 | f + 1, i, hi => by
  rw [uy]
  split
  ·rfl
  ·split
   ·simp; omega
   ·rename_i h _
    exact ais ns f (i + 1) (by
     rw [List.getElem?_eq_some_iff] at h
     exact h.1)
theorem ati (ns : List Int) : (xa ns).length = ns.length := ais ns _ 0 (Nat.zero_le _)
section
variable {w0 w : World} {R : List Asn} {p hb : Nat} {v : Value} {ps : List Nat} {L : Lg} {q : Prt} {D : Dk} {gg : Int}
theorem avl (S : St w0 w (fy hb D :: R)) : (∀ n ∈ D.gr, 0 ≤ n ∧ n < 64) ∧ D.gr.length ≤ 64 ∧ D.gr.Nodup := by
 obtain ⟨r, m, es, hk, _⟩ := xk S
 have hp : D.gr.Perm D.nr := mf _
 have hkk := hk.nr
 have h1 : ∀ n ∈ D.gr, 0 ≤ n ∧ n < 64 := fun n hn => by
  have := hp.mem_iff.1 hn
  rw [hkk, List.mem_map] at this
  obtain ⟨e, he, rfl⟩ := this
  exact hk.rng e he
 have h2 : D.gr.Nodup := hp.nodup_iff.2 (by rw [hkk]; exact hk.tn)
 exact ⟨h1, aqc 64 _ h2 h1, h2⟩
def opL (p hb : Nat) (gg : Int) (v : Value) (ps : List Nat) (qs : List Prt) (D : Dk) (ov : Value) (ns : List Int) (R : List Asn) : List Asn := fq p (mi hb gg v) T.ac :: fy hb D :: Eng.je T.ab 1 nc v ps :: rg ln ps qs :: pn ov ns :: R
def OpI (w0 : World) (p hb : Nat) (gg : Int) (ov : Value) (ns : List Int) (D0 : Dk) (R : List Asn) : KL := fun y w1 => ∃ (u0 u1 u2 u3 u4 u5 u6 u7 u8 v : Value) (ps : List Nat) (qs : List Prt) (D : Dk) (i : Nat), y = [u0, u1, u2, u3, u4, u5, u6, u7, u8, .int .i64 (i : Nat)] ∧ i ≤ ns.length ∧ ps.length = qs.length ∧ qs.length ≤ i ∧ tg ns D0 [] = tg (ns.drop i) D qs ∧ St w0 w1 (opL p hb gg v ps qs D ov ns R)
theorem bfg (S : St w0 w (fy hb D :: R)) (hmx : gg < 9223372036854775808) {K : KV}
  (hn : ∀ w', (yb D gg).1.2 = none → St w0 w' (fy hb (yb D gg).1.1 :: R) → K (.tuple #[.pointer none, .int .i64 (yb D gg).2]) w')
  (hs : ∀ w' p qs, yb D gg = (((yb D gg).1.1, some qs), 0) → St w0 w' (kr p hb ⟨gg, qs⟩ :: fy hb (yb D gg).1.1 :: R) → K (.tuple #[iz p, .int .i64 0]) w') :
  ey P F.ee [.pointer (some ⟨hb, 0, none⟩), .int .i64 gg] w K := by
 rw [M.cb.fcall]
 apply M.cb.calls
 unfold M.cb
 unfold yb at hn hs
 by_cases h1 : gg < 64 ∨ 1048576 < gg
 ·rw [if_pos h1] at hn
  by_cases h2 : gg < 64
  ·simp [h2]
   exact hn w rfl S
  ·have h3 : 1048576 < gg := by omega
   simp [h2, h3]
   exact hn w rfl S
 ·rw [if_neg h1] at hn hs
  have h2 : ¬ gg < 64 := by omega
  have h3 : ¬ 1048576 < gg := by omega
  simp [h2, h3]
  refine ako S ?_
  cases hd : D.gh with
  | true =>
   rw [hd] at hn
   simp
   exact hn w rfl S
  | false =>
   rw [hd] at hn hs
   simp only [Bool.false_eq_true, if_false] at hn hs
   simp
   unfold M.cb.j0
   simp
   have S1 : St w0 (w.alloc (.cells (mi hb gg (.slice none 0 0)) T.ac)) (fq w.heap.size (mi hb gg (.slice none 0 0)) T.ac :: fy hb D :: R) := acr S _ _
   generalize w.heap.size = p at *
   simp only [mi] at S1
   generalize w.alloc (.cells #[.pointer (some ⟨hb, 0, none⟩), .int .i64 gg, .slice none 0 0] T.ac) = w1 at *
   obtain ⟨fr1, fr2, _⟩ := avl S1.swap
   refine bah S1.swap fun w2 v2 S2 => ?_
   refine azk S2 (by omega) fr1 fun w3 v3 S3 => ?_
   have hol := ati D.gr
   generalize xa D.gr = ns at *
   rw [amz]
   have hlen : ∀ {w1 : World} {R' : List Asn}, St w0 w1 (pn v3 ns :: R') → ∀ w' K, biT P .len #[T.g] T.b [false] [v3] w' K = K (.int .i64 ns.length) w' := fun S w' K => (S.row lq : SlI _ v3 ns).ii (by kernel_rfl) [false]
   simp [hlen S3]
   have S4 : St w0 w3 (opL p hb gg (.slice none 0 0) [] [] D v3 ns R) := by
    have T1 : St w0 w3 (pn v3 ns :: fy hb D :: fq p (mi hb gg (.slice none 0 0)) T.ac :: R) := S3
    have T2 := ary (e := T.ab) (sz := 1) (enc := nc) (bcs (f := ln) T1)
    exact (St.up4 (St.up4 T2)).swap
   refine ⟨OpI w0 p hb gg v3 ns D R, fun y _ => ns.length - ms y 9, ⟨_, _, _, _, _, _, _, _, _, _, [], [], D, 0, rfl, Nat.zero_le _, rfl, Nat.le_refl _, rfl, S4⟩, ?_⟩
   rintro y w4 ⟨u0, u1, u2, u3, u4, u5, u6, u7, u8, v, ps, qs, D', i, rfl, hi, hl, hqi, ho, S5⟩
   unfold M.cb.j2
   by_cases hlt : i < ns.length
   ·have hlti : (i : Int) < (ns.length : Int) := by omega
    simp [hlti]
    unfold M.cb.j3
    unfold opL at S5
    have hsI : SlI w4 v3 ns := S5.up4.row lq
    obtain ⟨b, o, cap, hv, _, _, hc⟩ := hsI.at hlt
    have c0 := hc 0 _ rfl
    simp only [Nat.mul_one, Nat.add_zero] at c0
    have hia : ∀ w' K, iaT P T.g v3 (.int .i64 (i : Nat)) w' K = K (.pointer (some ⟨b, o + i, none⟩)) w' := fun w' K => by rw [hv]; simp [hlt]
    have hw1 : IntKind.i64.wrap ((ns.length : Int) - 1) = ((ns.length - 1 : Nat) : Int) := by rw [fj (by omega) (by omega)]; omega
    simp [hia, c0, hlen S5.up4, hw1]
    have hlast : decide ((i : Int) = ((ns.length - 1 : Nat) : Int)) = (ns.drop (i + 1)).isEmpty := by
     rw [Bool.eq_iff_iff, decide_eq_true_eq, List.isEmpty_iff, List.drop_eq_nil_iff]
     omega
    rw [hlast]
    have hcall : ∀ x y w K, ku P (.func (.func F.bw) #[.pointer (some ⟨p, 0, none⟩)] #[]) [x, y] w K = ey P F.bw [iz p, x, y] w K := fun x y w K => by
     rw [M.ay.fcall]
     exact M.ay.rcall [iz p] [] [x, y] w K
    rw [hcall]
    rw [List.drop_eq_getElem_cons hlt, tg] at ho
    generalize ns[i] = k at *
    generalize (ns.drop (i + 1)).isEmpty = jl at *
    have hw : IntKind.i64.wrap ((i : Int) + 1) = ((i + 1 : Nat) : Int) := by rw [fj (by omega) (by omega)]; omega
    refine bco (L := ⟨gg, []⟩) S5 k jl (fun w5 hnone S6 => ?_) fun w5 np q hsome S6 => ?_
    ·by_cases hk : (my D' k jl).2 = 0
     ·rw [if_neg (by simpa using hk), hnone] at ho
      rw [hk]
      simp
      rw [hw]
      refine ⟨⟨_, _, _, _, _, _, _, _, _, v, ps, qs, _, i + 1, rfl, hlt, hl, by omega, ho, S6⟩, ?_⟩
      simp [ms, gv]; omega
     ·rw [if_pos hk] at ho
      simp [hk]
      rw [ho] at hn
      exact hn w5 rfl (St.drop S6 |>.swap.drop.swap.drop.swap.drop)
    ·rw [hsome] at ho
     simp only [ne_eq, not_true_eq_false, if_false] at ho
     simp only [iz]
     simp
     have T1 := S6.iq ((Fr.refl _ w5).dr 1)
     obtain ⟨e0, e1, e2, ez⟩ := nh T1.swap.blk
     have hlen2 := fun w' K => abe T1.up3 w' K
     have e2' : fi w5 p 2 = some v := by simpa using e2
     obtain ⟨rv, T2⟩ := xo T1
     obtain ⟨d0, d1, _⟩ := jw T2.blk
     have d1' : fi w5 np 1 = some (.int .i64 q.first) := by simpa using d1
     simp [e2', hlen2, d1']
     have T3 : St w0 (dr w5 1) (fq p (mi hb gg v) T.ac :: Eng.je T.ab 1 nc v ps :: rg ln ps qs :: ln np q :: fy hb (my D' k jl).1.1 :: pn v3 ns :: R) := St.up3 (St.up4 (St.up4 T1))
     have hpush : ∀ {w6 : World} {x5 : List Value}, St w0 w6 (fq p (mi hb gg v) T.ac :: Eng.je T.ab 1 nc v ps :: rg ln ps qs :: ln np q :: fy hb (my D' k jl).1.1 :: pn v3 ns :: R) → tg ns D [] = tg (ns.drop (i + 1)) (my D' k jl).1.1 (qs ++ [q]) → M.cb.j5 (.pointer (some ⟨p, 0, none⟩)) (.pointer (some ⟨np, 0, none⟩)) (fun x4 w => OpI w0 p hb gg v3 ns D R [gv x4 0, gv x4 1, gv x4 2, gv x4 3, gv x4 4, gv x4 5, gv x4 6, gv x4 7, gv x4 8, .int .i64 (IntKind.i64.wrap ((i : Int) + 1))] w ∧ ns.length - ms [gv x4 0, gv x4 1, gv x4 2, gv x4 3, gv x4 4, gv x4 5, gv x4 6, gv x4 7, gv x4 8, .int .i64 (IntKind.i64.wrap ((i : Int) + 1))] 9 < ns.length - ms [u0, u1, u2, u3, u4, u5, u6, u7, u8, .int .i64 (i : Nat)] 9) [u0, u1, u2, u3, u4, u5, u6, u7, u8, .int .i64 (i : Nat)] (.int .i64 k) (.int .i64 0) x5 w6 K := by
      intro w6 x5 T4 ho2
      unfold M.cb.j5
      simp
      refine alo (L := ⟨gg, qs⟩) hl (show qs.length ≤ 1000000 by omega) T4.up3 fun w7 T5 => ?_
      obtain ⟨v', ps', hl', T6⟩ := amp T5
      rw [hw]
      refine ⟨⟨_, _, _, _, _, _, _, _, _, v', ps', qs ++ [q], _, i + 1, rfl, hlt, hl', by simp; omega, ho2, T6.up3.swap⟩, ?_⟩
      simp [ms, gv]; omega
     by_cases h0 : 0 < ps.length
     ·have hqne : qs ≠ [] := fun h => by rw [hl, h] at h0; exact absurd h0 (by simp)
      simp [h0, d1']
      refine anz (L := ⟨gg, qs⟩) hl T3 (by rw [hl]; omega) fun w6 f6 => ?_
      have T4 := T3.iq f6
      obtain ⟨rv6, T5⟩ := xo T4.up3
      obtain ⟨_, g1, _⟩ := jw T5.blk
      have hnx : Lg.next ⟨gg, qs⟩ = acu qs := rfl
      simp [g1, hnx]
      by_cases hq : q.first = acu qs
      ·rw [if_neg (fun hx => hx.2 hq)] at ho
       simp [hq]
       exact hpush T4 ho
      ·rw [if_pos ⟨hqne, hq⟩] at ho
       rw [ho] at hn
       simp [hq]
       exact hn w6 rfl (T4.drop.drop.drop.drop.swap.drop)
     ·have hqe : qs = [] := List.length_eq_zero_iff.1 (by omega)
      rw [if_neg (fun hx => hx.1 hqe)] at ho
      simp [h0]
      exact hpush T3 ho
   ·have hge : ¬ (i : Int) < (ns.length : Int) := by omega
    rw [List.drop_of_length_le (by omega)] at ho
    simp [hge]
    rw [ho] at hs
    exact hs w4 p qs rfl (ye (L := ⟨gg, qs⟩) hl (St.swap (St.drop (St.up4 S5))).dn3)
end
set_option maxRecDepth 100000
open Go.Eng Go.Proofs.YtfnhoaemapheoaaGreat.Sint
section
variable {D : Dk} {A B : List Fil} {f : Fil}
theorem zx (h : D.fs = A ++ f :: B) (hA : ∀ x ∈ A, x.n ≠ f.n) : D.get f.n = some f := by
 unfold Dk.get
 rw [h, List.find?_append, List.find?_eq_none.2 (fun x hx => by simp [hA x hx])]
 simp
theorem bet {k : Int} (h : ∀ x ∈ D.fs, x.n ≠ k) : D.get k = none := by
 unfold Dk.get
 exact List.find?_eq_none.2 fun x hx => by simp [h x hx]
theorem aqd {k : Int} {fa lo : List Int} {A : List Fil} (hA : ∀ x ∈ A, x.n ≠ k) : A.map (fun f => if f.n = k then (⟨k, fa, lo⟩ : Fil) else f) = A := by
 conv => rhs; rw [← List.map_id A]
 exact List.map_congr_left fun x hx => by rw [if_neg (hA x hx)]; rfl
theorem wq (h : D.fs = A ++ f :: B) (hA : ∀ x ∈ A, x.n ≠ f.n) (hB : ∀ x ∈ B, x.n ≠ f.n) (fa lo : List Int) : (D.lh f.n fa lo).fs = A ++ ⟨f.n, fa, lo⟩ :: B := by
 show D.fs.map (fun g => if g.n = f.n then (⟨f.n, fa, lo⟩ : Fil) else g) = _
 rw [h, List.map_append, List.map_cons, aqd hA, aqd hB, if_pos rfl]
theorem bca (h : D.fs = A ++ f :: B) (hA : ∀ x ∈ A, x.n ≠ f.n) (hB : ∀ x ∈ B, x.n ≠ f.n) : (D.rem f.n).fs = A ++ B := by
 show D.fs.filter (fun g => decide (g.n ≠ f.n)) = _
 rw [h, List.filter_append, List.filter_cons, if_neg (by simp), List.filter_eq_self.2 (fun x hx => by simpa using hA x hx), List.filter_eq_self.2 (fun x hx => by simpa using hB x hx)]
def CrS (A : List Fil) (n : Int) (fa lo : List Int) (D D' : Dk) (v : Prop) : Prop := D'.gq = D.gq ∧ ∃ fa' lo', D'.fs = A ++ [⟨n, fa', lo'⟩] ∧ ((fa' = fa ∧ lo' = lo) ∨ (lo' = [] ∧ ∃ s, fa' = fa ++ lo.take s)) ∧ (v → lo' = [])
theorem atu {n : Int} {fa lo : List Int} (h : D.fs = A ++ [⟨n, fa, lo⟩]) (hA : ∀ x ∈ A, x.n ≠ n) (hl : ∀ x ∈ A, x.gu = []) (hd : (D.fs.map Fil.n).Nodup) (kl : List Int) :
  ∃ s, (D.jx kl).gq = D.gq ∧ (D.jx kl).gh = false ∧ (D.jx kl).ie = false ∧ (D.jx kl).fs = A ++ [⟨n, fa ++ lo.take s, []⟩] := by
 have key : ∀ i, i ≤ D.gr.length → CrS A n fa lo D (crN kl D D.gr i) (n ∈ D.gr.take i) := by
  intro i
  induction i with
  | zero => exact fun _ => ⟨rfl, fa, lo, h, .inl ⟨rfl, rfl⟩, fun h => by simp at h⟩
  | succ i ih =>
   intro hi
   obtain ⟨hr, fa', lo', h1, h2, h3⟩ := ih (by omega)
   have hlt : i < D.gr.length := by omega
   have hk : D.gr.getD i 0 = D.gr[i] := by rw [List.getD_eq_getElem?_getD, List.getElem?_eq_getElem hlt]; rfl
   rw [crN, hk, List.take_succ_eq_append_getElem hlt]
   generalize crN kl D D.gr i = E at *
   generalize D.gr[i] = k at *
   have hAE : ∀ x ∈ A, x.n ≠ (⟨n, fa', lo'⟩ : Fil).n := hA
   unfold aay
   by_cases hkn : k = n
   ·subst hkn
    have hg := zx h1 hAE
    have hs := wq h1 hAE (by simp) (fa' ++ lo'.take (vq kl i lo'.length)) []
    simp only at hg hs
    rw [hg]
    refine ⟨hr, _, _, hs, .inr ⟨rfl, ?_⟩, fun _ => rfl⟩
    rcases h2 with ⟨rfl, rfl⟩ | ⟨rfl, s, rfl⟩
    ·exact ⟨_, rfl⟩
    ·exact ⟨s, by simp⟩
   ·have hmem : (n ∈ D.gr.take i ++ [k]) ↔ n ∈ D.gr.take i := by
     rw [List.mem_append, List.mem_singleton]
     exact ⟨fun h => h.elim id fun h => absurd h.symm hkn, .inl⟩
    rw [hmem]
    cases hg : E.get k with
    | none => exact ⟨hr, fa', lo', h1, h2, h3⟩
    | some g =>
     have hgm : g ∈ E.fs := List.mem_of_find?_eq_some hg
     have hgn : g.n = k := by simpa using List.find?_some hg
     rw [h1, List.mem_append, List.mem_singleton] at hgm
     rcases hgm with hgA | rfl
     ·obtain ⟨a1, a2, hsp⟩ := List.append_of_mem hgA
      have hgl := hl g hgA
      have hnd : (A.map Fil.n).Nodup := by rw [h, List.map_append] at hd; exact (List.nodup_append.1 hd).1
      rw [hsp, List.map_append, List.map_cons, List.nodup_append, List.nodup_cons] at hnd
      have h1' : E.fs = a1 ++ g :: (a2 ++ [⟨n, fa', lo'⟩]) := by rw [h1, hsp]; simp
      have e := wq h1' (fun x hx he => hnd.2.2 _ (List.mem_map_of_mem hx) g.n (by simp) he) (fun x hx he => by
       rw [List.mem_append, List.mem_singleton] at hx
       rcases hx with hx | rfl
       ·exact hnd.2.1.1 (he ▸ List.mem_map_of_mem hx)
       ·exact hkn (hgn ▸ he.symm)) (g.iy ++ g.gu.take (vq kl i g.gu.length)) []
      refine ⟨hr, fa', lo', ?_, h2, h3⟩
      rw [← hgn]
      refine e.trans ?_
      rw [hgl, hsp]
      obtain ⟨gn, gf, gl⟩ := g
      simp only at hgl
      subst hgl
      simp
     ·exact absurd hgn (fun h => hkn h.symm)
 obtain ⟨hr, fa', lo', h1, h2, h3⟩ := key D.gr.length (Nat.le_refl _)
 have hmem : n ∈ D.gr.take D.gr.length := by
  rw [List.take_length]
  refine (mf _).mem_iff.2 ?_
  unfold Dk.nr
  rw [h]; simp
 have hlo := h3 hmem
 subst hlo
 rcases h2 with ⟨rfl, rfl⟩ | ⟨_, s, rfl⟩
 ·exact ⟨0, hr, rfl, rfl, by simpa [Dk.jx] using h1⟩
 ·exact ⟨s, hr, rfl, rfl, h1⟩
theorem aul (h : D.fs = []) (kl : List Int) : (D.jx kl).gq = D.gq ∧ (D.jx kl).gh = false ∧ (D.jx kl).ie = false ∧ (D.jx kl).fs = [] := by
 have hf : D.gr = [] := by unfold Dk.gr Dk.nr; rw [h]; exact List.perm_nil.1 (mf [])
 unfold Dk.jx
 rw [hf]
 exact ⟨rfl, rfl, rfl, h⟩
end
def body (q : Prt) : List Int := kw q.first ++ cat q.ft
def jq (q : Prt) : Fil := ⟨q.no, body q, []⟩
def xp (n : Int) : List Int := kb (IntKind.u64.wrap n)
theorem aox (q : Prt) : body q = cat (xp q.first :: q.ft) := by unfold body kw cat xp; simp
theorem adp (a b : List (List Int)) : cat (a ++ b) = cat a ++ cat b := by unfold cat; simp
theorem akj (d : List Int) : cat [d] = gt d := by unfold cat; simp
theorem ajm : ∀ {ds : List (List Int)} {c r : List Int}, (∀ d ∈ ds, d.length ≤ 8192) → c ++ r = cat ds → ∃ j p, j ≤ ds.length ∧ c = cat (ds.take j) ++ p ∧ afi p ∧ (j = ds.length → p = []) ∧ ∀ h : j < ds.length, p.length < (gt ds[j]).length
 | [], c, r, _, he => by
  have : c = [] := by
   have := congrArg List.length he
   simp [cat] at this
   exact this.1
  subst this
  exact ⟨0, [], Nat.le_refl _, by simp [cat], anx, fun _ => rfl, fun h => by simp at h⟩
 | d :: ds, c, r, hd, he => by
  have e0 : cat (d :: ds) = gt d ++ cat ds := by simp [cat]
  rw [e0] at he
  by_cases hc : c.length < (gt d).length
  ·refine ⟨0, c, Nat.zero_le _, by simp [cat], ⟨d, c.length, hd d (by simp), hc, ?_⟩, fun h => by simp at h, fun _ => by simpa using hc⟩
   have := congrArg (List.take c.length) he
   rw [List.take_left' rfl, List.take_append, Nat.sub_eq_zero_of_le (by omega)] at this
   simpa using this
  ·obtain ⟨c', rfl⟩ : ∃ c', c = gt d ++ c' := by
    refine ⟨c.drop (gt d).length, ?_⟩
    have := congrArg (List.take (gt d).length) he
    rw [List.take_left' rfl, List.take_append, Nat.sub_eq_zero_of_le (by omega)] at this
    simp at this
    conv => lhs; rw [← List.take_append_drop (gt d).length c, this]
   rw [List.append_assoc] at he
   obtain ⟨j, p, h1, h2, h3, h4, h5⟩ := ajm (fun x hx => hd x (by simp [hx])) (List.append_cancel_left he)
   refine ⟨j + 1, p, by simp; omega, ?_, h3, fun h => h4 (by simpa using h), fun h => by simpa using h5 (by simpa using h)⟩
   rw [List.take_succ_cons]
   have : cat (d :: ds.take j) = gt d ++ cat (ds.take j) := by simp [cat]
   rw [this, h2, List.append_assoc]
theorem app {ds : List (List Int)} {i j : Nat} (h : i ≤ j) : (cat (ds.take i)).length ≤ (cat (ds.take j)).length := by
 have : ds.take i = (ds.take j).take i := by rw [List.take_take, Nat.min_eq_left h]
 rw [this]
 conv => rhs; rw [← List.take_append_drop i (ds.take j), adp]
 simp
set_option maxRecDepth 100000
open Go.Eng Go.Proofs.YtfnhoaemapheoaaGreat.Sint
def ge (Q : List Prt) : List (List Int) := Q.flatMap Prt.ft
theorem kq (a b : List Prt) : ge (a ++ b) = ge a ++ ge b := by unfold ge; simp
theorem qn (q : Prt) : ge [q] = q.ft := by unfold ge; simp
def Chn : Int → Int → List Prt → Prop
 | _, _, [] => True
 | s, f, q :: r => q.no = s ∧ q.first = f ∧ (∀ d ∈ q.ft, d.length ≤ 8192) ∧ Chn ((s + 1) % 64) (f + q.ft.length) r
theorem oy {A B : List Prt} : ∀ {s f : Int}, 0 ≤ s ∧ s < 64 → (Chn s f (A ++ B) ↔ Chn s f A ∧ Chn ((s + A.length) % 64) (f + (ge A).length) B) := by
 induction A with
 | nil =>
  intro s f hs
  have : (s + (([] : List Prt).length : Int)) % 64 = s := by simp; omega
  rw [this]
  simp [Chn, ge]
 | cons q r ih =>
  intro s f hs
  have h1 := ih (s := (s + 1) % 64) (f := f + q.ft.length) (by omega)
  have e1 : ((s + 1) % 64 + (r.length : Int)) % 64 = (s + ((q :: r).length : Int)) % 64 := by simp; omega
  have e2 : f + (q.ft.length : Int) + ((ge r).length : Int) = f + ((ge (q :: r)).length : Int) := by unfold ge; simp; omega
  rw [e1, e2] at h1
  rw [List.cons_append, Chn, Chn, h1]
  constructor
  ·rintro ⟨a, b, c, d, e⟩; exact ⟨⟨a, b, c, d⟩, e⟩
  ·rintro ⟨⟨a, b, c, d⟩, e⟩; exact ⟨a, b, c, d, e⟩
theorem agd : ∀ {Q : List Prt} {s f : Int}, 0 ≤ s ∧ s < 64 → Chn s f Q → ∀ i (h : i < Q.length), Q[i].no = (s + i) % 64
 | q :: r, s, f, hs, h, 0, hi => by have h1 : q.no = s := h.1; simp [h1]; omega
 | q :: r, s, f, hs, h, i + 1, hi => by
  have := agd (s := (s + 1) % 64) (by omega) h.2.2.2 i (by simpa using hi)
  simp only [List.getElem_cons_succ]
  rw [this]; push_cast; omega
theorem amd {Q : List Prt} {s f : Int} (hs : 0 ≤ s ∧ s < 64) (h : Chn s f Q) (hl : Q.length ≤ 64) : (Q.map Prt.no).Nodup := by
 rw [List.nodup_iff_pairwise_ne, List.pairwise_iff_getElem]
 intro i j hi hj hij
 simp only [List.length_map] at hi hj
 rw [List.getElem_map, List.getElem_map, agd hs h i hi, agd hs h j hj]
 omega
theorem aro {Q : List Prt} {s f : Int} (hs : 0 ≤ s ∧ s < 64) (h : Chn s f Q) : ∀ q ∈ Q, 0 ≤ q.no ∧ q.no < 64 := fun q hq => by
 obtain ⟨i, hi, rfl⟩ := List.getElem_of_mem hq
 rw [agd hs h i hi]; omega
def Dsc (Q : List Prt) (F : Nat) (D : Dk) (w : Prop) : Prop := (Q = [] ∧ D.fs = [] ∧ F = 0) ∨ ∃ Q0 q fa lo m, Q = Q0 ++ [q] ∧ D.fs = Q0.map jq ++ [⟨q.no, fa, lo⟩] ∧ (fa ++ lo) <+: body q ∧ (w → fa ++ lo = body q) ∧ m ≤ q.ft.length ∧ F ≤ (ge Q0).length + m ∧ (m = 0 ∨ kw q.first ++ cat (q.ft.take m) <+: fa)
structure Vir (s f : Int) (Q : List Prt) (F : Nat) (D : Dk) (w : Prop) : Prop where
 chn : Chn s f Q
 s0 : 0 ≤ s ∧ s < 64
 f0 : 0 ≤ f
 len : Q.length ≤ 63
 few : f + (ge Q).length ≤ 1000000000000
 dsc : Dsc Q F D w
 nil : Q = [] → s = 0 ∧ f = 0
 siz : ∀ q ∈ Q, q.size = (body q).length
structure oh (s f : Int) (L : Lg) (F : Nat) (D : Dk) : Prop where
 vir : Vir s f L.fl F D True
 size : ∀ q ∈ L.fl, q.size = (body q).length
 up : D.gh = false
section
variable {s f : Int} {Q Q0 : List Prt} {q : Prt} {F : Nat} {D : Dk} {w : Prop} {fa lo : List Int} {L : Lg} {b : List Int}
theorem bfc (Q : List Prt) : (Q.map jq).map Fil.n = Q.map Prt.no := by rw [List.map_map]; rfl
theorem ro (hs : 0 ≤ s ∧ s < 64) (h : Chn s f (Q0 ++ [q])) (hl : (Q0 ++ [q]).length ≤ 64) : ∀ x ∈ Q0.map jq, x.n ≠ q.no := fun x hx he => by
 have hn := amd hs h hl
 rw [List.map_append, List.nodup_append] at hn
 obtain ⟨p, hp, rfl⟩ := List.mem_map.1 hx
 exact hn.2.2 p.no (List.mem_map_of_mem hp) q.no (by simp) he
theorem amm (h : Vir s f L.fl F D True) (hd : D.gh = false) : (L.lf D).2 = 0 ∧ Vir s f L.fl (ge L.fl).length (L.lf D).1 True ∧ (L.lf D).1.gh = false ∧ (L.lf D).1.ie = D.ie ∧ (L.lf D).1.left = D.left ∧ (L.lf D).1.gq = D.gq ∧ (L.lf D).1.gk = D.gk := by
 unfold Lg.lf
 rw [hd]
 simp only [Bool.false_eq_true, if_false]
 rcases h.dsc with ⟨hq, hf, rfl⟩ | ⟨Q0, q, fa, lo, m, hq, hf, hp, hw, hm, hF, hy⟩
 ·rw [hq]
  simp only [List.getLast?_nil]
  exact ⟨by trivial, ⟨by rw [hq] at h; exact h.chn, h.s0, h.f0, by simp, by have := h.few; rw [hq] at this; exact this, .inl ⟨rfl, hf, rfl⟩, fun _ => h.nil hq, fun q hx => by simp at hx⟩, hd, by trivial, by trivial, by trivial, by trivial⟩
 ·rw [hq, List.getLast?_concat]
  have hA := ro h.s0 (hq ▸ h.chn) (by have := h.len; rw [hq] at this; omega)
  have hg : D.get q.no = some ⟨q.no, fa, lo⟩ := zx hf hA
  have hs := wq hf hA (by simp) (fa ++ lo) []
  simp only at hs
  have e : D.lf q.no = (D.lh q.no (fa ++ lo) [], 0) := by unfold Dk.lf; rw [hd, hg]; rfl
  simp only [e]
  rw [hw trivial] at hs ⊢
  refine ⟨by trivial, ⟨hq ▸ h.chn, h.s0, h.f0, hq ▸ h.len, hq ▸ h.few, .inr ⟨Q0, q, _, [], q.ft.length, rfl, hs, by simp, fun _ => by simp, Nat.le_refl _, by rw [kq, qn]; simp, .inr ?_⟩, fun h => by simp at h, hq ▸ h.siz⟩, hd, rfl, rfl, rfl, ?_⟩
  ·rw [List.take_length]; exact List.prefix_rfl
  ·unfold Dk.gk
   rw [hs, hf, ← hw trivial]
   simp [Fil.len]
theorem awy (h : Vir s f Q F D w) (kl : List Int) : Vir s f Q F (D.jx kl) False ∧ (D.jx kl).gh = false ∧ (D.jx kl).ie = false ∧ (D.jx kl).gq = D.gq := by
 rcases h.dsc with ⟨hq, hf, rfl⟩ | ⟨Q0, q, fa, lo, m, hq, hf, hp, hw, hm, hF, hy⟩
 ·obtain ⟨h1, h2, h3, h4⟩ := aul hf kl
  exact ⟨⟨h.chn, h.s0, h.f0, h.len, h.few, .inl ⟨hq, h4, rfl⟩, h.nil, h.siz⟩, h2, h3, h1⟩
 ·have hA := ro h.s0 (hq ▸ h.chn) (by have := h.len; rw [hq] at this; omega)
  have hnd : (D.fs.map Fil.n).Nodup := by
   rw [hf, List.map_append, bfc]
   have := amd h.s0 h.chn (by have := h.len; omega)
   rw [hq, List.map_append] at this
   exact this
  obtain ⟨k, h1, h2, h3, h4⟩ := atu hf hA (fun x hx => by obtain ⟨p, _, rfl⟩ := List.mem_map.1 hx; rfl) hnd kl
  refine ⟨⟨h.chn, h.s0, h.f0, h.len, h.few, .inr ⟨Q0, q, _, [], m, hq, h4, ?_, fun h => h.elim, hm, hF, ?_⟩, h.nil, h.siz⟩, h2, h3, h1⟩
  ·rw [List.append_nil]
   refine List.IsPrefix.trans ?_ hp
   exact (List.prefix_append_right_inj fa).2 (List.take_prefix _ _)
  ·exact hy.imp id fun h => h.trans (List.prefix_append _ _)
end
set_option maxRecDepth 100000
open Go.Eng Go.Proofs.YtfnhoaemapheoaaGreat.Sint
def Apd (D : Dk) (l : List Int) (fs : List Int → List Fil) (r : Dk × Int) : Prop := (r = (D, 9) ∧ D.gq < D.gk + l.length) ∨ ∃ E t, r = (E, if E.gh then 10 else 0) ∧ E.fs = fs t ∧ t <+: l ∧ (E.gh = false → t = l) ∧ E.gq = D.gq ∧ (D.ie = false → E.gh = false ∧ E.ie = false)
section
variable {s f : Int} {Q Q0 : List Prt} {q : Prt} {F : Nat} {D : Dk} {w : Prop} {fa lo : List Int} {L : Lg} {b l : List Int} {A : List Fil} {k : Int}
theorem ayq (D : Dk) (l : List Int) : (D.after l).fs = D.fs := by unfold Dk.after; split <;> rfl
theorem auk (D : Dk) (l : List Int) : (D.after l).gq = D.gq := by unfold Dk.after; split <;> rfl
theorem aqr (D : Dk) (l : List Int) : (D.after l).ie = D.ie := by unfold Dk.after; split <;> rfl
theorem aos (D : Dk) (l : List Int) : D.mr l <+: l := by
 unfold Dk.mr
 split
 ·exact List.take_prefix _ _
 ·exact List.prefix_rfl
theorem axe (hd : D.gh = false) (h : (D.after l).gh = false) : D.mr l = l := by
 unfold Dk.mr
 unfold Dk.after at h
 by_cases ha : D.ie = true
 ·rw [if_pos ha] at h ⊢
  simp only [decide_eq_false_iff_not] at h
  exact List.take_of_length_le (by omega)
 ·rw [if_neg ha]
theorem aun (hd : D.gh = false) (h : D.ie = false) : (D.after l).gh = false := by
 unfold Dk.after
 rw [h]
 simpa using hd
theorem ase {fs : List Int → List Fil} (hd : D.gh = false) (hk : 0 ≤ k ∧ k < 64) (hp : ∃ E0 : Dk, D.put k l = E0.after l ∧ E0.fs = fs (D.mr l) ∧ E0.gq = D.gq ∧ E0.gh = D.gh ∧ E0.ie = D.ie ∧ E0.left = D.left) : Apd D l fs (D.append k l) := by
 unfold Dk.append
 rw [hd, if_neg (by simp), if_neg (by omega)]
 by_cases hr : D.gq < D.gk + l.length
 ·rw [if_pos hr]; exact .inl ⟨rfl, hr⟩
 ·rw [if_neg hr]
  obtain ⟨E0, h1, h2, h3, h4, h5, h6⟩ := hp
  have ht : E0.mr l = D.mr l := by unfold Dk.mr; rw [h5, h6]
  refine .inr ⟨_, D.mr l, rfl, by rw [h1, ayq, h2], aos _ _, fun h => ?_, by rw [h1, auk, h3], fun h => ?_⟩
  ·rw [← ht]
   exact axe (h4.trans hd) (by rw [← h1]; exact h)
  ·rw [h1]
   exact ⟨aun (h4.trans hd) (h5.trans h), (aqr _ _).trans (h5.trans h)⟩
theorem bcn (hd : D.gh = false) (hk : 0 ≤ k ∧ k < 64) (hA : ∀ x ∈ D.fs, x.n ≠ k) : Apd D l (fun t => D.fs ++ [⟨k, [], t⟩]) (D.append k l) := by
 refine ase hd hk ⟨(D.abq k).lh k [] (D.mr l), ?_, ?_, rfl, rfl, rfl, rfl⟩
 ·unfold Dk.put; rw [bet hA]
 ·exact wq (D := D.abq k) (A := D.fs) (f := ⟨k, [], []⟩) (B := []) rfl hA (by simp) [] (D.mr l)
theorem bce (hd : D.gh = false) (hk : 0 ≤ k ∧ k < 64) (h : D.fs = A ++ [⟨k, fa, lo⟩]) (hA : ∀ x ∈ A, x.n ≠ k) : Apd D l (fun t => A ++ [⟨k, fa, lo ++ t⟩]) (D.append k l) := by
 refine ase hd hk ⟨D.lh k fa (lo ++ D.mr l), ?_, ?_, rfl, rfl, rfl, rfl⟩
 ·unfold Dk.put; rw [zx h hA]
 ·exact wq h hA (by simp) fa (lo ++ D.mr l)
inductive App (s f : Int) (L : Lg) (F : Nat) (D : Dk) (b : List Int) : (Lg × Dk) × Int → Prop where
 | ajc : 8192 < b.length → App s f L F D b ((L, D), 4)
 | sw (D' : Dk) : (63 ≤ L.fl.length ∨ D.gq < D.gk + (24 + b.length : Nat)) → oh s f L F D' → D'.gq = D.gq → D'.ie = D.ie → App s f L F D b ((L, D'), 9)
 | gh (D' : Dk) (Q : List Prt) : D.ie = true → D'.gh = true → Vir s f Q F D' False → ge Q = ge L.fl ++ [b] → D'.gq = D.gq → App s f L F D b ((L, D'), 10)
 | ok (L' : Lg) (D' : Dk) : oh s f L' F D' → ge L'.fl = ge L.fl ++ [b] → L'.fl.length ≤ L.fl.length + 1 → L'.fl ≠ [] → L'.gg = L.gg → D'.gq = D.gq → (D.ie = false → D'.ie = false) → D'.gk ≤ D.gk + (24 + b.length) → (∀ q, L.fl = [q] → q.size < L.gg → L'.fl.length = 1) → App s f L F D b ((L', D'), 0)
theorem afg (q : Prt) (b : List Int) : body (q.qh b) = body q ++ gt b := by
 unfold body Prt.qh
 rw [adp, akj, List.append_assoc]
theorem ayh (no n : Int) (b : List Int) (z : Int) : body ⟨no, n, [b], z⟩ = kw n ++ gt b := by unfold body; rw [akj]
theorem aeg (h : Chn s f (Q0 ++ [q])) (hs : 0 ≤ s ∧ s < 64) : q.no = (s + Q0.length) % 64 ∧ q.first = f + (ge Q0).length ∧ ∀ d ∈ q.ft, d.length ≤ 8192 := by
 obtain ⟨_, h2⟩ := (oy hs).1 h
 exact ⟨h2.1, h2.2.1, h2.2.2.1⟩
theorem apx (h : Chn s f L.fl) (hs : 0 ≤ s ∧ s < 64) (h0 : L.fl = [] → f = 0) (hf0 : 0 ≤ f) (hf : f + (ge L.fl).length ≤ 1000000000000) : L.next = f + (ge L.fl).length := by
 unfold Lg.next
 rcases List.eq_nil_or_concat L.fl with hq | ⟨Q0, q, hq⟩
 ·rw [hq]; simp [ge, h0 hq]
 ·rw [List.concat_eq_append] at hq
  rw [hq, List.getLast?_concat]
  rw [hq] at h hf
  obtain ⟨_, h2, _⟩ := aeg h hs
  rw [kq, qn] at hf ⊢
  simp only
  rw [h2, fj (by omega) (by simp at hf; omega)]
  simp; omega
theorem auu (h : Dsc Q F D w) : F ≤ (ge Q).length := by
 rcases h with ⟨_, _, rfl⟩ | ⟨Q0, q, fa, lo, m, rfl, _, _, _, hm, hF, _⟩
 ·exact Nat.zero_le _
 ·rw [kq, qn]; simp; omega
theorem ayw {F' : Nat} (h : Vir s f Q F D w) (hF : F' ≤ F) : Vir s f Q F' D w := by
 refine ⟨h.chn, h.s0, h.f0, h.len, h.few, ?_, h.nil, h.siz⟩
 rcases h.dsc with ⟨h1, h2, h3⟩ | ⟨Q0, q, fa, lo, m, h1, h2, h3, h4, h5, h6, h7⟩
 ·exact .inl ⟨h1, h2, by omega⟩
 ·exact .inr ⟨Q0, q, fa, lo, m, h1, h2, h3, h4, h5, by omega, h7⟩
theorem bev {D0 : Dk} (h : oh s f L F D) (hfs : D.fs = L.fl.map jq) (hlen : L.fl.length ≤ 62) (hfew : f + (ge L.fl).length + 1 ≤ 1000000000000) (hb : b.length ≤ 8192) (hm : ∀ q, L.fl = [q] → L.gg ≤ q.size) (hr : D.gq = D0.gq) (ha : D.ie = D0.ie) (hu : D.gk = D0.gk) {no : Int} (hno : no = (s + L.fl.length) % 64) : App s f L F D0 b (L.yk D b no) := by
 have hv := h.vir
 have hnx := apx hv.chn hv.s0 (fun h => (hv.nil h).2) hv.f0 hv.few
 unfold Lg.yk
 have hbl : (kw L.next ++ gt b).length = 24 + b.length := by rw [List.length_append, afp, lb]; omega
 generalize hq' : (⟨no, L.next, [b], ((kw L.next ++ gt b).length : Nat)⟩ : Prt) = q'
 have e1 : q'.no = no := by rw [← hq']
 have e2 : q'.first = L.next := by rw [← hq']
 have e3 : q'.ft = [b] := by rw [← hq']
 have e5 : body q' = kw L.next ++ gt b := by rw [← hq', ayh]
 have e4 : q'.size = (body q').length := by rw [e5, ← hq']
 rw [← e5] at hbl ⊢
 have hch : Chn s f (L.fl ++ [q']) := (oy hv.s0).2 ⟨hv.chn, by rw [e1, hno], by rw [e2, hnx], by rw [e3]; simpa using hb, trivial⟩
 have hA := ro hv.s0 hch (by simp; omega)
 rw [← hfs, e1] at hA
 have hall : ge (L.fl ++ [q']) = ge L.fl ++ [b] := by rw [kq, qn, e3]
 have hF := auu hv.dsc
 have hsz : ∀ x ∈ L.fl ++ [q'], x.size = (body x).length := fun x hx => by
  rcases List.mem_append.1 hx with hx | hx
  ·exact h.size x hx
  ·rw [List.mem_singleton.1 hx]; exact e4
 have hvir : ∀ {E : Dk} {t : List Int} {w : Prop}, E.fs = D.fs ++ [⟨no, [], t⟩] → t <+: body q' → (w → t = body q') → Vir s f (L.fl ++ [q']) F E w := fun {E t w} hE ht hw => ⟨hch, hv.s0, hv.f0, by simp; omega, by rw [hall]; simp; omega, .inr ⟨L.fl, q', [], t, 0, rfl, by rw [hE, hfs, e1], ht, hw, Nat.zero_le _, hF, .inl rfl⟩, fun h => by simp at h, hsz⟩
 rcases bcn (l := body q') h.up (by omega) hA with ⟨e, hx⟩ | ⟨E, t, e, hE, ht, htl, hrm, har⟩
 ·rw [e, if_neg (by simp)]
  refine App.sw D (.inr ?_) h hr ha
  rw [← hr, ← hu]
  omega
 ·rw [e]
  cases hd : E.gh with
  | true =>
   simp only [if_true]
   rw [if_neg (by simp)]
   refine App.gh E _ ?_ hd (hvir hE ht fun h => h.elim) hall (hrm.trans hr)
   rw [← ha]
   cases hda : D.ie with
   | true => rfl
   | false => rw [(har hda).1] at hd; cases hd
  | false =>
   simp only [Bool.false_eq_true, if_false, if_true]
   have htl' := htl hd
   have hg : oh s f { L with fl := L.fl ++ [q'] } F E := ⟨hvir hE ht fun _ => htl', hsz, hd⟩
   refine App.ok { L with fl := L.fl ++ [q'] } E hg hall (by simp) (by simp) rfl (hrm.trans hr) (fun hx => (har (ha.trans hx)).2) ?_ fun q hq hsz => absurd (hm q hq) (by omega)
   rw [← hu]
   unfold Dk.gk
   rw [hE, htl']
   simp [Fil.len]
   omega
theorem bde (h : oh s f L F D) (hq : L.fl = Q0 ++ [q]) : ∃ D1, D.lf q.no = (D1, 0) ∧ D1.fs = L.fl.map jq ∧ oh s f L F D1 ∧ D1.gq = D.gq ∧ D1.ie = D.ie ∧ D1.gk = D.gk := by
 have hv := h.vir
 obtain ⟨h1, h2, h3, h4, h5, h6, h7⟩ := amm hv h.up
 have e : L.lf D = D.lf q.no := by unfold Lg.lf; rw [h.up, hq, List.getLast?_concat]; rfl
 rw [e] at h1 h2 h3 h4 h5 h6 h7
 refine ⟨(D.lf q.no).1, by rw [← h1], ?_, ⟨ayw h2 (auu hv.dsc), h.size, h3⟩, h6, h4, h7⟩
 rcases hv.dsc with ⟨hx, _⟩ | ⟨Q1, q1, fa, lo, m, hq1, hf, _, hw, _⟩
 ·rw [hx] at hq; simp at hq
 ·obtain ⟨rfl, hqq⟩ := List.append_inj' (hq.symm.trans hq1) rfl
  cases hqq
  have hA := ro hv.s0 (hq ▸ hv.chn) (by have := hv.len; rw [hq] at this; omega)
  have hs := wq hf hA (by simp) (fa ++ lo) []
  have hg : D.get q.no = some ⟨q.no, fa, lo⟩ := zx hf hA
  have e2 : D.lf q.no = (D.lh q.no (fa ++ lo) [], 0) := by unfold Dk.lf; rw [h.up, hg]; rfl
  simp only at hs
  rw [e2, hs, hw trivial, hq]
  simp [jq]
theorem ayl (h : oh s f L F D) (hfew : f + (ge L.fl).length + 1 ≤ 1000000000000) : App s f L F D b (L.append D b) := by
 have hv := h.vir
 unfold Lg.append
 by_cases hb : 8192 < b.length
 ·rw [if_pos hb]; exact App.ajc hb
 ·rw [if_neg hb]
  rcases List.eq_nil_or_concat L.fl with hq | ⟨Q0, q, hq⟩
  ·have hsf := hv.nil hq
   have hfs : D.fs = L.fl.map jq := by
    rcases hv.dsc with ⟨_, hf, _⟩ | ⟨Q1, q1, fa, lo, m, hq1, _⟩
    ·rw [hf, hq]; rfl
    ·rw [hq] at hq1; simp at hq1
   rw [show L.fl.getLast? = none by rw [hq]; rfl]
   unfold Lg.yc
   rw [show L.fl.getLast? = none by rw [hq]; rfl]
   exact bev h hfs (by rw [hq]; simp) hfew (by omega) (fun q hx => by rw [hq] at hx; simp at hx) rfl rfl rfl (by rw [hq, hsf.1]; rfl)
  ·rw [List.concat_eq_append] at hq
   have hgl : L.fl.getLast? = some q := by rw [hq, List.getLast?_concat]
   rw [hgl]
   simp only
   obtain ⟨cn, cf, cr⟩ := aeg (hq ▸ hv.chn) hv.s0
   by_cases hm : L.gg ≤ q.size
   ·rw [if_pos hm]
    unfold Lg.yc
    rw [hgl]
    simp only
    by_cases h63 : 63 ≤ L.fl.length
    ·rw [if_pos h63]
     exact App.sw D (.inl h63) h rfl rfl
    ·rw [if_neg h63]
     obtain ⟨D1, e1, e2, e3, e4, e5, e6⟩ := bde h hq
     rw [e1, if_pos rfl]
     refine bev e3 e2 (by omega) hfew (by omega) (fun q1 hx => ?_) e4 e5 e6 ?_
     ·rw [hq] at hx
      have hx2 : Q0 ++ [q] = [] ++ [q1] := hx
      obtain ⟨_, hx3⟩ := List.append_inj' hx2 rfl
      cases hx3; exact hm
     ·rw [cn, hq]; simp; omega
   ·rw [if_neg hm]
    rcases hv.dsc with ⟨hx, _⟩ | ⟨Q1, q1, fa, lo, m, hq1, hf, _, hw, hmm, hF, hy⟩
    ·rw [hx] at hq; simp at hq
    obtain ⟨rfl, hqq⟩ := List.append_inj' (hq.symm.trans hq1) rfl
    cases hqq
    have hl63 := hv.len
    have hA := ro hv.s0 (hq ▸ hv.chn) (by rw [hq] at hl63; omega)
    have hset : L.fl.set (L.fl.length - 1) (q.qh b) = Q0 ++ [q.qh b] := by
     rw [hq]; simp
    have hch : Chn s f (Q0 ++ [q.qh b]) := (oy hv.s0).2 ⟨((oy hv.s0).1 (hq ▸ hv.chn)).1, cn, cf, fun d hd => by
     rcases List.mem_append.1 hd with hd | hd
     ·exact cr d hd
     ·rw [List.mem_singleton.1 hd]; omega, trivial⟩
    have hall : ge (Q0 ++ [q.qh b]) = ge L.fl ++ [b] := by rw [hq, kq, kq, qn, qn, List.append_assoc]; rfl
    have hsz : ∀ x ∈ Q0 ++ [q.qh b], x.size = (body x).length := fun x hx => by
     rcases List.mem_append.1 hx with hx | hx
     ·exact h.size x (by rw [hq]; exact List.mem_append_left _ hx)
     ·rw [List.mem_singleton.1 hx, afg, List.length_append]
      have := h.size q (by rw [hq]; simp)
      show q.size + _ = _
      rw [this]; simp
    have hvir : ∀ {E : Dk} {t : List Int} {w : Prop}, E.fs = Q0.map jq ++ [⟨q.no, fa, lo ++ t⟩] → t <+: gt b → (w → t = gt b) → Vir s f (Q0 ++ [q.qh b]) F E w := fun {E t w} hE ht hwt => by
     have ew : fa ++ (lo ++ t) = body q ++ t := by rw [← hw trivial, List.append_assoc]
     refine ⟨hch, hv.s0, hv.f0, by rw [hq] at hl63; simpa using hl63, by rw [hall]; simp; omega, .inr ⟨Q0, q.qh b, fa, lo ++ t, m, rfl, hE, ?_, fun hh => ?_, ?_, hF, ?_⟩, fun h => by simp at h, hsz⟩
     ·rw [ew, afg]; exact (List.prefix_append_right_inj _).2 ht
     ·rw [ew, afg, hwt hh]
     ·unfold Prt.qh; simp; omega
     ·refine hy.imp id fun hy => ?_
      have : (q.qh b).ft.take m = q.ft.take m := by unfold Prt.qh; exact List.take_append_of_le_length hmm
      rw [this]
      exact hy
    rcases bce (l := gt b) h.up (aro hv.s0 hv.chn q (by rw [hq]; simp)) hf hA with ⟨e, hx⟩ | ⟨E, t, e, hE, ht, htl, hrm, har⟩
    ·rw [e, if_neg (by simp)]
     refine App.sw D (.inr ?_) h rfl rfl
     rw [lb] at hx
     omega
    ·rw [e]
     cases hd : E.gh with
     | true =>
      simp only [if_true]
      rw [if_neg (by simp)]
      refine App.gh E _ ?_ hd (hvir hE ht fun h => h.elim) hall hrm
      cases hda : D.ie with
      | true => rfl
      | false => rw [(har hda).1] at hd; cases hd
     | false =>
      simp only [Bool.false_eq_true, if_false, if_true]
      rw [hset]
      have htl' := htl hd
      have hg : oh s f { L with fl := Q0 ++ [q.qh b] } F E := ⟨hvir hE ht fun _ => htl', hsz, hd⟩
      refine App.ok { L with fl := Q0 ++ [q.qh b] } E hg hall (by rw [hq]; simp) (by simp) rfl hrm (fun hx => (har hx).2) ?_ fun q1 hx _ => ?_
      ·unfold Dk.gk
       rw [hE, hf, htl']
       simp [Fil.len, lb]
       omega
      ·rw [hq] at hx
       have := congrArg List.length hx
       simpa using this
end
set_option maxRecDepth 100000
open Go.Eng Go.Proofs.YtfnhoaemapheoaaGreat.Sint
def up (a : Int) (c : Nat) : List Int := (List.range c).map fun i : Nat => a + (i : Int)
theorem uv (a : Int) (c : Nat) : (up a c).length = c := by simp [up]
theorem aaw (a : Int) (c : Nat) (i : Nat) (h : i < (up a c).length) : (up a c)[i] = a + i := by simp [up]
theorem aiy {a x : Int} {c : Nat} : x ∈ up a c ↔ a ≤ x ∧ x < a + c := by
 simp only [up, List.mem_map, List.mem_range]
 constructor
 ·rintro ⟨i, hi, rfl⟩; omega
 ·rintro ⟨h1, h2⟩; exact ⟨(x - a).toNat, by omega, by omega⟩
theorem afm (a : Int) (c : Nat) : (up a c).Pairwise (· ≤ ·) := by
 rw [List.pairwise_iff_getElem]
 intro i j hi hj hij
 rw [aaw, aaw]; omega
theorem arj {l l' : List Int} (h : l.Pairwise (· ≤ ·)) (hp : l'.Perm l) : mn l' = l := by
 have hs : (mn l').Pairwise fun a b => decide (a ≤ b) = true := List.pairwise_mergeSort (fun a b c h1 h2 => by simp at *; omega) (fun a b => by simp; omega) l'
 exact List.Perm.eq_of_pairwise (fun a b _ _ h1 h2 => by simp at h1 h2; omega) hs (h.imp fun h => by simpa using h) ((mf l').trans hp)
theorem ahe {ns : List Int} (h : ∀ i (hi : i < ns.length), 0 < i → (ns[i] + 63) % 64 ∈ ns) : ∀ f i, uy ns f i = ns
 | 0, _ => rfl
 | f + 1, i => by
  rw [uy]
  cases hg : ns[i]? with
  | none => rfl
  | some n =>
   obtain ⟨hi, rfl⟩ := List.getElem?_eq_some_iff.1 hg
   simp only
   rw [if_neg (fun hx => hx.2 (h i hi hx.1))]
   exact ahe h f (i + 1)
theorem ahd {ns : List Int} {j : Nat} (hj : j < ns.length) (hj0 : 0 < j) (h : ∀ i (hi : i < ns.length), 0 < i → i < j → (ns[i] + 63) % 64 ∈ ns) (hn : (ns[j] + 63) % 64 ∉ ns) : ∀ f i, i ≤ j → j < i + f → uy ns f i = ns.drop j ++ ns.take j
 | 0, i, h1, h2 => by omega
 | f + 1, i, h1, h2 => by
  rw [uy, List.getElem?_eq_getElem (by omega)]
  simp only
  by_cases hij : i = j
  ·subst hij
   rw [if_pos ⟨hj0, hn⟩]
  ·rw [if_neg (fun hx => hx.2 (h i (by omega) hx.1 (by omega)))]
   exact ahd hj hj0 h hn f (i + 1) (by omega) (by omega)
def ta (s : Int) (n : Nat) : List Int := (List.range n).map fun i : Nat => (s + (i : Int)) % 64
theorem asw {s : Int} {n : Nat} (hs : 0 ≤ s ∧ s < 64) (hn : n ≤ 63) : xa (mn (ta s n)) = ta s n := by
 by_cases hw : s + n ≤ 64
 ·have e : ta s n = up s n := by
   unfold ta up
   exact List.map_congr_left fun i hi => by rw [List.mem_range] at hi; omega
  rw [e, arj (afm s n) (List.Perm.refl _)]
  refine ahe (fun i hi h0 => ?_) _ _
  rw [aaw, aiy]
  rw [uv] at hi
  omega
 ·obtain ⟨a, ha⟩ : ∃ a : Nat, (a : Int) = s + n - 64 := ⟨(s + n - 64).toNat, by omega⟩
  obtain ⟨c, hc⟩ : ∃ c : Nat, (c : Int) = 64 - s := ⟨(64 - s).toNat, by omega⟩
  have e : ta s n = up s c ++ up 0 a := by
   apply List.ext_getElem
   ·simp [ta, uv]; omega
   ·intro i h1 h2
    rw [List.getElem_append]
    simp only [ta, List.length_map, List.length_range] at h1
    have el : (ta s n)[i]'(by simpa [ta] using h1) = (s + i) % 64 := by simp [ta]
    rw [el]
    split
    ·rename_i h; rw [aaw]; rw [uv] at h; omega
    ·rename_i h; rw [aaw]; rw [uv] at h ⊢; omega
  have hsrt : mn (ta s n) = up 0 a ++ up s c := by
   refine arj ?_ (by rw [e]; exact List.perm_append_comm)
   rw [List.pairwise_append]
   refine ⟨afm _ _, afm _ _, fun x hx y hy => ?_⟩
   rw [aiy] at hx hy
   omega
  rw [hsrt]
  have hlen : (up 0 a ++ up s c).length = a + c := by simp [uv]
  have hmem : ∀ x, x ∈ up 0 a ++ up s c ↔ (0 ≤ x ∧ x < a) ∨ (s ≤ x ∧ x < 64) := fun x => by
   rw [List.mem_append, aiy, aiy]; omega
  have hga : (up 0 a ++ up s c)[a]'(by rw [hlen]; omega) = s := by
   rw [List.getElem_append_right (by rw [uv]; omega), aaw]; simp [uv]
  have := ahd (ns := up 0 a ++ up s c) (j := a) (by rw [hlen]; omega) (by omega) (fun i hi h0 hia => by
   rw [hmem, List.getElem_append_left (by rw [uv]; exact hia), aaw]; omega) (by rw [hmem, hga]; omega) (up 0 a ++ up s c).length 0 (Nat.zero_le _) (by rw [hlen]; omega)
  unfold xa
  rw [this, e, List.drop_left' (uv _ _), List.take_left' (uv _ _)]
theorem ayb {Q : List Prt} {s f : Int} (hs : 0 ≤ s ∧ s < 64) (h : Chn s f Q) : Q.map Prt.no = ta s Q.length := by
 apply List.ext_getElem
 ·simp [ta]
 ·intro i h1 h2
  simp only [List.length_map] at h1
  rw [List.getElem_map, agd hs h i h1]
  simp [ta]
theorem avv {Q : List Prt} {s f : Int} {D : Dk} (hs : 0 ≤ s ∧ s < 64) (h : Chn s f Q) (hl : Q.length ≤ 63) (hd : D.nr = Q.map Prt.no) : xa D.gr = Q.map Prt.no := by
 unfold Dk.gr
 rw [hd, ayb hs h, asw hs hl]
section
variable {s f : Int} {Q Q0 : List Prt} {q : Prt} {F : Nat} {D : Dk} {w : Prop} {fa lo : List Int} {L : Lg} {b l : List Int} {A B : List Fil} {k : Int}
theorem yl (n : Int) : (xp n).length = 8 := ph _
theorem ait {n : Int} (h0 : 0 ≤ n) (h1 : n ≤ 1000000000000) : IntKind.i64.wrap (lj (xp n)) = n := by
 unfold xp
 rw [we h0 (by omega)]
 obtain ⟨m, rfl⟩ : ∃ m : Nat, n = m := ⟨n.toNat, by omega⟩
 have := ama (n := m) (by omega) []
 rw [List.append_nil] at this
 rw [this, fj (by omega) (by omega)]
theorem anq (hd : D.gh = false) (h : D.fs = A ++ ⟨k, fa, lo⟩ :: B) (hA : ∀ x ∈ A, x.n ≠ k) : D.jp k = (fa ++ lo, 0) := by
 unfold Dk.jp
 rw [hd, zx h hA]
 rfl
theorem apg (hr : ∀ d ∈ q.ft, d.length ≤ 8192) {p : List Int} (hp : afi p) : ru (body q ++ p) = (xp q.first :: q.ft, (body q).length) := by
 rw [aox]
 exact apj (fun d hd => by
  rcases List.mem_cons.1 hd with rfl | hd
  ·rw [yl]; omega
  ·exact hr d hd) hp
theorem ali (hd : D.gh = false) (h : D.fs = A ++ ⟨q.no, fa, lo⟩ :: B) (hA : ∀ x ∈ A, x.n ≠ q.no) (hc : fa ++ lo = body q) (hr : ∀ d ∈ q.ft, d.length ≤ 8192) (h0 : 0 ≤ q.first) (h1 : q.first ≤ 1000000000000) (hz : q.size = (body q).length) (jl : Bool) : my D q.no jl = ((D, some q), 0) := by
 unfold my
 have ha := apg hr anx
 rw [List.append_nil] at ha
 rw [anq hd h hA]
 simp only [hc, ha]
 have e : zo q.no (xp q.first :: q.ft, (body q).length) = q := by
  unfold zo
  simp only [List.headD_cons, List.tail_cons]
  rw [ait h0 h1, ← hz]
 rw [if_neg (by simp), if_neg (by simp), if_neg (by simp), if_neg (by simp [yl]), if_neg (by omega), e]
theorem axn {c : List Int} (hr : ∀ d ∈ q.ft, d.length ≤ 8192) (hc : c <+: body q) : (afi c ∧ c.length < (kw q.first).length) ∨ ∃ j p, j ≤ q.ft.length ∧ c = kw q.first ++ cat (q.ft.take j) ++ p ∧ afi p ∧ (c = body q → j = q.ft.length ∧ p = []) ∧ ∀ m, m ≤ q.ft.length → (kw q.first ++ cat (q.ft.take m)).length ≤ c.length → m ≤ j := by
 obtain ⟨r, he⟩ := hc
 rw [aox] at he
 have hd : ∀ d ∈ xp q.first :: q.ft, d.length ≤ 8192 := fun d hd => by
  rcases List.mem_cons.1 hd with rfl | hd
  ·rw [yl]; omega
  ·exact hr d hd
 obtain ⟨j, p, h1, h2, h3, h4, h5⟩ := ajm hd he
 cases j with
 | zero =>
  have hcp : c = p := by rw [h2]; simp [cat]
  subst hcp
  exact .inl ⟨h3, h5 (by simp)⟩
 | succ j =>
  have h1' : j ≤ q.ft.length := by simpa using h1
  have e : cat ((xp q.first :: q.ft).take (j + 1)) = kw q.first ++ cat (q.ft.take j) := by
   rw [List.take_succ_cons]; simp [cat, kw, xp]
  rw [e] at h2
  have hlen : ∀ m, m ≤ q.ft.length → (kw q.first ++ cat (q.ft.take m)).length ≤ c.length → m ≤ j := fun m hm hl => by
   by_cases hjm : m ≤ j
   ·exact hjm
   ·exfalso
    have hjl : j < q.ft.length := by omega
    have hp := h5 (by simpa using hjl)
    simp only [List.getElem_cons_succ] at hp
    have h6 : (cat (q.ft.take (j + 1))).length ≤ (cat (q.ft.take m)).length := app (by omega)
    have e6 : cat (q.ft.take (j + 1)) = cat (q.ft.take j) ++ gt q.ft[j] := by rw [List.take_succ_eq_append_getElem hjl, adp, akj]
    rw [e6] at h6
    rw [h2] at hl
    simp only [List.length_append] at hl h6
    omega
  refine .inr ⟨j, p, h1', h2, h3, fun hb => ?_, hlen⟩
  have : q.ft.length ≤ j := hlen _ (Nat.le_refl _) (by rw [hb, List.take_length]; exact Nat.le_refl _)
  have hj : j = q.ft.length := by omega
  exact ⟨hj, h4 (by simp; omega)⟩
theorem axr {c : List Int} (h : afi c) : ru c = ([], 0) := by
 have := apj (ds := []) (fun d hd => by simp at hd) h
 simpa [cat] using this
theorem avf (hd : D.gh = false) (h : D.fs = A ++ [⟨q.no, fa, lo⟩]) (hA : ∀ x ∈ A, x.n ≠ q.no) (hc : (fa ++ lo) <+: body q) (hr : ∀ d ∈ q.ft, d.length ≤ 8192) (h0 : 0 ≤ q.first) (h1 : q.first ≤ 1000000000000) (hz : q.size = (body q).length) :
  ((fa ++ lo).length < (kw q.first).length ∧ ∃ D', my D q.no true = ((D', none), 0) ∧ D'.fs = A ∧ D'.gq = D.gq ∧ D'.ie = D.ie ∧ D'.gh = false) ∨
  ∃ (j : Nat) (q' : Prt) (D' : Dk) (fa' lo' : List Int), j ≤ q.ft.length ∧ my D q.no true = ((D', some q'), 0) ∧ D'.fs = A ++ [⟨q.no, fa', lo'⟩] ∧ fa' ++ lo' = body q' ∧ q'.no = q.no ∧ q'.first = q.first ∧ q'.ft = q.ft.take j ∧ q'.size = (body q').length ∧ D'.gq = D.gq ∧ D'.ie = D.ie ∧ D'.gh = false ∧ fa'.length + lo'.length ≤ fa.length + lo.length ∧
   (fa ++ lo = body q → D' = D ∧ q' = q ∧ j = q.ft.length) ∧ (∀ m, m ≤ q.ft.length → (kw q.first ++ cat (q.ft.take m)).length ≤ (fa ++ lo).length → m ≤ j) := by
 have hg : D.get q.no = some ⟨q.no, fa, lo⟩ := zx h hA
 have hrd : D.jp q.no = (fa ++ lo, 0) := anq (B := []) hd h hA
 rcases axn hr hc with ⟨ht, hl⟩ | ⟨j, p, hj, hcc, hp, hb, hm⟩
 ·refine .inl ⟨hl, D.rem q.no, ?_, ?_, rfl, rfl, hd⟩
  ·unfold my
   rw [hrd]
   simp only [axr ht]
   rw [if_neg (by simp), if_neg (by simp), if_pos (by simp)]
   unfold Dk.acy
   rw [hd, hg]
   rfl
  ·have := bca (B := []) h hA (by simp)
   simpa using this
 ·by_cases hbody : fa ++ lo = body q
  ·refine .inr ⟨q.ft.length, q, D, fa, lo, Nat.le_refl _, ali hd h hA hbody hr h0 h1 hz true, h, hbody, rfl, rfl, by simp, hz, rfl, rfl, hd, Nat.le_refl _, fun _ => ⟨rfl, rfl, rfl⟩, fun m hm _ => hm⟩
  ·obtain ⟨q', hq'⟩ : ∃ q' : Prt, q' = ⟨q.no, q.first, q.ft.take j, ((kw q.first ++ cat (q.ft.take j)).length : Nat)⟩ := ⟨_, rfl⟩
   have e1 : q'.no = q.no := by rw [hq']
   have e2 : q'.first = q.first := by rw [hq']
   have e3 : q'.ft = q.ft.take j := by rw [hq']
   have e4 : body q' = kw q.first ++ cat (q.ft.take j) := by unfold body; rw [e2, e3]
   have e5 : q'.size = (body q').length := by rw [e4, hq']
   have hcc' : fa ++ lo = body q' ++ p := by rw [hcc, e4]
   have hr' : ∀ d ∈ q'.ft, d.length ≤ 8192 := fun d hd => hr d (by rw [e3] at hd; exact List.mem_of_mem_take hd)
   have ha := apg hr' hp
   have eq : zo q.no (xp q'.first :: q'.ft, (body q').length) = q' := by
    unfold zo
    simp only [List.headD_cons, List.tail_cons]
    rw [e2, ait h0 h1, ← e5, e3, hq']
   by_cases hpn : p = []
   ·subst hpn
    rw [List.append_nil] at ha hcc'
    refine .inr ⟨j, q', D, fa, lo, hj, ?_, h, hcc', e1, e2, e3, e5, rfl, rfl, hd, Nat.le_refl _, fun hx => absurd hx hbody, hm⟩
    unfold my
    rw [hrd]
    simp only [hcc', ha]
    rw [if_neg (by simp), if_neg (by simp), if_neg (by simp), if_neg (by simp [yl]), if_neg (by omega), eq]
   ·have hplen : 0 < p.length := List.length_pos_iff.2 hpn
    have hs := wq h hA (by simp) (body q') []
    simp only at hs
    have hcut : D.cut q.no ((body q').length : Nat) = (D.lh q.no (body q') [], 0) := by
     unfold Dk.cut
     rw [hd, hg]
     simp only [Bool.false_eq_true, if_false]
     have hl : (fa.length + lo.length : Nat) = (body q').length + p.length := by rw [← List.length_append, ← List.length_append, hcc']
     rw [if_neg (by omega), Int.toNat_natCast, hcc', List.take_left' rfl]
    refine .inr ⟨j, q', D.lh q.no (body q') [], body q', [], hj, ?_, hs, by simp, e1, e2, e3, e5, rfl, rfl, hd, by have := congrArg List.length hcc'; simp only [List.length_append] at this; simp; omega, fun hx => absurd hx hbody, hm⟩
    unfold my
    rw [hrd]
    simp only [hcc', ha, hcut]
    rw [if_neg (by simp), if_neg (by simp), if_neg (by simp), if_neg (by simp [yl]), if_pos (by rw [List.length_append]; omega), if_neg (by simp), eq]
end
set_option maxRecDepth 100000
open Go.Eng Go.Proofs.YtfnhoaemapheoaaGreat.Sint
section
variable {s f : Int} {Q Q0 : List Prt} {q : Prt} {F : Nat} {D : Dk} {w : Prop} {fa lo : List Int} {L : Lg} {b l : List Int} {A B : List Fil} {k : Int}
theorem ain {acc : List Prt} (h : Chn s f acc) (hs : 0 ≤ s ∧ s < 64) (hne : acc ≠ []) (hf0 : 0 ≤ f) (hf : f + (ge acc).length ≤ 1000000000000) : acu acc = f + (ge acc).length :=
 apx (L := ⟨0, acc⟩) h hs (fun h => absurd h hne) hf0 hf
theorem apq (hd : D.gh = false) (hs : 0 ≤ s ∧ s < 64) (hf0 : 0 ≤ f) : ∀ (Q1 acc : List Prt), Chn s f (acc ++ Q1 ++ [q]) → (acc ++ Q1 ++ [q]).length ≤ 63 → f + (ge (acc ++ Q1 ++ [q])).length ≤ 1000000000000 → (∀ x ∈ Q1, x.size = (body x).length) → D.fs = (acc ++ Q1).map jq ++ B → tg (Q1.map Prt.no ++ [k]) D acc = tg [k] D (acc ++ Q1)
 | [], acc, _, _, _, _, _ => by simp
 | q1 :: Q1, acc, hc, hl, hfew, hz, hfs => by
  have e0 : acc ++ q1 :: Q1 ++ [q] = (acc ++ [q1]) ++ Q1 ++ [q] := by simp
  have e1 : acc ++ q1 :: Q1 ++ [q] = (acc ++ [q1]) ++ (Q1 ++ [q]) := by simp
  have e2 : acc ++ q1 :: Q1 ++ [q] = acc ++ (q1 :: Q1 ++ [q]) := by simp
  have hc1 : Chn s f (acc ++ [q1]) := ((oy hs).1 (e1 ▸ hc)).1
  have hl1 : (acc ++ [q1]).length ≤ 64 := by rw [e1, List.length_append] at hl; omega
  obtain ⟨_, cf, cr⟩ := aeg hc1 hs
  have hA := ro hs hc1 hl1
  have hfew1 : f + ((ge acc).length : Int) ≤ 1000000000000 := by rw [e2, kq, List.length_append] at hfew; omega
  have hld := ali (A := acc.map jq) (B := Q1.map jq ++ B) (fa := body q1) (lo := []) hd (by rw [hfs]; simp [jq]) hA (by simp) cr (by omega) (by omega) (hz q1 (by simp)) false
  have ih := apq hd hs hf0 Q1 (acc ++ [q1]) (e0 ▸ hc) (e0 ▸ hl) (e0 ▸ hfew) (fun x hx => hz x (by simp [hx])) (by rw [hfs]; simp)
  rw [List.map_cons, List.cons_append, tg]
  have hem : (Q1.map Prt.no ++ [k]).isEmpty = false := by simp
  rw [hem, hld]
  simp only [ne_eq, not_true_eq_false, if_false]
  have hfirst : ¬ (¬ acc = [] ∧ ¬ q1.first = acu acc) := fun hx => hx.2 (by
   rw [ain ((oy hs).1 hc1).1 hs hx.1 hf0 hfew1, cf])
  rw [if_neg hfirst, ih]
  simp
theorem bfa (h : Vir s f Q F D w) (hd : D.gh = false) {gg : Int} (hm : 64 ≤ gg ∧ gg ≤ 1048576) :
  ∃ (s' f' : Int) (Q' : List Prt) (D' : Dk), yb D gg = ((D', some Q'), 0) ∧ oh s' f' ⟨gg, Q'⟩ 0 D' ∧ D'.ie = D.ie ∧ D'.gq = D.gq ∧ (∃ j, ge Q' = (ge Q).take j) ∧ F ≤ (ge Q').length ∧ (s = 0 → f = 0 → s' = 0 ∧ f' = 0) ∧ (w → D' = D ∧ Q' = Q ∧ s' = s ∧ f' = f) ∧ Q'.length ≤ Q.length ∧ D'.gk ≤ D.gk ∧ f' ≤ f := by
 unfold yb
 rw [if_neg (by omega), hd]
 simp only [Bool.false_eq_true, if_false]
 rcases h.dsc with ⟨hq, hf, rfl⟩ | ⟨Q0, q, fa, lo, m, hq, hf, hp, hw, hmm, hF, hy⟩
 ·have hfl : D.gr = [] := by unfold Dk.gr Dk.nr; rw [hf]; exact List.perm_nil.1 (mf [])
  have ho : xa ([] : List Int) = [] := rfl
  rw [hfl, ho, hq]
  obtain ⟨rfl, rfl⟩ := h.nil hq
  exact ⟨0, 0, [], D, rfl, ⟨⟨trivial, by omega, by omega, by simp, by simp [ge], .inl ⟨rfl, hf, rfl⟩, fun _ => ⟨rfl, rfl⟩, fun q hx => by simp at hx⟩, fun q hx => by simp at hx, hd⟩, rfl, rfl, ⟨0, rfl⟩, Nat.zero_le _, fun _ _ => ⟨rfl, rfl⟩, fun _ => ⟨rfl, rfl, rfl, rfl⟩, by simp, Nat.le_refl _, Int.le_refl _⟩
 ·have hs := h.s0
  have hf0 := h.f0
  have hl := h.len
  have hfew := h.few
  have hc := h.chn
  have hsz := h.siz
  have hk : D.nr = Q.map Prt.no := by unfold Dk.nr; rw [hf, hq, List.map_append, bfc, List.map_append]; rfl
  rw [avv hs hc hl hk]
  subst hq
  have hA := ro hs hc (by omega)
  obtain ⟨cn, cf, cr⟩ := aeg hc hs
  have hfew0 : f + ((ge Q0).length : Int) ≤ 1000000000000 := by rw [kq, List.length_append] at hfew; omega
  have hpre := apq (k := q.no) (B := [⟨q.no, fa, lo⟩]) hd hs hf0 Q0 [] hc hl hfew (fun x hx => hsz x (by simp [hx])) hf
  rw [List.nil_append] at hpre
  rw [List.map_append, List.map_cons, List.map_nil, hpre, tg]
  rcases avf hd hf hA hp cr (by omega) (by omega) (hsz q (by simp)) with ⟨hlen, D', e1, e2, e3, e4, e5⟩ | ⟨j, q', D', fa', lo', hj, e1, e2, e3, e4, e5, e6, e7, e8, e9, e10, e13, e11, e12⟩
  ·have hem : ([] : List Int).isEmpty = true := rfl
   rw [hem, e1]
   simp only [ne_eq, not_true_eq_false, if_false, tg]
   have hm0 : m = 0 := by
    rcases hy with hy | hy
    ·exact hy
    ·have := hy.length_le
     simp only [List.length_append] at this hlen
     omega
   have hnw : ¬ w := fun hx => by
    have hbl : (body q).length = (kw q.first).length + (cat q.ft).length := by unfold body; rw [List.length_append]
    have := congrArg List.length (hw hx)
    omega
   have hc0 := ((oy hs).1 hc).1
   have hsz0 : ∀ x ∈ Q0, x.size = (body x).length := fun x hx => hsz x (by simp [hx])
   have hall : ge Q0 = (ge (Q0 ++ [q])).take (ge Q0).length := by rw [kq, List.take_left' rfl]
   have hlen0 : Q0.length ≤ 63 := by rw [List.length_append] at hl; omega
   rcases List.eq_nil_or_concat Q0 with hq0 | ⟨Q1, q1, hq0⟩
   ·subst hq0
    refine ⟨0, 0, [], D', rfl, ⟨⟨trivial, by omega, by omega, by simp, by simp [ge], .inl ⟨rfl, e2, rfl⟩, fun _ => ⟨rfl, rfl⟩, fun q hx => by simp at hx⟩, fun q hx => by simp at hx, e5⟩, e4, e3, ⟨_, hall⟩, ?_, fun _ _ => ⟨rfl, rfl⟩, fun hx => absurd hx hnw, by simp, by unfold Dk.gk; rw [e2, hf]; simp, hf0⟩
    omega
   ·rw [List.concat_eq_append] at hq0
    subst hq0
    refine ⟨s, f, Q1 ++ [q1], D', rfl, ⟨⟨hc0, hs, hf0, hlen0, hfew0, .inr ⟨Q1, q1, body q1, [], 0, rfl, by rw [e2]; simp [jq], by simp, fun _ => by simp, Nat.zero_le _, Nat.zero_le _, .inl rfl⟩, fun hx => by simp at hx, hsz0⟩, hsz0, e5⟩, e4, e3, ⟨_, hall⟩, by omega, fun a b => ⟨a, b⟩, fun hx => absurd hx hnw, by simp, by unfold Dk.gk; rw [e2, hf]; simp, Int.le_refl _⟩
  ·have hem : ([] : List Int).isEmpty = true := rfl
   rw [hem, e1]
   simp only [ne_eq, not_true_eq_false, if_false]
   have hfirst : ¬ (¬ Q0 = [] ∧ ¬ q'.first = acu Q0) := fun hx => hx.2 (by
    rw [ain ((oy hs).1 hc).1 hs hx.1 hf0 hfew0, e5, cf])
   rw [if_neg hfirst, tg]
   have hc' : Chn s f (Q0 ++ [q']) := (oy hs).2 ⟨((oy hs).1 hc).1, by rw [e4, cn], by rw [e5, cf], fun d hd => cr d (by rw [e6] at hd; exact List.mem_of_mem_take hd), trivial⟩
   have hsz' : ∀ x ∈ Q0 ++ [q'], x.size = (body x).length := fun x hx => by
    rcases List.mem_append.1 hx with hx | hx
    ·exact hsz x (by simp [hx])
    ·rw [List.mem_singleton.1 hx]; exact e7
   have hall : ge (Q0 ++ [q']) = (ge (Q0 ++ [q])).take ((ge Q0).length + j) := by
    rw [kq Q0 [q'], kq Q0 [q], qn, qn, e6, List.take_append, List.take_of_length_le (l := ge Q0) (by omega), Nat.add_sub_cancel_left]
   have hjl : (ge (Q0 ++ [q'])).length = (ge Q0).length + j := by rw [kq, qn, e6]; simp; omega
   have hql : (ge (Q0 ++ [q])).length = (ge Q0).length + q.ft.length := by rw [kq, qn]; simp
   refine ⟨s, f, Q0 ++ [q'], D', rfl, ⟨⟨hc', hs, hf0, by simpa using hl, by rw [hjl]; rw [hql] at hfew; omega, .inr ⟨Q0, q', fa', lo', 0, rfl, by rw [e2, e4], by rw [e3]; exact List.prefix_rfl, fun _ => e3, Nat.zero_le _, Nat.zero_le _, .inl rfl⟩, fun hx => by simp at hx, hsz'⟩, hsz', e10⟩, e9, e8, ⟨_, hall⟩, ?_, fun a b => ⟨a, b⟩, fun hx => ?_, by simp, by unfold Dk.gk; rw [e2, hf]; simp [Fil.len]; omega, Int.le_refl _⟩
   ·rw [hjl]
    have : m ≤ j := by
     rcases hy with hy | hy
     ·omega
     ·exact e12 m hmm (by have := hy.length_le; simp only [List.length_append] at this ⊢; omega)
    omega
   ·obtain ⟨a, b, _⟩ := e11 (hw hx)
    exact ⟨a, by rw [b], rfl, rfl⟩
end
set_option maxRecDepth 100000
open Go.Eng
structure Bal where
 n : Int
 fo : Int
deriving DecidableEq
structure Rg where
 p : Bal
 t : Bal
 v : Int
deriving DecidableEq
def gy : Bal := ⟨0, 0⟩
def rg0 : Rg := ⟨gy, gy, 0⟩
def Bal.mo (a b : Bal) : Bool := decide (a.n < b.n ∨ (a.n = b.n ∧ a.fo < b.fo))
def Rg.pu (r : Rg) (b : Bal) : Bool := decide (0 < b.n) && !b.mo r.p
def Rg.nl (r : Rg) (b : Bal) : Rg × Bool := if r.pu b = true then (⟨b, r.t, r.v⟩, true) else (r, false)
def mu (v : Int) : Bool := decide (1 ≤ v ∧ v ≤ 3)
def Rg.acc (r : Rg) (b : Bal) (v : Int) : Rg × Bool := if r.pu b = true ∧ mu v = true ∧ ¬ (r.t = b ∧ r.v ≠ v) then (⟨b, b, v⟩, true) else (r, false)
def Rg.right (r : Rg) : Bool := if r.t = gy then decide (r.v = 0) else mu r.v && !r.p.mo r.t
def aah (x : Int) : Prop := 0 ≤ x ∧ x < 18446744073709551616
def Bal.rng (b : Bal) : Prop := aah b.n ∧ aah b.fo
def Rg.rng (r : Rg) : Prop := r.p.rng ∧ r.t.rng
theorem aip {a b c : Bal} (h1 : a.mo b = false) (h2 : b.mo c = false) : a.mo c = false := by
 simp only [Bal.mo, decide_eq_false_iff_not] at *
 omega
theorem aag (a : Bal) : a.mo a = false := by simp [Bal.mo]
theorem atq {r : Rg} {b : Bal} (h : r.right = true) : (r.nl b).1.right = true ∧ (r.nl b).1.p.mo r.p = false ∧ (r.nl b).1.t = r.t ∧ (r.nl b).1.v = r.v ∧ ((r.nl b).2 = true → (r.nl b).1.p = b) := by
 unfold Rg.nl
 by_cases hs : r.pu b = true
 ·rw [if_pos hs]
  have hlt : b.mo r.p = false := by
   unfold Rg.pu at hs
   simp only [Bool.and_eq_true, Bool.not_eq_true'] at hs
   exact hs.2
  refine ⟨?_, hlt, rfl, rfl, fun _ => rfl⟩
  unfold Rg.right at h ⊢
  simp only at h ⊢
  by_cases ht : r.t = gy
  ·rw [if_pos ht] at h ⊢; exact h
  ·rw [if_neg ht] at h ⊢
   simp only [Bool.and_eq_true, Bool.not_eq_true'] at h ⊢
   exact ⟨h.1, aip hlt h.2⟩
 ·rw [if_neg hs]
  exact ⟨h, aag _, rfl, rfl, fun h => by simp at h⟩
theorem awh {r : Rg} {b : Bal} {v : Int} (h : r.right = true) (hb : b.n ≠ 0) : (r.acc b v).1.right = true ∧ (r.acc b v).1.p.mo r.p = false ∧ (r.acc b v).1.t.mo r.t = false ∧ ((r.acc b v).1.t = r.t → (r.acc b v).1.v = r.v) ∧ ((r.acc b v).2 = true → (r.acc b v).1 = ⟨b, b, v⟩) := by
 unfold Rg.acc
 by_cases hs : r.pu b = true ∧ mu v = true ∧ ¬ (r.t = b ∧ r.v ≠ v)
 ·rw [if_pos hs]
  obtain ⟨h1, h2, h3⟩ := hs
  have hlt : b.mo r.p = false := by
   unfold Rg.pu at h1
   simp only [Bool.and_eq_true, Bool.not_eq_true'] at h1
   exact h1.2
  have hne : ¬ b = gy := fun he => hb (by rw [he]; rfl)
  refine ⟨?_, hlt, ?_, fun he => ?_, fun _ => rfl⟩
  ·unfold Rg.right
   simp only
   rw [if_neg hne, h2, aag]
   rfl
  ·show b.mo r.t = false
   unfold Rg.right at h
   by_cases ht : r.t = gy
   ·rw [ht]
    unfold Rg.pu at h1
    simp only [Bool.and_eq_true, decide_eq_true_eq] at h1
    have h1' := h1.1
    unfold Bal.mo
    rw [decide_eq_false_iff_not]
    show ¬ (b.n < 0 ∨ (b.n = 0 ∧ b.fo < 0))
    omega
   ·rw [if_neg ht] at h
    simp only [Bool.and_eq_true, Bool.not_eq_true'] at h
    exact aip hlt h.2
  ·have he' : b = r.t := he
   by_cases hv : r.v = v
   ·exact hv.symm
   ·exact absurd ⟨he'.symm, hv⟩ h3
 ·rw [if_neg hs]
  exact ⟨h, aag _, aag _, fun _ => rfl, fun h => by simp at h⟩
def ly (k : Int) (r : Rg) : List Int := kb k ++ (kb r.p.n ++ (kb r.p.fo ++ (kb r.t.n ++ (kb r.t.fo ++ [r.v]))))
def agk (b : List Int) : Option (Int × Rg) :=
 if b.length ≠ 41 then none else
 if 0 < lj b ∧ (⟨⟨lj (b.drop 8), lj (b.drop 16)⟩, ⟨lj (b.drop 24), lj (b.drop 32)⟩, b.getD 40 0⟩ : Rg).right = true then some (lj b, ⟨⟨lj (b.drop 8), lj (b.drop 16)⟩, ⟨lj (b.drop 24), lj (b.drop 32)⟩, b.getD 40 0⟩) else none
theorem adz (k : Int) (r : Rg) : (ly k r).length = 41 := by simp [ly, ph]
theorem aae {x : Int} (h : aah x) (r : List Int) : lj (kb x ++ r) = x := by
 obtain ⟨h0, h1⟩ := h
 obtain ⟨n, rfl⟩ : ∃ n : Nat, x = n := ⟨x.toNat, by omega⟩
 exact ama (by omega) r
theorem ng {x : Int} {r : List Int} {i : Nat} : (kb x ++ r).drop (8 + i) = r.drop i := by
 rw [← List.drop_drop, List.drop_left' (ph x)]
theorem adk {k : Int} {r : Rg} (hk : aah k) (hk0 : 0 < k) (hr : r.rng) (hrt : r.right = true) : agk (ly k r) = some (k, r) := by
 obtain ⟨⟨h1, h2⟩, h3, h4⟩ := hr
 have e0 : lj (ly k r) = k := aae hk _
 have e1 : lj ((ly k r).drop 8) = r.p.n := by
  unfold ly
  rw [show 8 = 8 + 0 from rfl, ng, List.drop_zero]; exact aae h1 _
 have e2 : lj ((ly k r).drop 16) = r.p.fo := by
  unfold ly
  rw [show 16 = 8 + (8 + 0) from rfl, ng, ng, List.drop_zero]; exact aae h2 _
 have e3 : lj ((ly k r).drop 24) = r.t.n := by
  unfold ly
  rw [show 24 = 8 + (8 + (8 + 0)) from rfl, ng, ng, ng, List.drop_zero]; exact aae h3 _
 have e4 : lj ((ly k r).drop 32) = r.t.fo := by
  unfold ly
  rw [show 32 = 8 + (8 + (8 + (8 + 0))) from rfl, ng, ng, ng, ng, List.drop_zero]; exact aae h4 _
 have e5 : (ly k r).getD 40 0 = r.v := by
  have : (ly k r).drop 40 = [r.v] := by
   unfold ly
   rw [show 40 = 8 + (8 + (8 + (8 + (8 + 0)))) from rfl, ng, ng, ng, ng, ng, List.drop_zero]
  have h6 : (ly k r)[40]? = some r.v := by
   have := congrArg (·[0]?) this
   simpa using this
  rw [List.getD_eq_getElem?_getD, h6]; rfl
 have er : (⟨⟨r.p.n, r.p.fo⟩, ⟨r.t.n, r.t.fo⟩, r.v⟩ : Rg) = r := rfl
 unfold agk
 rw [if_neg (by rw [adz]; simp), e0, e1, e2, e3, e4, e5, er, if_pos ⟨hk0, hrt⟩]
abbrev jc := List (Int × Rg)
def oe : jc → Int → Rg → jc
 | [], k, r => [(k, r)]
 | (x, y) :: t, k, r => if x < k then (x, y) :: oe t k r else if x = k then (k, r) :: t else (k, r) :: (x, y) :: t
def lk (l : jc) (k : Int) : Option Rg := (l.find? fun p => decide (p.1 = k)).map (·.2)
def kz (l : jc) (k : Int) : Rg := (lk l k).getD rg0
def Asc (l : jc) : Prop := l.Pairwise fun a b => a.1 < b.1
theorem nu (x : Int) (y : Rg) (t : jc) (k : Int) : lk ((x, y) :: t) k = if x = k then some y else lk t k := by
 unfold lk
 rw [List.find?_cons]
 by_cases h : x = k
 ·simp [h]
 ·simp [h]
theorem ams {l : jc} {k : Int} (h : ∀ p ∈ l, k < p.1) : lk l k = none := by
 unfold lk
 rw [List.find?_eq_none.2 fun p hp => by have := h p hp; simp; omega]
 rfl
theorem aqa {l : jc} (ha : Asc l) (k : Int) (r : Rg) (k' : Int) : lk (oe l k r) k' = if k = k' then some r else lk l k' := by
 induction l with
 | nil => rw [oe, nu]
 | cons p t ih =>
  obtain ⟨x, y⟩ := p
  unfold Asc at ha
  rw [List.pairwise_cons] at ha
  have iht := ih ha.2
  rw [oe]
  split
  ·rename_i hlt
   rw [nu, nu, iht]
   by_cases hx : x = k'
   ·rw [if_pos hx, if_pos hx, if_neg (by omega)]
   ·rw [if_neg hx, if_neg hx]
  ·split
   ·rename_i _ he
    subst he
    rw [nu, nu]
    by_cases hx : x = k'
    ·rw [if_pos hx, if_pos hx]
    ·rw [if_neg hx, if_neg hx, if_neg hx]
   ·rw [nu]
theorem arx {l : jc} {k : Int} {r : Rg} : ∀ p ∈ oe l k r, p = (k, r) ∨ p ∈ l := by
 induction l with
 | nil => intro p hp; rw [oe] at hp; exact .inl (List.mem_singleton.1 hp)
 | cons q t ih =>
  obtain ⟨x, y⟩ := q
  intro p hp
  rw [oe] at hp
  split at hp
  ·rcases List.mem_cons.1 hp with rfl | hp
   ·exact .inr (by simp)
   ·exact (ih p hp).imp id fun h => by simp [h]
  ·split at hp
   ·rcases List.mem_cons.1 hp with rfl | hp
    ·exact .inl rfl
    ·exact .inr (by simp [hp])
   ·rcases List.mem_cons.1 hp with rfl | hp
    ·exact .inl rfl
    ·exact .inr hp
theorem arh {l : jc} (ha : Asc l) (k : Int) (r : Rg) : Asc (oe l k r) := by
 induction l with
 | nil => exact List.pairwise_singleton _ _
 | cons p t ih =>
  obtain ⟨x, y⟩ := p
  unfold Asc at *
  rw [List.pairwise_cons] at ha
  rw [oe]
  split
  ·rename_i hlt
   rw [List.pairwise_cons]
   refine ⟨fun q hq => ?_, ih ha.2⟩
   rcases arx q hq with rfl | hq
   ·exact hlt
   ·exact ha.1 q hq
  ·split
   ·rename_i _ he
    subst he
    rw [List.pairwise_cons]
    exact ⟨ha.1, ha.2⟩
   ·rename_i h1 h2
    rw [List.pairwise_cons, List.pairwise_cons]
    refine ⟨fun q hq => ?_, ha⟩
    rcases List.mem_cons.1 hq with rfl | hq
    ·show k < x; omega
    ·have := ha.1 q hq
     show k < q.1
     simp only at this; omega
theorem arw : ∀ {l1 l2 : jc}, Asc l1 → Asc l2 → (∀ k, lk l1 k = lk l2 k) → l1 = l2
 | [], [], _, _, _ => rfl
 | [], (x, y) :: t, _, _, h => by have := h x; rw [nu, if_pos rfl] at this; simp [lk] at this
 | (x, y) :: t, [], _, _, h => by have := h x; rw [nu, if_pos rfl] at this; simp [lk] at this
 | (x, y) :: t, (x', y') :: t', h1, h2, h => by
  unfold Asc at h1 h2
  rw [List.pairwise_cons] at h1 h2
  have hx : x = x' := by
   rcases Int.lt_trichotomy x x' with hlt | he | hlt
   ·have := h x
    rw [nu, if_pos rfl, nu, if_neg (by omega), ams fun p hp => by have := h2.1 p hp; simp only at this; omega] at this
    cases this
   ·exact he
   ·have := h x'
    rw [nu, if_neg (by omega), nu, if_pos rfl, ams fun p hp => by have := h1.1 p hp; simp only at this; omega] at this
    cases this
  subst hx
  have hy : y = y' := by
   have := h x
   rw [nu, if_pos rfl, nu, if_pos rfl] at this
   exact Option.some.inj this
  subst hy
  rw [arw h1.2 h2.2 fun k => by
   by_cases hk : x = k
   ·subst hk
    rw [ams fun p hp => h1.1 p hp, ams fun p hp => h2.1 p hp]
   ·have := h k
    rwa [nu, if_neg hk, nu, if_neg hk] at this]
def zu (l : jc) (b : List Int) : jc := match agk b with
 | some (k, r) => oe l k r
 | none => l
def lr (ft : List (List Int)) : jc := ft.foldl zu []
theorem apl : ∀ (ft : List (List Int)) {l : jc}, Asc l → Asc (ft.foldl zu l)
 | [], _, h => h
 | b :: r, l, h => by
  rw [List.foldl_cons]
  refine apl r ?_
  unfold zu
  split
  ·exact arh h _ _
  ·exact h
theorem anc (ft : List (List Int)) : Asc (lr ft) := apl ft .nil
theorem afr {ft : List (List Int)} {k : Int} {r : Rg} (hk : aah k) (hk0 : 0 < k) (hr : r.rng) (hrt : r.right = true) : lr (ft ++ [ly k r]) = oe (lr ft) k r := by
 unfold lr
 rw [List.foldl_append, List.foldl_cons, List.foldl_nil, zu, adk hk hk0 hr hrt]
def okE (p : Int × Rg) : Prop := aah p.1 ∧ 0 < p.1 ∧ p.2.rng ∧ p.2.right = true
structure Pk where
 fu : Int
 tr : Int
 b : Bal
 ic : Bal
 v : Int
 ok : Bool
 sv : Value
 mv : Value
 iv : Value
def pkC (p : Pk) : List Value := [.int .i64 p.fu, .int .u64 p.tr, .int .u64 p.b.n, .int .u64 p.b.fo, .int .u64 p.ic.n, .int .u64 p.ic.fo, .int .i64 p.v, .bool p.ok, p.sv, p.mv, p.iv]
def pkA (p : Pk) : Value := .agg (pkC p).toArray
def atb (tr : Int) (b : Bal) (v : Int) : Value := .agg #[.int .u64 tr, .int .u64 b.n, .int .u64 b.fo, .int .i64 v]
def agc (tr : Int) (b : Bal) (v : Int) : Value := .iface T.j (atb tr b v)
theorem ahm {w : World} {v : Int} {K : KV} (h : K (.bool (mu v)) w) : ey P F.cq [.int .i64 v] w K := by
 rw [M.dv.fcall]
 apply M.dv.calls
 unfold M.dv
 unfold mu at h
 by_cases h1 : 1 ≤ v
 ·by_cases h2 : v ≤ 3
  ·rw [decide_eq_true ⟨h1, h2⟩] at h
   simp [h1, h2]; exact h
  ·rw [decide_eq_false (fun hh => h2 hh.2)] at h
   simp [h1, h2]; exact h
 ·rw [decide_eq_false (fun hh => h1 hh.1)] at h
  simp [h1]; exact h
theorem yi {w : World} {b : Nat} {p : Pk} {f : Nat × Nat} (h : w.heap[b]? = some (.cells (pkC p).toArray T.a f)) : ∀ (j : Nat) (u : Value), (pkC p)[j]? = some u → fi w b j = some u := fun j u hj => by
 rw [fm h]; simpa using hj
theorem aqv {w : World} {p : Pk} (hk : p.fu = 4 ∨ p.fu = 6) {K : KV} (h : ∀ w', Fr (fun _ => False) w w' → K (agc p.tr p.b p.v) w') : ey P F.cg [pkA p] w K := by
 rw [M.ae.fcall]
 apply M.ae.calls
 unfold M.ae pkA
 have hb : (w.alloc (.cells (pkC p).toArray T.a)).heap[w.heap.size]? = some (.cells (pkC p).toArray T.a (0, 0)) := by rw [fx, if_pos rfl]
 have f1 : Fr (fun _ => False) w (w.alloc (.cells (pkC p).toArray T.a)) := (Fr.refl _ w).alloc _
 have c0 := yi hb 0 _ rfl
 have c1 := yi hb 1 _ rfl
 have c2 := yi hb 2 _ rfl
 have c3 := yi hb 3 _ rfl
 have c6 := yi hb 6 _ rfl
 simp
 generalize w.alloc (.cells (pkC p).toArray T.a) = w1 at *
 have hl2 : ∀ K, ldN P 2 w.heap.size 2 w1 K = K (.agg #[.int .u64 p.b.n, .int .u64 p.b.fo]) w1 := fun K => aby c2 c3 K
 have n1 : ¬ p.fu = 1 := by omega
 have n2 : ¬ p.fu = 2 := by omega
 have n3 : ¬ p.fu = 3 := by omega
 simp [c0, n1, n2]
 unfold M.ae.j1
 simp [n3]
 rcases hk with hk | hk
 ·simp [hk]
  unfold M.ae.j2
  simp [c1, hl2, c6]
  exact h w1 f1
 ·simp [hk]
  unfold M.ae.j2
  simp [c1, hl2, c6]
  exact h w1 f1
def aoy (tr : Int) (b : Bal) (v : Int) : Bool := decide (0 < tr) && decide (0 < b.n) && (decide (v = 0) || mu v)
theorem aqn {w : World} {tr v : Int} {b : Bal} {K : KV} (h : ∀ w', Fr (fun _ => False) w w' → K (.bool (aoy tr b v)) w') : ey P F.ai [agc tr b v] w K := by
 rw [M.aa.fcall]
 apply M.aa.calls
 unfold M.aa agc atb
 simp [afl, adg]
 have hb1 : (w.alloc (.cells #[.int .u64 0, .int .u64 0] T.c)).heap[w.heap.size]? = some (.cells #[.int .u64 0, .int .u64 0] T.c (0, 0)) := by rw [fx, if_pos rfl]
 have f1 : Fr (fun _ => False) w (w.alloc (.cells #[.int .u64 0, .int .u64 0] T.c)) := (Fr.refl _ w).alloc _
 refine iu (vs := [.int .u64 0, .int .u64 0]) hb1 rfl (by simp [jf]) fun w2 b2 f2 => ?_
 have f12 : Fr (fun _ => False) w w2 := f1.kg f2 fun g hg he => by omega
 have hb3 : (w2.alloc (.cells #[.int .u64 0, .int .u64 0, .int .u64 0, .int .i64 0] T.j)).heap[w2.heap.size]? = some (.cells #[.int .u64 0, .int .u64 0, .int .u64 0, .int .i64 0] T.j (0, 0)) := by rw [fx, if_pos rfl]
 have f3 : Fr (fun _ => False) w (w2.alloc (.cells #[.int .u64 0, .int .u64 0, .int .u64 0, .int .i64 0] T.j)) := f12.alloc _
 have hsz := f12.size
 refine iu (vs := [.int .u64 tr, .int .u64 b.n, .int .u64 b.fo, .int .i64 v]) hb3 rfl (by simp [jf]) fun w4 b4 f4 => ?_
 have f14 : Fr (fun _ => False) w w4 := f3.kg f4 fun g hg he => by omega
 generalize w2.heap.size = ob at *
 have c0 : fi w4 ob 0 = some (.int .u64 tr) := by rw [fm b4]; rfl
 have c1 : fi w4 ob 1 = some (.int .u64 b.n) := by rw [fm b4]; rfl
 have c3 : fi w4 ob 3 = some (.int .i64 v) := by rw [fm b4]; rfl
 have fin := h w4 f14
 unfold aoy at fin
 by_cases h1 : 0 < tr
 ·by_cases h2 : 0 < b.n
  ·by_cases h3 : v = 0
   ·simp [c0, c1, c3, h1, h2, h3]
    simpa [h1, h2, h3] using fin
   ·simp [c0, c1, c3, h1, h2, h3]
    refine ahm ?_
    simpa [h1, h2, h3] using fin
  ·simp [c0, c1, c3, h1, h2]
   simpa [h1, h2] using fin
 ·simp [c0, c1, c3, h1]
  simpa [h1] using fin
def afc (k tr : Int) (b : Bal) (v : Int) : Pk := ⟨k, tr, b, gy, v, false, .slice none 0 0, .slice none 0 0, .slice none 0 0⟩
def axx (tr : Int) (b : Bal) (v : Int) : Pk := ⟨if v = 0 then 4 else 6, tr, b, gy, v, false, .slice none 0 0, .slice none 0 0, .slice none 0 0⟩
theorem aoo {w : World} {tr v : Int} {b : Bal} {K : KV} (h : ∀ w', Fr (fun _ => False) w w' → K (pkA (axx tr b v)) w') : ey P F.ac [agc tr b v] w K := by
 rw [M.ab.fcall]
 apply M.ab.calls
 unfold M.ab agc atb
 simp [afl, adg]
 have S0 : St w (w.alloc (.cells #[.int .i64 0, .int .u64 0, .int .u64 0, .int .u64 0, .int .u64 0, .int .u64 0, .int .i64 0, .bool false, .slice none 0 0, .slice none 0 0, .slice none 0 0] T.a)) (fq w.heap.size #[.int .i64 0, .int .u64 0, .int .u64 0, .int .u64 0, .int .u64 0, .int .u64 0, .int .i64 0, .bool false, .slice none 0 0, .slice none 0 0, .slice none 0 0] T.a :: []) := (St.jy w).add ((Fr.refl _ w).alloc _) (B := fun x => x = w.heap.size) ⟨by rw [fx, if_pos rfl], rfl⟩ fun x hx => by subst hx; rw [ig]; omega
 have z0 : (w.alloc (.cells #[.int .i64 0, .int .u64 0, .int .u64 0, .int .u64 0, .int .u64 0, .int .u64 0, .int .i64 0, .bool false, .slice none 0 0, .slice none 0 0, .slice none 0 0] T.a)).heap.size = w.heap.size + 1 := ig _ _
 generalize w.alloc (.cells #[.int .i64 0, .int .u64 0, .int .u64 0, .int .u64 0, .int .u64 0, .int .u64 0, .int .i64 0, .bool false, .slice none 0 0, .slice none 0 0, .slice none 0 0] T.a) = w1 at *
 have S1 : St w (w1.alloc (.cells #[.int .u64 0, .int .u64 0, .int .u64 0, .int .i64 0] T.j)) (fq w1.heap.size #[.int .u64 0, .int .u64 0, .int .u64 0, .int .i64 0] T.j :: _) := S0.add ((Fr.refl _ w1).alloc _) (B := fun x => x = w1.heap.size) ⟨by rw [fx, if_pos rfl], rfl⟩ fun x hx => by subst hx; rw [ig]; omega
 rw [z0] at S1
 generalize w.heap.size = pb at *
 generalize pb + 1 = ob at *
 refine iu (vs := [.int .u64 tr, .int .u64 b.n, .int .u64 b.fo, .int .i64 v]) S1.blk rfl (by simp [jf]) fun w2 b2 f2 => ?_
 have S2 := S1.kh f2 b2
 have askC : ∀ {W : World} {R : List Asn}, St w W (fq ob [Value.int .u64 tr, .int .u64 b.n, .int .u64 b.fo, .int .i64 v].toArray T.j :: R) → fi W ob 0 = some (.int .u64 tr) ∧ fi W ob 3 = some (.int .i64 v) ∧ ∀ K, ldN P 2 ob 1 W K = K (.agg #[.int .u64 b.n, .int .u64 b.fo]) W := fun {W R} S' => by
  have hh := S'.blk
  exact ⟨by rw [fm hh]; rfl, by rw [fm hh]; rfl, fun K => aby (by rw [fm hh]; rfl) (by rw [fm hh]; rfl) K⟩
 obtain ⟨c0, c3, cl⟩ := askC S2
 simp [c0, c3, cl]
 have pkL : ∀ {W : World} {R : List Asn} {q : Pk}, St w W (fq pb (pkC q).toArray T.a :: R) → ∀ K, ldN P 11 pb 0 W K = K (pkA q) W := fun {W R q} S' K => xe (pkC q) 11 rfl (fun k u hk => by rw [Nat.zero_add]; exact yi S'.blk k u hk) K
 have pkO : ∀ (k : Int), ∀ u ∈ pkC (afc k tr b v), jf u = true := fun k u hu => by
  simp only [pkC, afc, List.mem_cons, List.not_mem_nil, or_false] at hu
  rcases hu with rfl | rfl | rfl | rfl | rfl | rfl | rfl | rfl | rfl | rfl | rfl <;> rfl
 have hres : ∀ {W : World} {R : List Asn} {q : Pk}, St w W (fq pb (pkC q).toArray T.a :: R) → ∀ K, og P T.a (.pointer (some ⟨pb, 0, none⟩)) W K = K (pkA q) W := fun {W R q} S' K => by rw [agj]; exact pkL S' K
 refine iu (vs := pkC (afc 4 tr b v)) S2.swap.blk rfl (pkO 4) fun w3 b3 f3 => ?_
 have S3 := S2.swap.kh f3 b3
 obtain ⟨_, d3, _⟩ := askC S3.swap
 by_cases hv : v = 0
 ·simp [d3, hv]
  subst hv
  rw [pkL S3]
  have e : pkA (afc 4 tr b 0) = .agg #[.int .i64 4, .int .u64 tr, .int .u64 b.n, .int .u64 b.fo, .int .u64 0, .int .u64 0, .int .i64 0, .bool false, .slice none 0 0, .slice none 0 0, .slice none 0 0] := rfl
  rw [e]
  simp
  refine iu (vs := pkC (afc 4 tr b 0)) S3.blk rfl (pkO 4) fun w5 b5 f5 => ?_
  have S5 := S3.kh f5 b5
  rw [hres S5]
  exact ⟨rfl, h w5 S5.fr⟩
 ·have e0 := yi S3.blk 0 _ rfl
  have ez := kj S3.blk
  simp [d3, hv, e0, ez]
  have S4 : St w (w3.setCell ⟨pb, 0, none⟩ (.int .i64 6)) (fq pb (pkC (afc 6 tr b v)).toArray T.a :: _) := S3.kh ((Fr.refl (fun x => x = pb) w3).setCell (.inl rfl) _ _) ((jv S3.blk).trans rfl)
  rw [pkL S4]
  have e : pkA (afc 6 tr b v) = .agg #[.int .i64 6, .int .u64 tr, .int .u64 b.n, .int .u64 b.fo, .int .u64 0, .int .u64 0, .int .i64 v, .bool false, .slice none 0 0, .slice none 0 0, .slice none 0 0] := rfl
  rw [e]
  simp
  refine iu (vs := pkC (afc 6 tr b v)) S4.blk rfl (pkO 6) fun w5 b5 f5 => ?_
  have S5 := S4.kh f5 b5
  rw [hres S5]
  have fin := h w5 S5.fr
  unfold axx at fin
  rw [if_neg hv] at fin
  exact ⟨rfl, fin⟩
def jm (b : Bal) : Value := .agg #[.int .u64 b.n, .int .u64 b.fo]
theorem alx (x y : Bal) (w : World) : (Op.equalIn 10000 T.c (jm x) (jm y)).run P w = .ok (x.n == y.n && (x.fo == y.fo)) w := by
 have hS : P.underlying T.c = some (.struct (P.fieldsOf T.c)) := by kernel_rfl
 have hp : P.stoodInHeld T.c = false := by kernel_rfl
 unfold jm
 rw [show (10000 : Nat) = 9999 + 1 from rfl, run_equalIn_agg w 9999 T.c _ _ hS hp]
 simp only [Program.fieldsOf, show P.underlying T.c = _ from Tryz.underlying40]
 have u22 : P.underlying T.e = some (.int .u64) := by kernel_rfl
 have a22 : za P T.e = false := by kernel_rfl
 refine eqF (by decide) a22 rfl rfl (run_equalIn_int w 9998 T.e _ _ _ _ u22) ?_
 have := eqF (fs := []) (d := 9999) (xs := #[.int .u64 x.n, .int .u64 x.fo]) (ys := #[.int .u64 y.n, .int .u64 y.fo]) (f := { name := "Node", type := T.e, offset := 1, embedded := false, tag := "", pkgPath := "", byteOffset := 8 }) (w := w) (c := true) (by decide) a22 rfl rfl (run_equalIn_int w 9998 T.e _ _ _ _ u22) rfl
 simpa using this
theorem asp (x y : Bal) : (x.n == y.n && (x.fo == y.fo)) = decide (x = y) := by
 obtain ⟨a, b⟩ := x
 obtain ⟨a', b'⟩ := y
 simp only [Bal.mk.injEq]
 by_cases h1 : a = a' <;> by_cases h2 : b = b' <;> simp [h1, h2]
theorem ux (rx ry : Operand) (x y : Bal) (w : World) (K : KV) : en P .eql T.c rx ry (jm x) (jm y) w K = K (.bool (decide (x = y))) w := by
 have hm : P.eqGuardType P.depth T.c = false := by kernel_rfl
 have hg := run_eqGuard_agg (P := P) w .eql T.c rx ry #[.int .u64 x.n, .int .u64 x.fo] #[.int .u64 y.n, .int .u64 y.fo] hm
 have he := alx x y w
 rw [asp] at he
 unfold en ia
 unfold jm at he ⊢
 rw [Sem.run_bind, hg]
 simp only [Result.andThen]
 rw [run_eql_struct, he]
 rfl
theorem adb (rx ry : Operand) (x y : Bal) (w : World) (K : KV) : en P .neq T.c rx ry (jm x) (jm y) w K = K (.bool !(decide (x = y))) w := by
 have hm : P.eqGuardType P.depth T.c = false := by kernel_rfl
 have hg := run_eqGuard_agg (P := P) w .neq T.c rx ry #[.int .u64 x.n, .int .u64 x.fo] #[.int .u64 y.n, .int .u64 y.fo] hm
 have he := alx x y w
 rw [asp] at he
 unfold en ia
 unfold jm at he ⊢
 rw [Sem.run_bind, hg]
 simp only [Result.andThen]
 rw [run_neq_struct, he]
 rfl
structure sk (w : World) (p : Pk) (ls : List Spn) (lm : List Mem) (lu : List Int) : Prop where
 s : SlS w p.sv ls
 m : SlM w p.mv lm
 u : SlU w p.iv lu
 ls : ls.length ≤ 1000000
 lm : lm.length ≤ 1000000
 lu : lu.length ≤ 1000000
theorem sk.fr {w w' : World} {p : Pk} {ls : List Spn} {lm : List Mem} {lu : List Int} (h : sk w p ls lm lu) (hf : Fr (fun _ => False) w w') : sk w' p ls lm lu :=
 ⟨h.s.fr hf fun _ _ _ h => h, h.m.fr hf fun _ _ _ h => h, h.u.fr hf fun _ _ _ h => h, h.ls, h.lm, h.lu⟩
theorem sk.one {w : World} {p : Pk} {ls : List Spn} {lm : List Mem} {lu : List Int} (h : sk w p ls lm lu) : (∃ a c, p.sv = .slice a ls.length c) ∧ (∃ a c, p.mv = .slice a lm.length c) ∧ ∃ a c, p.iv = .slice a lu.length c := by
 obtain ⟨a1, c1, h1, _⟩ := h.s
 obtain ⟨a2, c2, h2, _⟩ := h.m
 obtain ⟨a3, c3, h3, _⟩ := h.u
 exact ⟨⟨a1, c1, h1⟩, ⟨a2, c2, h2⟩, a3, c3, h3⟩
theorem amw {w : World} {p : Pk} {ls : List Spn} {lm : List Mem} {lu : List Int} (h : sk w p ls lm lu) (K : KV) : kt P T.a (pkA p) w K = K (.pointer (some ⟨w.heap.size, 0, none⟩)) (w.alloc (.cells (pkC p).toArray T.a)) := by
 rw [xm]; rfl
theorem km {W w : World} {pb : Nat} {p : Pk} {R : List Asn} (S : St W w (fq pb (pkC p).toArray T.a :: R)) : fi w pb 0 = some (.int .i64 p.fu) ∧ fi w pb 1 = some (.int .u64 p.tr) ∧ (∀ K, ldN P 2 pb 2 w K = K (jm p.b) w) ∧ (∀ K, ldN P 2 pb 4 w K = K (jm p.ic) w) ∧ fi w pb 6 = some (.int .i64 p.v) ∧ fi w pb 7 = some (.bool p.ok) ∧ fi w pb 8 = some p.sv ∧ fi w pb 9 = some p.mv ∧ fi w pb 10 = some p.iv ∧ ∀ K, ldN P 11 pb 0 w K = K (pkA p) w := by
 have hh := S.blk
 have hc := fun j u hj => yi hh j u hj
 exact ⟨hc 0 _ rfl, hc 1 _ rfl, fun K => aby (hc 2 _ rfl) (hc 3 _ rfl) K, fun K => aby (hc 4 _ rfl) (hc 5 _ rfl) K, hc 6 _ rfl, hc 7 _ rfl, hc 8 _ rfl, hc 9 _ rfl, hc 10 _ rfl, fun K => xe (pkC p) 11 rfl (fun k u hk => by rw [Nat.zero_add]; exact hc k u hk) K⟩
end Go.Proofs.YtfnhoaemapheoaaGreat
set_option maxRecDepth 100000
namespace Go.Proofs.YtfnhoaemapheoaaGreat.Suint64
open Go.Eng Go.Sort
def Rw (w : World) (g : Nat) (e : TypeId) (cap : Nat) (d : Array Int) : Prop := ∃ cur : Array Value, w.heap[g]? = some (.cells cur e (0, 0)) ∧ cur.size = cap ∧ d.size ≤ cap ∧ ∀ j, j < d.size → cur[j]? = some (.int .u64 d[j]!)
section
variable {w w' : World} {g cap : Nat} {e : TypeId} {d : Array Int} {S : Nat → Prop}
theorem Rw.at (h : Rw w g e cap d) {j : Nat} (hj : j < d.size) : fi w g j = some (.int .u64 d[j]!) := by
 obtain ⟨cur, h1, _, _, h4⟩ := h
 rw [fm h1]; exact h4 j hj
theorem Rw.frz (h : Rw w g e cap d) (j : Nat) : mq w g j = false := by
 obtain ⟨cur, h1, _⟩ := h
 exact kj h1 j
theorem Rw.lt (h : Rw w g e cap d) : g < w.heap.size := by
 obtain ⟨cur, h1, _⟩ := h
 exact oo h1
theorem Rw.heap (h : Rw w g e cap d) (he : w'.heap[g]? = w.heap[g]?) : Rw w' g e cap d := by
 obtain ⟨cur, h1, h2⟩ := h
 exact ⟨cur, he.trans h1, h2⟩
theorem Rw.fr (h : Rw w g e cap d) (hf : Fr S w w') (hn : ¬ S g) : Rw w' g e cap d := h.heap (hf.ip g h.lt hn)
theorem aog (d : Array Int) {i : Nat} (hi : i < d.size) (x : Int) (j : Nat) : (d.setIfInBounds i x)[j]! = if i = j then x else d[j]! := by
 by_cases h : i = j
 ·subst h; simp [hi]
 ·simp [h, getElem!_def, Array.getElem?_setIfInBounds]
theorem Rw.set (h : Rw w g e cap d) {i : Nat} (hi : i < d.size) (x : Int) : Rw (w.setCell ⟨g, i, none⟩ (.int .u64 x)) g e cap (d.setIfInBounds i x) := by
 obtain ⟨cur, h1, h2, h3, h4⟩ := h
 refine ⟨cur.setIfInBounds i (.int .u64 x), jv h1, by simpa using h2, by simpa using h3, fun j hj => ?_⟩
 have hj' : j < d.size := by simpa using hj
 rw [aog d hi, Array.getElem?_setIfInBounds]
 by_cases hij : i = j
 ·subst hij; simp [h2]; omega
 ·rw [if_neg hij, if_neg hij]; exact h4 j hj'
theorem Rw.swp (h : Rw w g e cap d) {i j : Nat} (hi : i < d.size) (hj : j < d.size) : Rw ((w.setCell ⟨g, i, none⟩ (.int .u64 d[j]!)).setCell ⟨g, j, none⟩ (.int .u64 d[i]!)) g e cap (Sort.swp d i j) := by
 have := (h.set hi d[j]!).set (i := j) (by simpa using hj) d[i]!
 exact this
theorem Rw.dr (h : Rw w g e cap d) (n : Nat) : Rw (Eng.dr w n) g e cap d := h.heap rfl
structure Rf (w w' : World) (g : Nat) (e : TypeId) (cap : Nat) (d : Array Int) : Prop where
 row : Rw w' g e cap d
 fr : Fr (fun b => b = g) w w'
theorem Rw.lx (h : Rw w g e cap d) : Rf w w g e cap d := ⟨h, Fr.refl _ _⟩
theorem Rf.dr (h : Rf w w' g e cap d) (n : Nat) : Rf w (Eng.dr w' n) g e cap d := ⟨h.row.dr n, h.fr.dr n⟩
theorem Rf.swp (h : Rf w w' g e cap d) {i j : Nat} (hi : i < d.size) (hj : j < d.size) : Rf w ((w'.setCell ⟨g, i, none⟩ (.int .u64 d[j]!)).setCell ⟨g, j, none⟩ (.int .u64 d[i]!)) g e cap (Sort.swp d i j) :=
 ⟨h.row.swp hi hj, (h.fr.setCell (.inl rfl) _ _).setCell (.inl rfl) _ _⟩
theorem Rf.trans {w'' : World} {d' : Array Int} (h : Rf w w' g e cap d) (h' : Rf w' w'' g e cap d') : Rf w w'' g e cap d' := ⟨h'.row, h.fr.trans h'.fr⟩
end
theorem jo {w : World} (x y : Int) {K : KV} (h : K (.bool (ltInt x y)) w) : ey P F.d [.int .u64 x, .int .u64 y] w K := by
 have nan : ∀ (z : Int) {K : KV}, K (.bool false) w → ey P F.av [.int .u64 z] w K := fun z K hK => by
  rw [M.cd.fcall]
  apply M.cd.calls
  unfold M.cd
  simp
  exact hK
 rw [M.dc.fcall]
 apply M.dc.calls
 unfold M.dc
 refine nan x ?_
 simp
 exact h
theorem atc {x : Nat} (h : x < 1000000) : IntKind.i64.wrap (x : Int) = x := fj (by omega) (by omega)
theorem jg {x : Nat} (h : x < 1000000) : IntKind.i64.wrap ((x : Int) + 1) = ((x + 1 : Nat) : Int) := by rw [fj (by omega) (by omega)]; rfl
theorem na {x y : Nat} (h : y ≤ x) (hx : x < 1000000) : IntKind.i64.wrap ((x : Int) - y) = ((x - y : Nat) : Int) := by rw [fj (by omega) (by omega)]; omega
def InI (w : World) (g : Nat) (e : TypeId) (cap n a : Nat) (R : Array Int) : KL := fun x w1 => ∃ (j : Nat) (d : Array Int), x = [.int .i64 (j : Int)] ∧ Rf w w1 g e cap d ∧ d.size = n ∧ j < n ∧ insInner ltInt a j d = R
def InO (w : World) (g : Nat) (e : TypeId) (cap n a b : Nat) (R : Array Int) : KL := fun x w1 => ∃ (u : Value) (i : Nat) (d : Array Int), x = [u, .int .i64 (i : Int)] ∧ Rf w w1 g e cap d ∧ d.size = n ∧ insOuter ltInt a b i d = R
theorem tt {w : World} {g cap n : Nat} {e : TypeId} {d : Array Int} (H : Rw w g e cap d) (hn : d.size = n) (h6 : n < 100000) {a b : Nat} (hb : b ≤ n) (ha : a ≤ n) {K : KV}
  (h : ∀ w', Rf w w' g e cap (insertionSort ltInt d a b) → K (.tuple #[]) w') : ij P F.z [.slice (some ⟨g, 0, none⟩) n cap, .int .i64 a, .int .i64 b] w K := by
 apply M.i.calls
 unfold M.i
 simp only [iw, jg (show a < 1000000 by omega)]
 refine ⟨InO w g e cap n a b (insertionSort ltInt d a b), fun x _ => b - ms x 1, ⟨_, a + 1, d, rfl, H.lx, hn, rfl⟩, ?_⟩
 rintro x w1 ⟨u, i, d1, rfl, H1, hn1, hR⟩
 have g1 : ∀ u v : Value, gv [u, v] 1 = v := fun _ _ => rfl
 have g0 : ∀ u : Value, gv [u] 0 = u := fun _ => rfl
 unfold M.i.j0
 simp only [fh, g1]
 unfold insOuter at hR
 by_cases hi : i < b
 ·simp [hi] at hR ⊢
  generalize hT : insInner ltInt a i d1 = T at *
  refine ⟨InI w g e cap n a T, fun x _ => ms x 0, ⟨i, d1, rfl, H1, hn1, by omega, hT⟩, ?_⟩
  rintro x w2 ⟨j, d2, rfl, H2, hn2, hj, hR2⟩
  have done : d2 = T → ∀ v w2, Rf w w2 g e cap d2 → InO w g e cap n a b (insertionSort ltInt d a b) [v, .int .i64 (IntKind.i64.wrap ((i : Int) + 1))] w2 ∧ b - ms [v, .int .i64 (IntKind.i64.wrap ((i : Int) + 1))] 1 < b - ms [u, .int .i64 (i : Int)] 1 := by
   intro hd v w2 H2
   rw [jg (by omega)]
   refine ⟨⟨v, i + 1, d2, rfl, H2, hn2, by rw [hd]; exact hR⟩, ?_⟩
   simp [ms, gv]; omega
  unfold M.i.j3
  simp only [fh, g0]
  cases j with
  | zero =>
   simp [insInner] at hR2
   have := done hR2 (.int .i64 0) _ (H2.dr 1)
   have hz : ¬ (a : Int) < 0 := by omega
   simp [hz]
   simpa using this
  | succ j =>
   unfold insInner at hR2
   have hw := atc (show j < 1000000 by omega)
   by_cases hja : a < j + 1
   ·have hja' : (a : Int) < (j : Int) + 1 := by omega
    have c1 := H2.row.at (show j + 1 < d2.size by omega)
    have c0 := H2.row.at (show j < d2.size by omega)
    have hjn : (j : Int) < n := by omega
    have hjn' : (j : Int) + 1 < n := by omega
    have z1 : (0 : Int) ≤ (j : Int) + 1 := by omega
    simp [hja, hja', hw, c0, c1, hjn, hjn', z1] at hR2 ⊢
    refine jo _ _ ?_
    cases hl : ltInt d2[j + 1]! d2[j]! with
    | true =>
     simp [hl] at hR2 ⊢
     unfold M.i.j4
     have f1 := H2.row.frz (j + 1)
     have f0 := H2.row.frz j
     simp [hw, c0, c1, hjn, hjn', z1, f0, f1, gj, gp]
     refine ⟨⟨j, _, rfl, ((H2.dr 1).dr 1).swp (by omega) (by omega), by rw [size_swp]; exact hn2, by omega, hR2⟩, ?_⟩
     simp [ms, gv]
    | false =>
     simp [hl] at hR2 ⊢
     have := done hR2 (.int .i64 ((j : Int) + 1)) _ (H2.dr 1)
     simpa using this
   ·have hja' : ¬ (a : Int) < (j : Int) + 1 := by omega
    simp [hja, hja'] at hR2 ⊢
    have := done hR2 (.int .i64 ((j : Int) + 1)) _ (H2.dr 1)
    simpa using this
 ·simp [hi] at hR ⊢
  subst hR
  exact h w1 H1
set_option maxRecDepth 100000
open Go.Eng Go.Sort
theorem mw (hi first : Nat) : ∀ (n root : Nat) (d : Array Int), hi - root ≤ n → (siftDown ltInt hi first root d).size = d.size
 | 0, root, d, h => by
  unfold siftDown
  rw [dif_pos (by omega)]
 | n + 1, root, d, h => by
  unfold siftDown
  split
  ·rfl
  split
  ·split
   ·rfl
   split
   ·rw [mw hi first n _ _ (by omega), size_swp]
   ·rfl
  ·split
   ·rfl
   ·rw [mw hi first n _ _ (by omega), size_swp]
def SfI (w : World) (g : Nat) (e : TypeId) (cap n hi first : Nat) (R : Array Int) : KL := fun x w1 => ∃ (u : Value) (root : Nat) (d : Array Int), x = [u, .int .i64 (root : Int)] ∧ Rf w w1 g e cap d ∧ d.size = n ∧ root ≤ hi ∧ siftDown ltInt hi first root d = R
theorem adi {w : World} {g cap n : Nat} {e : TypeId} {d : Array Int} (H : Rw w g e cap d) (hn : d.size = n) (h6 : n < 100000) {lo hi first : Nat} (hb : first + hi ≤ n) (hlo : lo ≤ hi) {K : KV}
  (h : ∀ w', Rf w w' g e cap (siftDown ltInt hi first lo d) → K (.tuple #[]) w') : ij P F.y [.slice (some ⟨g, 0, none⟩) n cap, .int .i64 lo, .int .i64 hi, .int .i64 first] w K := by
 apply M.l.calls
 unfold M.l
 generalize hR0 : siftDown ltInt hi first lo d = R0 at *
 refine ⟨SfI w g e cap n hi first R0, fun x _ => hi - ms x 1, ⟨_, lo, d, rfl, H.lx, hn, hlo, hR0⟩, ?_⟩
 clear hR0
 rintro x w1 ⟨u, root, d1, rfl, H1, hn1, hro, hR⟩
 have g1 : ∀ u v : Value, gv [u, v] 1 = v := fun _ _ => rfl
 have g0 : ∀ u : Value, gv [u] 0 = u := fun _ => rfl
 have w2 : IntKind.i64.wrap (2 * (root : Int)) = ((2 * root : Nat) : Int) := by rw [fj (by omega) (by omega)]; omega
 have w3 : IntKind.i64.wrap (((2 * root : Nat) : Int) + 1) = ((2 * root + 1 : Nat) : Int) := jg (by omega)
 have w4 : IntKind.i64.wrap (((2 * root + 1 : Nat) : Int) + 1) = ((2 * root + 2 : Nat) : Int) := jg (by omega)
 unfold M.l.j0
 simp only [fh, g1, sq, iw, ke, w2, w3]
 unfold siftDown at hR
 by_cases h0 : 2 * root + 1 ≥ hi
 ·have h0' : (hi : Int) ≤ ((2 * root + 1 : Nat) : Int) := by omega
  rw [dif_pos h0] at hR
  subst hR
  simp only [h0', decide_true, Eng.cond_true]
  exact h w1 H1
 rw [dif_neg h0] at hR
 have h0' : ¬ (hi : Int) ≤ ((2 * root + 1 : Nat) : Int) := by omega
 simp only [h0', decide_false, Eng.cond_false]
 unfold M.l.j1
 have wf : ∀ k : Nat, k < hi → IntKind.i64.wrap ((first : Int) + (k : Int)) = ((first + k : Nat) : Int) := fun k hk => by rw [fj (by omega) (by omega)]; omega
 -- behind the choice of the child
 have tail : ∀ (c : Nat) (w2 : World), Rf w w2 g e cap d1 → c < hi → root < c → (if !ltInt d1[first + root]! d1[first + c]! then d1 else siftDown ltInt hi first c (Sort.swp d1 (first + root) (first + c))) = R0 →
   M.l.j2 (.int .i64 first) [u, .int .i64 root] (.slice (some ⟨g, 0, none⟩) n cap) [.int .i64 c] (fun x' w' => SfI w g e cap n hi first R0 x' w' ∧ hi - ms x' 1 < hi - ms [u, .int .i64 (root : Int)] 1) w2 K := by
  intro c w2 H2 hc hrc hR
  unfold M.l.j2
  have a1 := H2.row.at (show first + root < d1.size by omega)
  have a2 := H2.row.at (show first + c < d1.size by omega)
  have b1 : ((first + root : Nat) : Int) < n := by omega
  have b2 : ((first + c : Nat) : Int) < n := by omega
  have wr := wf root (by omega)
  have wc := wf c hc
  simp only [fh, ol, me, g1, g0, iw, wr, wc, true_and, and_true]
  simp [b1, b2, a1, a2, -Int.natCast_add]
  refine jo _ _ ?_
  cases hl : ltInt d1[first + root]! d1[first + c]! with
  | false =>
   simp [hl] at hR ⊢
   subst hR
   exact h _ (H2.dr 1)
  | true =>
   simp [hl] at hR ⊢
   unfold M.l.j3
   have f1 := H2.row.frz (first + root)
   have f2 := H2.row.frz (first + c)
   simp only [fh, ol, me, vx, g1, g0, iw, wr, wc, true_and, and_true]
   simp [b1, b2, a1, a2, f1, f2, gj, gp, -Int.natCast_add]
   refine ⟨⟨_, c, _, rfl, ((H2.dr 1).dr 1).swp (by omega) (by omega), by rw [size_swp]; exact hn1, by omega, hR⟩, ?_⟩
   simp [ms, gv]; omega
 have v1 : IntKind.i64.wrap ((first : Int) + ((2 * root + 1 : Nat) : Int)) = ((first + (2 * root + 1) : Nat) : Int) := wf _ (by omega)
 simp only [fh, ol, me, iw, ka, w4, true_and, and_true, qj]
 by_cases h1 : 2 * root + 1 + 1 < hi
 ·have h1' : ((2 * root + 2 : Nat) : Int) < hi := by omega
  have v2 : IntKind.i64.wrap (((first + (2 * root + 1) : Nat) : Int) + 1) = ((first + (2 * root + 2) : Nat) : Int) := by rw [fj (by omega) (by omega)]; omega
  have a1 := H1.row.at (show first + (2 * root + 1) < d1.size by omega)
  have a2 := H1.row.at (show first + (2 * root + 2) < d1.size by omega)
  have b1 : ((first + (2 * root + 1) : Nat) : Int) < n := by omega
  have b2 : ((first + (2 * root + 2) : Nat) : Int) < n := by omega
  have e2 : first + (2 * root + 1) + 1 = first + (2 * root + 2) := by omega
  simp only [h1', decide_true, beq_self_eq_true, rz, iw, v1, v2]
  simp [b1, b2, a1, a2, -Int.natCast_add]
  refine jo _ _ ?_
  rw [e2] at hR
  cases hl : ltInt d1[first + (2 * root + 1)]! d1[first + (2 * root + 2)]! with
  | true =>
   simp only [h1, hl, decide_true, Bool.and_self, if_true] at hR
   have hx : 2 * root + 2 < hi := by omega
   simp only [hx, dif_pos] at hR
   simp [-Int.natCast_add]
   exact tail (2 * root + 2) _ (H1.dr 1) (by omega) (by omega) hR
  | false =>
   simp only [hl, Bool.and_false, Bool.false_eq_true, if_false] at hR
   simp [-Int.natCast_add]
   exact tail (2 * root + 1) _ (H1.dr 1) (by omega) (by omega) hR
 ·have h1' : ¬ ((2 * root + 2 : Nat) : Int) < hi := by omega
  simp only [h1, decide_false, Bool.false_and, Bool.false_eq_true, if_false] at hR
  simp only [h1', decide_false]
  simp [-Int.natCast_add]
  exact tail (2 * root + 1) _ (H1.dr 1) (by omega) (by omega) hR
def HbI (w : World) (g : Nat) (e : TypeId) (cap n hi first : Nat) (R : Array Int) : KL := fun x w1 => ∃ (k : Nat) (d : Array Int), x = [.int .i64 ((k : Int) - 1)] ∧ Rf w w1 g e cap d ∧ d.size = n ∧ k ≤ hi + 1 ∧ (k ≤ hi ∨ hi = 0) ∧ heapBuild ltInt hi first k d = R
def HpI (w : World) (g : Nat) (e : TypeId) (cap n hi first : Nat) (R : Array Int) : KL := fun x w1 => ∃ (k : Nat) (d : Array Int), x = [.int .i64 ((k : Int) - 1)] ∧ Rf w w1 g e cap d ∧ d.size = n ∧ k ≤ hi ∧ heapPop ltInt first k d = R
def mp (x : List Value) (i : Nat) : Nat := match gv x i with
 | .int _ k => (k + 1).toNat
 | _ => 0
theorem abz {w : World} {g cap n : Nat} {e : TypeId} {d : Array Int} (H : Rw w g e cap d) (hn : d.size = n) (h6 : n < 100000) {a b : Nat} (hb : b ≤ n) (hab : a < b) {K : KV}
  (h : ∀ w', Rf w w' g e cap (heapSort ltInt d a b) → K (.tuple #[]) w') : ij P F.ar [.slice (some ⟨g, 0, none⟩) n cap, .int .i64 a, .int .i64 b] w K := by
 apply M.q.calls
 unfold M.q
 have hw0 : IntKind.i64.wrap ((b : Int) - a) = ((b - a : Nat) : Int) := na (by omega) (by omega)
 generalize hhi : b - a = hi at *
 have hw1 : IntKind.i64.wrap ((hi : Int) - 1) = ((hi - 1 : Nat) : Int) := by rw [fj (by omega) (by omega)]; omega
 have hw2 : IntKind.i64.wrap (((hi - 1 : Nat) : Int).tdiv 2) = (((hi - 1) / 2 : Nat) : Int) := by
  rw [Int.tdiv_eq_ediv_of_nonneg (by omega), fj (by omega) (by omega)]; omega
 have hw3 : (((hi - 1) / 2 : Nat) : Int) = (((hi - 1) / 2 + 1 : Nat) : Int) - 1 := by omega
 simp only [ja, hw0, fh, hw1, ahl, hw2]
 have g0 : ∀ u : Value, gv [u] 0 = u := fun _ => rfl
 generalize hZ : heapBuild ltInt hi a ((hi - 1) / 2 + 1) d = Z
 refine ⟨HbI w g e cap n hi a Z, fun x _ => mp x 0, ⟨(hi - 1) / 2 + 1, d, by rw [hw3], H.lx, hn, by omega, by omega, hZ⟩, ?_⟩
 rintro x w1 ⟨k, d1, rfl, H1, hn1, hk, hk2, hR⟩
 unfold M.q.j1
 simp only [fh, g0, ke]
 cases k with
 | succ k =>
  have hk0 : (0 : Int) ≤ ((k + 1 : Nat) : Int) - 1 := by omega
  have hk1 : ((k + 1 : Nat) : Int) - 1 = (k : Int) := by omega
  simp only [hk0, decide_true, Eng.cond_true, hk1]
  rw [M.l.fcall]
  refine adi H1.row hn1 h6 (by omega) (by omega) fun w2 H2 => ?_
  have hw4 : IntKind.i64.wrap ((k : Int) - 1) = (k : Int) - 1 := fj (by omega) (by omega)
  simp only [ja, hw4]
  refine ⟨⟨k, _, rfl, H1.trans H2, by rw [mw _ _ _ _ _ (Nat.le_refl _)]; exact hn1, by omega, by omega, hR⟩, ?_⟩
  simp [mp, gv]
 | zero =>
  have hk0 : ¬ (0 : Int) ≤ ((0 : Nat) : Int) - 1 := by omega
  simp only [hk0, decide_false, Eng.cond_false]
  unfold heapBuild at hR
  unfold M.q.j0
  have hw5 : ((hi - 1 : Nat) : Int) = (hi : Int) - 1 := by omega
  simp only [ja, hw1, hw5]
  have hR2 : heapPop ltInt a hi d1 = heapSort ltInt d a b := by
   unfold heapSort
   rw [hhi, hZ, ← hR]
  refine ⟨HpI w g e cap n hi a (heapSort ltInt d a b), fun x _ => mp x 0, ⟨hi, d1, rfl, H1, hn1, Nat.le_refl _, hR2⟩, ?_⟩
  rintro x w2 ⟨k, d2, rfl, H2, hn2, hk, hR3⟩
  simp only [fh, g0, ke]
  cases k with
  | zero =>
   have hk0 : ¬ (0 : Int) ≤ ((0 : Nat) : Int) - 1 := by omega
   simp only [hk0, decide_false, Eng.cond_false]
   unfold heapPop at hR3
   subst hR3
   exact h w2 H2
  | succ k =>
   have hk0 : (0 : Int) ≤ ((k + 1 : Nat) : Int) - 1 := by omega
   have hk1 : ((k + 1 : Nat) : Int) - 1 = (k : Int) := by omega
   simp only [hk0, decide_true, Eng.cond_true, hk1]
   unfold heapPop at hR3
   unfold M.q.j5
   have wr : IntKind.i64.wrap ((a : Int) + (k : Int)) = ((a + k : Nat) : Int) := by rw [fj (by omega) (by omega)]; omega
   have a1 := H2.row.at (show a < d2.size by omega)
   have a2 := H2.row.at (show a + k < d2.size by omega)
   have b1 : (a : Int) < n := by omega
   have b2 : ((a + k : Nat) : Int) < n := by omega
   have f1 := H2.row.frz a
   have f2 := H2.row.frz (a + k)
   have hw4 : IntKind.i64.wrap ((k : Int) - 1) = (k : Int) - 1 := fj (by omega) (by omega)
   simp only [fh, ol, me, vx, g0, iw, ja, wr, hw4, true_and, and_true]
   simp [b1, b2, a1, a2, f1, f2, gj, gp, -Int.natCast_add]
   have H3 := (H2.dr 1).swp (i := a) (j := a + k) (by omega) (by omega)
   rw [M.l.fcall]
   refine adi (lo := 0) H3.row (by rw [size_swp]; exact hn2) h6 (by omega) (by omega) fun w4 H4 => ?_
   refine ⟨⟨k, _, rfl, H3.trans H4, by rw [mw _ _ _ _ _ (Nat.le_refl _), size_swp]; exact hn2, by omega, hR3⟩, ?_⟩
   simp [mp, gv]
section
variable {w : World} {g cap n : Nat} {e : TypeId} {d : Array Int}
def UpI (w : World) (g : Nat) (e : TypeId) (cap : Nat) (d : Array Int) (p : Int → Bool) (j r : Nat) : KL := fun x w1 => ∃ i : Nat, x = [.int .i64 (i : Int)] ∧ Rf w w1 g e cap d ∧ i ≤ j + 2 ∧ scanUp p d j i = r
def DnI (w : World) (g : Nat) (e : TypeId) (cap : Nat) (d : Array Int) (p : Int → Bool) (i n r : Nat) : KL := fun x w1 => ∃ j : Nat, x = [.int .i64 (j : Int)] ∧ Rf w w1 g e cap d ∧ j < n ∧ scanDown p d i j = r
theorem xw {p : Int → Bool} {i j : Nat} (H : Rw w g e cap d) (hi : i ≤ j + 2) {K0 : KL} {body : KL → KL → KL}
  (hB : ∀ (k : Nat) w1 (Kn : KL), k ≤ j + 2 → Rf w w1 g e cap d → ((k ≤ j ∧ p d[k]! = true) → ∀ w2, Rf w w2 g e cap d → Kn [.int .i64 ((k + 1 : Nat) : Int)] w2) → (¬ (k ≤ j ∧ p d[k]! = true) → ∀ w2, Rf w w2 g e cap d → K0 [.int .i64 (k : Int)] w2) → body K0 Kn [.int .i64 (k : Int)] w1)
  (h : ∀ w', Rf w w' g e cap d → K0 [.int .i64 (scanUp p d j i : Nat)] w') : fc (fun K0 => gm [.int .i64 (i : Int)] w (body K0)) K0 := by
 rw [fh]
 generalize hr : scanUp p d j i = r at *
 refine ⟨UpI w g e cap d p j r, fun x _ => j + 2 - ms x 0, ⟨i, rfl, H.lx, hi, hr⟩, ?_⟩
 clear hr
 rintro x w1 ⟨k, rfl, H1, hk, hR⟩
 unfold scanUp at hR
 refine hB k w1 _ hk H1 (fun hc w2 H2 => ?_) fun hc w2 H2 => ?_
 ·rw [if_pos (by simpa using hc)] at hR
  refine ⟨⟨k + 1, rfl, H2, by omega, hR⟩, ?_⟩
  simp [ms, gv]; omega
 ·rw [if_neg (by simpa using hc)] at hR
  rw [← hR] at h
  exact h w2 H2
theorem tm {p : Int → Bool} {i j : Nat} (H : Rw w g e cap d) (hj : j < n) (hi : 1 ≤ i) {K0 : KL} {body : KL → KL → KL}
  (hB : ∀ (k : Nat) w1 (Kn : KL), k < n → Rf w w1 g e cap d → ((i ≤ k ∧ p d[k]! = true) → ∀ w2, Rf w w2 g e cap d → Kn [.int .i64 ((k - 1 : Nat) : Int)] w2) → (¬ (i ≤ k ∧ p d[k]! = true) → ∀ w2, Rf w w2 g e cap d → K0 [.int .i64 (k : Int)] w2) → body K0 Kn [.int .i64 (k : Int)] w1)
  (h : ∀ w', Rf w w' g e cap d → K0 [.int .i64 (scanDown p d i j : Nat)] w') : fc (fun K0 => gm [.int .i64 (j : Int)] w (body K0)) K0 := by
 rw [fh]
 generalize hr : scanDown p d i j = r at *
 refine ⟨DnI w g e cap d p i n r, fun x _ => ms x 0, ⟨j, rfl, H.lx, hj, hr⟩, ?_⟩
 clear hr
 rintro x w1 ⟨k, rfl, H1, hk, hR⟩
 refine hB k w1 _ hk H1 (fun hc w2 H2 => ?_) fun hc w2 H2 => ?_
 ·cases k with
  | zero => omega
  | succ k =>
   unfold scanDown at hR
   rw [if_pos (by simpa using hc)] at hR
   refine ⟨⟨k, rfl, H2, by omega, hR⟩, ?_⟩
   simp [ms, gv]
 ·have : scanDown p d i k = k := by
   cases k with
   | zero => rfl
   | succ k => unfold scanDown; rw [if_neg (by simpa using hc)]
  rw [this] at hR
  rw [← hR] at h
  exact h w2 H2
theorem ts (p : Int → Bool) (d : Array Int) (j i : Nat) : scanUp p d j i ≤ max i (j + 1) := by
 by_cases h : i ≤ j + 1
 ·have := (scanUp_spec p d j _ i rfl).2.1 h
  omega
 ·unfold scanUp
  rw [if_neg (by simp; omega)]
  omega
theorem g0 (u : Value) : gv [u] 0 = u := rfl
theorem g20 (u v : Value) : gv [u, v] 0 = u := rfl
theorem g21 (u v : Value) : gv [u, v] 1 = v := rfl
theorem aku {w0 w1 : World} {a k j : Nat} {K0 Kn : KL} {K : KV} (H1 : Rf w0 w1 g e cap d) (hn : d.size = n) (h6 : n < 100000) (ha : a < n) (hj : j < n) (hk : k ≤ j + 2)
  (k1 : (k ≤ j ∧ ltInt d[k]! d[a]! = true) → ∀ w2, Rf w0 w2 g e cap d → Kn [.int .i64 ((k + 1 : Nat) : Int)] w2) (k2 : ¬ (k ≤ j ∧ ltInt d[k]! d[a]! = true) → ∀ w2, Rf w0 w2 g e cap d → K0 [.int .i64 (k : Int)] w2) :
  M.e.j1 [.int .i64 (k : Int)] (.int .i64 (j : Int)) (.slice (some ⟨g, 0, none⟩) n cap) (.int .i64 (a : Int)) K0 Kn w1 K := by
 unfold M.e.j1
 by_cases hkj : k ≤ j
 ·have a1 := H1.row.at (show k < d.size by omega)
  have a2 := H1.row.at (show a < d.size by omega)
  have b1 : (k : Int) < n := by omega
  have b2 : (a : Int) < n := by omega
  have b3 : (k : Int) ≤ j := by omega
  simp [g0, g21, b1, b2, b3, a1, a2]
  refine jo _ _ ?_
  cases hl : ltInt d[k]! d[a]! with
  | true =>
   simp [jg (show k < 1000000 by omega)]
   have := k1 ⟨hkj, hl⟩ _ (H1.dr 1)
   simpa using this
  | false =>
   simp [jg (show k < 1000000 by omega)]
   have := k2 (fun h => by simp [hl] at h) _ (H1.dr 1)
   simpa using this
 ·have b3 : ¬ (k : Int) ≤ j := by omega
  simp [g0, g21, b3]
  have := k2 (fun h => hkj h.1) _ (H1.dr 1)
  simpa using this
theorem akk {w0 w1 : World} {a k i : Nat} {K0 Kn : KL} {K : KV} (H1 : Rf w0 w1 g e cap d) (hn : d.size = n) (h6 : n < 100000) (hai : a < n ∧ 1 ≤ i) (hk : k < n)
  (k1 : (i ≤ k ∧ (!ltInt d[k]! d[a]!) = true) → ∀ w2, Rf w0 w2 g e cap d → Kn [.int .i64 ((k - 1 : Nat) : Int)] w2) (k2 : ¬ (i ≤ k ∧ (!ltInt d[k]! d[a]!) = true) → ∀ w2, Rf w0 w2 g e cap d → K0 [.int .i64 (k : Int)] w2) :
  M.e.j4 [.int .i64 (i : Int)] [.int .i64 (k : Int)] (.slice (some ⟨g, 0, none⟩) n cap) (.int .i64 (a : Int)) K0 Kn w1 K := by
 unfold M.e.j4
 by_cases hik : i ≤ k
 ·have a1 := H1.row.at (show k < d.size by omega)
  have a2 := H1.row.at (show a < d.size by omega)
  have b1 : (k : Int) < n := by omega
  have b2 : (a : Int) < n := by omega
  have b3 : (i : Int) ≤ k := by omega
  have hw : IntKind.i64.wrap ((k : Int) - 1) = ((k - 1 : Nat) : Int) := by rw [fj (by omega) (by omega)]; omega
  simp [g0, b1, b2, b3, a1, a2]
  refine jo _ _ ?_
  cases hl : ltInt d[k]! d[a]! with
  | true =>
   simp [hw]
   have := k2 (fun h => by simp [hl] at h) _ (H1.dr 1)
   simpa using this
  | false =>
   simp [hw]
   have := k1 ⟨hik, by simp [hl]⟩ _ (H1.dr 1)
   simpa using this
 ·have b3 : ¬ (i : Int) ≤ k := by omega
  simp [g0, b3]
  have := k2 (fun h => hik h.1) _ (H1.dr 1)
  simpa using this
theorem ahq {w0 w1 : World} {vi : Value} {a k j : Nat} {K0 Kn : KL} {K : KV} (H1 : Rf w0 w1 g e cap d) (hn : d.size = n) (h6 : n < 100000) (ha : a < n) (hj : j < n) (hk : k ≤ j + 2)
  (k1 : (k ≤ j ∧ ltInt d[k]! d[a]! = true) → ∀ w2, Rf w0 w2 g e cap d → Kn [.int .i64 ((k + 1 : Nat) : Int)] w2) (k2 : ¬ (k ≤ j ∧ ltInt d[k]! d[a]! = true) → ∀ w2, Rf w0 w2 g e cap d → K0 [.int .i64 (k : Int)] w2) :
  M.e.j10 [.int .i64 (k : Int)] [vi, .int .i64 (j : Int)] (.slice (some ⟨g, 0, none⟩) n cap) (.int .i64 (a : Int)) K0 Kn w1 K := by
 unfold M.e.j10
 by_cases hkj : k ≤ j
 ·have a1 := H1.row.at (show k < d.size by omega)
  have a2 := H1.row.at (show a < d.size by omega)
  have b1 : (k : Int) < n := by omega
  have b2 : (a : Int) < n := by omega
  have b3 : (k : Int) ≤ j := by omega
  simp [g0, g21, b1, b2, b3, a1, a2]
  refine jo _ _ ?_
  cases hl : ltInt d[k]! d[a]! with
  | true =>
   simp [jg (show k < 1000000 by omega)]
   have := k1 ⟨hkj, hl⟩ _ (H1.dr 1)
   simpa using this
  | false =>
   simp [jg (show k < 1000000 by omega)]
   have := k2 (fun h => by simp [hl] at h) _ (H1.dr 1)
   simpa using this
 ·have b3 : ¬ (k : Int) ≤ j := by omega
  simp [g0, g21, b3]
  have := k2 (fun h => hkj h.1) _ (H1.dr 1)
  simpa using this
theorem ahs {w0 w1 : World} {a k i : Nat} {K0 Kn : KL} {K : KV} (H1 : Rf w0 w1 g e cap d) (hn : d.size = n) (h6 : n < 100000) (hai : a < n ∧ 1 ≤ i) (hk : k < n)
  (k1 : (i ≤ k ∧ (!ltInt d[k]! d[a]!) = true) → ∀ w2, Rf w0 w2 g e cap d → Kn [.int .i64 ((k - 1 : Nat) : Int)] w2) (k2 : ¬ (i ≤ k ∧ (!ltInt d[k]! d[a]!) = true) → ∀ w2, Rf w0 w2 g e cap d → K0 [.int .i64 (k : Int)] w2) :
  M.e.j13 [.int .i64 (i : Int)] [.int .i64 (k : Int)] (.slice (some ⟨g, 0, none⟩) n cap) (.int .i64 (a : Int)) K0 Kn w1 K := by
 unfold M.e.j13
 by_cases hik : i ≤ k
 ·have a1 := H1.row.at (show k < d.size by omega)
  have a2 := H1.row.at (show a < d.size by omega)
  have b1 : (k : Int) < n := by omega
  have b2 : (a : Int) < n := by omega
  have b3 : (i : Int) ≤ k := by omega
  have hw : IntKind.i64.wrap ((k : Int) - 1) = ((k - 1 : Nat) : Int) := by rw [fj (by omega) (by omega)]; omega
  simp [g0, b1, b2, b3, a1, a2]
  refine jo _ _ ?_
  cases hl : ltInt d[k]! d[a]! with
  | true =>
   simp [hw]
   have := k2 (fun h => by simp [hl] at h) _ (H1.dr 1)
   simpa using this
  | false =>
   simp [hw]
   have := k1 ⟨hik, by simp [hl]⟩ _ (H1.dr 1)
   simpa using this
 ·have b3 : ¬ (i : Int) ≤ k := by omega
  simp [g0, b3]
  have := k2 (fun h => hik h.1) _ (H1.dr 1)
  simpa using this
theorem alb {w0 w1 : World} {vi : Value} {a k j : Nat} {K0 Kn : KL} {K : KV} (H1 : Rf w0 w1 g e cap d) (hn : d.size = n) (h6 : n < 100000) (ha : a < n) (hj : j < n) (hk : k ≤ j + 2)
  (k1 : (k ≤ j ∧ (!ltInt d[a]! d[k]!) = true) → ∀ w2, Rf w0 w2 g e cap d → Kn [.int .i64 ((k + 1 : Nat) : Int)] w2) (k2 : ¬ (k ≤ j ∧ (!ltInt d[a]! d[k]!) = true) → ∀ w2, Rf w0 w2 g e cap d → K0 [.int .i64 (k : Int)] w2) :
  M.h.j3 [.int .i64 (k : Int)] [vi, .int .i64 (j : Int)] (.slice (some ⟨g, 0, none⟩) n cap) (.int .i64 (a : Int)) K0 Kn w1 K := by
 unfold M.h.j3
 by_cases hkj : k ≤ j
 ·have a1 := H1.row.at (show k < d.size by omega)
  have a2 := H1.row.at (show a < d.size by omega)
  have b1 : (k : Int) < n := by omega
  have b2 : (a : Int) < n := by omega
  have b3 : (k : Int) ≤ j := by omega
  simp [g0, g21, b1, b2, b3, a1, a2]
  refine jo _ _ ?_
  cases hl : ltInt d[a]! d[k]! with
  | true =>
   simp [jg (show k < 1000000 by omega)]
   have := k2 (fun h => by simp [hl] at h) _ (H1.dr 1)
   simpa using this
  | false =>
   simp [jg (show k < 1000000 by omega)]
   have := k1 ⟨hkj, by simp [hl]⟩ _ (H1.dr 1)
   simpa using this
 ·have b3 : ¬ (k : Int) ≤ j := by omega
  simp [g0, g21, b3]
  have := k2 (fun h => hkj h.1) _ (H1.dr 1)
  simpa using this
theorem akm {w0 w1 : World} {a k i : Nat} {K0 Kn : KL} {K : KV} (H1 : Rf w0 w1 g e cap d) (hn : d.size = n) (h6 : n < 100000) (hai : a < n ∧ 1 ≤ i) (hk : k < n)
  (k1 : (i ≤ k ∧ ltInt d[a]! d[k]! = true) → ∀ w2, Rf w0 w2 g e cap d → Kn [.int .i64 ((k - 1 : Nat) : Int)] w2) (k2 : ¬ (i ≤ k ∧ ltInt d[a]! d[k]! = true) → ∀ w2, Rf w0 w2 g e cap d → K0 [.int .i64 (k : Int)] w2) :
  M.h.j6 [.int .i64 (i : Int)] [.int .i64 (k : Int)] (.slice (some ⟨g, 0, none⟩) n cap) (.int .i64 (a : Int)) K0 Kn w1 K := by
 unfold M.h.j6
 by_cases hik : i ≤ k
 ·have a1 := H1.row.at (show k < d.size by omega)
  have a2 := H1.row.at (show a < d.size by omega)
  have b1 : (k : Int) < n := by omega
  have b2 : (a : Int) < n := by omega
  have b3 : (i : Int) ≤ k := by omega
  have hw : IntKind.i64.wrap ((k : Int) - 1) = ((k - 1 : Nat) : Int) := by rw [fj (by omega) (by omega)]; omega
  simp [g0, b1, b2, b3, a1, a2]
  refine jo _ _ ?_
  cases hl : ltInt d[a]! d[k]! with
  | true =>
   simp [hw]
   have := k1 ⟨hik, hl⟩ _ (H1.dr 1)
   simpa using this
  | false =>
   simp [hw]
   have := k2 (fun h => by simp [hl] at h) _ (H1.dr 1)
   simpa using this
 ·have b3 : ¬ (i : Int) ≤ k := by omega
  simp [g0, b3]
  have := k2 (fun h => hik h.1) _ (H1.dr 1)
  simpa using this
end
def PlI (w : World) (g : Nat) (e : TypeId) (cap n a b : Nat) (R : Nat × Array Int) : KL := fun x w1 => ∃ (i j : Nat) (d : Array Int), x = [.int .i64 (i : Int), .int .i64 (j : Int)] ∧ Rf w w1 g e cap d ∧ d.size = n ∧ a < i ∧ i ≤ j + 2 ∧ j < b ∧ partLoop ltInt a i j d = R
theorem aaq {w : World} {g cap n : Nat} {e : TypeId} {d : Array Int} (H : Rw w g e cap d) (hn : d.size = n) (h6 : n < 100000) {a b pv : Nat} (hb : b ≤ n) (ha : a ≤ pv) (hp : pv < b) {K : KV}
  (h : ∀ w', Rf w w' g e cap (partition ltInt d a b pv).2.2 → K (.tuple #[.int .i64 ((partition ltInt d a b pv).1 : Nat), .bool (partition ltInt d a b pv).2.1]) w') :
  ij P F.ao [.slice (some ⟨g, 0, none⟩) n cap, .int .i64 a, .int .i64 b, .int .i64 pv] w K := by
 apply M.e.calls
 unfold M.e
 have a1 := H.at (show a < d.size by omega)
 have a2 := H.at (show pv < d.size by omega)
 have b1 : (a : Int) < n := by omega
 have b2 : (pv : Int) < n := by omega
 have f1 := H.frz a
 have f2 := H.frz pv
 have hw1 : IntKind.i64.wrap ((a : Int) + 1) = ((a + 1 : Nat) : Int) := jg (by omega)
 have hw2 : IntKind.i64.wrap ((b : Int) - 1) = ((b - 1 : Nat) : Int) := by rw [fj (by omega) (by omega)]; omega
 simp [b1, b2, a1, a2, f1, f2, gj, gp, hw1, hw2, -Int.natCast_add, -fh]
 have H1 := (H.lx.dr 1).swp (i := a) (j := pv) (by omega) (by omega)
 generalize ((dr w 1).setCell ⟨g, a, none⟩ (.int .u64 d[pv]!)).setCell ⟨g, pv, none⟩ (.int .u64 d[a]!) = w1 at *
 clear a1 a2 f1 f2
 unfold partition at h
 have hn1 : (Sort.swp d a pv).size = n := by rw [size_swp]; exact hn
 generalize Sort.swp d a pv = d1 at *
 try simp only at h
 refine xw (p := fun x => ltInt x d1[a]!) (i := a + 1) (j := b - 1) H1.row (by omega) (fun k w2 Kn hk H2 k1 k2 => by refine aku H2 hn1 h6 (by omega) (by omega) hk ?_ ?_ <;> first | exact k1 | exact k2) fun w2 H2 => ?_
 have hge := scanUp_ge (fun x => ltInt x d1[a]!) d1 (b - 1) (a + 1)
 have hle := ts (fun x => ltInt x d1[a]!) d1 (b - 1) (a + 1)
 generalize scanUp (fun x => ltInt x d1[a]!) d1 (b - 1) (a + 1) = i at *
 refine tm (n := n) (p := fun x => !ltInt x d1[a]!) H2.row (by omega) (i := i) (j := b - 1) (by omega) (fun k w3 Kn hk H3 k1 k2 => by refine akk H3 hn1 h6 (by omega) hk ?_ ?_ <;> first | exact k1 | exact k2) fun w3 H3 => ?_
 have hdl := scanDown_le (fun x => !ltInt x d1[a]!) d1 i (b - 1)
 generalize scanDown (fun x => !ltInt x d1[a]!) d1 i (b - 1) = j at *
 have H3' := H1.trans (H2.trans H3)
 unfold M.e.j3
 have c1 := H3.row.at (show a < d1.size by omega)
 have c2 := H3.row.at (show j < d1.size by omega)
 have e1 : (j : Int) < n := by omega
 have f1 := H3.row.frz a
 have f2 := H3.row.frz j
 simp only [fh, g0]
 by_cases hij : i > j
 ·have hij' : (j : Int) < i := by omega
  rw [if_pos hij] at h
  simp [hij', b1, e1, c1, c2, f1, f2, gj, gp, -Int.natCast_add]
  exact h _ ((H3'.dr 1).swp (by omega) (by omega))
 ·have hij' : ¬ (j : Int) < i := by omega
  rw [if_neg hij] at h
  simp only [nt, hij', decide_false, Eng.cond_false]
  unfold M.e.j6
  have c3 := H3.row.at (show i < d1.size by omega)
  have e2 : (i : Int) < n := by omega
  have f3 := H3.row.frz i
  have hw3 : IntKind.i64.wrap ((i : Int) + 1) = ((i + 1 : Nat) : Int) := jg (by omega)
  have hw4 : IntKind.i64.wrap ((j : Int) - 1) = ((j - 1 : Nat) : Int) := by rw [fj (by omega) (by omega)]; omega
  simp [g0, e1, e2, c2, c3, f2, f3, gj, gp, hw3, hw4, -Int.natCast_add, -fh]
  rw [fh]
  have H4 := (H3'.dr 1).swp (i := i) (j := j) (by omega) (by omega)
  generalize ((dr w3 1).setCell ⟨g, i, none⟩ (.int .u64 d1[j]!)).setCell ⟨g, j, none⟩ (.int .u64 d1[i]!) = w4 at *
  have hn2 : (Sort.swp d1 i j).size = n := by rw [size_swp]; exact hn1
  generalize Sort.swp d1 i j = d2 at *
  generalize hr : partLoop ltInt a (i + 1) (j - 1) d2 = r at *
  refine ⟨PlI w g e cap n a b r, fun x _ => ms x 1 + 2 - ms x 0, ⟨i + 1, j - 1, d2, rfl, H4, hn2, by omega, by omega, by omega, hr⟩, ?_⟩
  rintro x w5 ⟨i5, j5, d5, rfl, H5, hn5, ha5, hij5, hj5, hR⟩
  rw [partLoop_eq] at hR
  refine xw (p := fun x => ltInt x d5[a]!) (i := i5) (j := j5) H5.row hij5 (fun k w6 Kn hk H6 k1 k2 => by refine ahq H6 hn5 h6 (by omega) (by omega) hk ?_ ?_ <;> first | exact k1 | exact k2) fun w6 H6 => ?_
  have hge := scanUp_ge (fun x => ltInt x d5[a]!) d5 j5 i5
  have hle := ts (fun x => ltInt x d5[a]!) d5 j5 i5
  generalize scanUp (fun x => ltInt x d5[a]!) d5 j5 i5 = i6 at *
  unfold M.e.j9
  simp only [g21]
  refine tm (n := n) (p := fun x => !ltInt x d5[a]!) H6.row (by omega) (i := i6) (j := j5) (by omega) (fun k w7 Kn hk H7 k1 k2 => by refine ahs H7 hn5 h6 (by omega) hk ?_ ?_ <;> first | exact k1 | exact k2) fun w7 H7 => ?_
  have hdl := scanDown_le (fun x => !ltInt x d5[a]!) d5 i6 j5
  generalize scanDown (fun x => !ltInt x d5[a]!) d5 i6 j5 = j6 at *
  have H7' := H5.trans (H6.trans H7)
  try simp only at hR
  simp only [g0, fh]
  by_cases hgt : i6 > j6
  ·have hgt' : (j6 : Int) < i6 := by omega
   rw [if_pos hgt] at hR
   simp only [nt, hgt', decide_true, Eng.cond_true]
   unfold M.e.j7
   have c1 := H7.row.at (show a < d5.size by omega)
   have c2 := H7.row.at (show j6 < d5.size by omega)
   have e1 : (j6 : Int) < n := by omega
   have f1 := H7.row.frz a
   have f2 := H7.row.frz j6
   simp [g21, b1, e1, c1, c2, f1, f2, gj, gp, -Int.natCast_add]
   subst hR
   exact h _ ((H7'.dr 1).swp (by omega) (by omega))
  ·have hgt' : ¬ (j6 : Int) < i6 := by omega
   rw [if_neg hgt] at hR
   simp only [nt, hgt', decide_false, Eng.cond_false]
   unfold M.e.j15
   have c1 := H7.row.at (show i6 < d5.size by omega)
   have c2 := H7.row.at (show j6 < d5.size by omega)
   have e1 : (j6 : Int) < n := by omega
   have e2 : (i6 : Int) < n := by omega
   have f1 := H7.row.frz i6
   have f2 := H7.row.frz j6
   have hw3 : IntKind.i64.wrap ((i6 : Int) + 1) = ((i6 + 1 : Nat) : Int) := jg (by omega)
   have hw4 : IntKind.i64.wrap ((j6 : Int) - 1) = ((j6 - 1 : Nat) : Int) := by rw [fj (by omega) (by omega)]; omega
   simp [g0, e1, e2, c1, c2, f1, f2, gj, gp, hw3, hw4, -Int.natCast_add]
   refine ⟨⟨i6 + 1, j6 - 1, _, rfl, (H7'.dr 1).swp (by omega) (by omega), by rw [size_swp]; exact hn5, by omega, by omega, by omega, hR⟩, ?_⟩
   simp [ms, gv]; omega
def PeI (w : World) (g : Nat) (e : TypeId) (cap n a b : Nat) (R : Nat × Array Int) : KL := fun x w1 => ∃ (i j : Nat) (d : Array Int), x = [.int .i64 (i : Int), .int .i64 (j : Int)] ∧ Rf w w1 g e cap d ∧ d.size = n ∧ a < i ∧ i ≤ j + 2 ∧ j < b ∧ partEqLoop ltInt a i j d = R
theorem ut {w : World} {g cap n : Nat} {e : TypeId} {d : Array Int} (H : Rw w g e cap d) (hn : d.size = n) (h6 : n < 100000) {a b pv : Nat} (hb : b ≤ n) (ha : a ≤ pv) (hp : pv < b) {K : KV}
  (h : ∀ w', Rf w w' g e cap (partitionEqual ltInt d a b pv).2 → K (.int .i64 ((partitionEqual ltInt d a b pv).1 : Nat)) w') :
  ij P F.w [.slice (some ⟨g, 0, none⟩) n cap, .int .i64 a, .int .i64 b, .int .i64 pv] w K := by
 apply M.h.calls
 unfold M.h
 have a1 := H.at (show a < d.size by omega)
 have a2 := H.at (show pv < d.size by omega)
 have b1 : (a : Int) < n := by omega
 have b2 : (pv : Int) < n := by omega
 have f1 := H.frz a
 have f2 := H.frz pv
 have hw1 : IntKind.i64.wrap ((a : Int) + 1) = ((a + 1 : Nat) : Int) := jg (by omega)
 have hw2 : IntKind.i64.wrap ((b : Int) - 1) = ((b - 1 : Nat) : Int) := by rw [fj (by omega) (by omega)]; omega
 simp [b1, b2, a1, a2, f1, f2, gj, gp, hw1, hw2, -Int.natCast_add, -fh]
 have H1 := (H.lx.dr 1).swp (i := a) (j := pv) (by omega) (by omega)
 generalize ((dr w 1).setCell ⟨g, a, none⟩ (.int .u64 d[pv]!)).setCell ⟨g, pv, none⟩ (.int .u64 d[a]!) = w1 at *
 clear a1 a2 f1 f2
 unfold partitionEqual at h
 have hn1 : (Sort.swp d a pv).size = n := by rw [size_swp]; exact hn
 generalize Sort.swp d a pv = d1 at *
 generalize hr : partEqLoop ltInt a (a + 1) (b - 1) d1 = r at *
 rw [fh]
 refine ⟨PeI w g e cap n a b r, fun x _ => ms x 1 + 2 - ms x 0, ⟨a + 1, b - 1, d1, rfl, H1, hn1, by omega, by omega, by omega, hr⟩, ?_⟩
 rintro x w5 ⟨i5, j5, d5, rfl, H5, hn5, ha5, hij5, hj5, hR⟩
 rw [partEqLoop_eq] at hR
 simp only [g20]
 refine xw (p := fun x => !ltInt d5[a]! x) (i := i5) (j := j5) H5.row hij5 (fun k w6 Kn hk H6 k1 k2 => by refine alb H6 hn5 h6 (by omega) (by omega) hk ?_ ?_ <;> first | exact k1 | exact k2) fun w6 H6 => ?_
 have hge := scanUp_ge (fun x => !ltInt d5[a]! x) d5 j5 i5
 have hle := ts (fun x => !ltInt d5[a]! x) d5 j5 i5
 generalize scanUp (fun x => !ltInt d5[a]! x) d5 j5 i5 = i6 at *
 unfold M.h.j2
 simp only [g21]
 refine tm (n := n) (p := fun x => ltInt d5[a]! x) H6.row (by omega) (i := i6) (j := j5) (by omega) (fun k w7 Kn hk H7 k1 k2 => by refine akm H7 hn5 h6 (by omega) hk ?_ ?_ <;> first | exact k1 | exact k2) fun w7 H7 => ?_
 have hdl := scanDown_le (fun x => ltInt d5[a]! x) d5 i6 j5
 generalize scanDown (fun x => ltInt d5[a]! x) d5 i6 j5 = j6 at *
 have H7' := H5.trans (H6.trans H7)
 try simp only at hR
 simp only [g0, fh]
 by_cases hgt : i6 > j6
 ·have hgt' : (j6 : Int) < i6 := by omega
  rw [if_pos hgt] at hR
  simp only [nt, hgt', decide_true, Eng.cond_true, g20]
  subst hR
  exact h _ H7'
 ·have hgt' : ¬ (j6 : Int) < i6 := by omega
  rw [if_neg hgt] at hR
  simp only [nt, hgt', decide_false, Eng.cond_false]
  unfold M.h.j8
  have c1 := H7.row.at (show i6 < d5.size by omega)
  have c2 := H7.row.at (show j6 < d5.size by omega)
  have e1 : (j6 : Int) < n := by omega
  have e2 : (i6 : Int) < n := by omega
  have f1 := H7.row.frz i6
  have f2 := H7.row.frz j6
  have hw3 : IntKind.i64.wrap ((i6 : Int) + 1) = ((i6 + 1 : Nat) : Int) := jg (by omega)
  have hw4 : IntKind.i64.wrap ((j6 : Int) - 1) = ((j6 - 1 : Nat) : Int) := by rw [fj (by omega) (by omega)]; omega
  simp [g0, e1, e2, c1, c2, f1, f2, gj, gp, hw3, hw4, -Int.natCast_add]
  refine ⟨⟨i6 + 1, j6 - 1, _, rfl, (H7'.dr 1).swp (by omega) (by omega), by rw [size_swp]; exact hn5, by omega, by omega, by omega, hR⟩, ?_⟩
  simp [ms, gv]; omega
end Go.Proofs.YtfnhoaemapheoaaGreat.Suint64
