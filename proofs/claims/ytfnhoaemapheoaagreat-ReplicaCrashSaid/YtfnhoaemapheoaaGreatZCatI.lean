/-
  slices.Concat at int. No condition.
-/
import Derived.Test.YtfnhoaemapheoaaGreatZEngSl
import Derived.Test.YtfnhoaemapheoaaGreatZKeyD
import Derived.Test.YtfnhoaemapheoaaGreatM
import Derived.Test.YtfnhoaemapheoaaGreatFacts
import Derived.Test.YtfnhoaemapheoaaGreatZMs0
import Derived.Test.YtfnhoaemapheoaaGreatZSpn0
import Derived.Sort.AssemblyPlain
set_option maxRecDepth 100000
namespace Go.Proofs.YtfnhoaemapheoaaGreat.CI
open Go.Eng Go.Proofs.YtfnhoaemapheoaaGreat.Sint
theorem bcr (x : Int) : ∀ u ∈ qm x, ju u = true := fun u hu => by simp at hu; subst hu; rfl
theorem alj {w : World} {n : Nat} (hn : n ≤ 1000000000) {K : KV} (h : ∀ w' v, Ow w' w.heap.size T.b 1 qm v [] → Fr (fun _ => False) w w' → K v w') :
  jb P F.cm [.slice none 0 0, .int .i64 n] w K := by
 apply M.cd.calls
 unfold M.cd
 have hneg : ¬ (n : Int) < 0 := by omega
 simp [hneg]
 unfold M.cd.j0
 have hsl : mq P T.k = true := by kernel_rfl
 have w0 : IntKind.i64.wrap 0 = 0 := by decide
 have wn : IntKind.i64.wrap (n : Int) = n := ft (by omega) (by omega)
 rw [fo, ajt hsl, wv hsl]
 simp only [jm, nn]
 have e1 : IntKind.i64.wrap ((n : Int) - IntKind.i64.wrap (((0 : Nat) : Int) - ((0 : Nat) : Int))) = n := by
  rw [show ((0 : Nat) : Int) - ((0 : Nat) : Int) = 0 from by omega, w0, Int.sub_zero, wn]
 rw [e1]
 by_cases h0 : 0 < n
 ·have h0' : (0 : Int) < n := by omega
  simp only [h0', decide_true, Eng.cond_true]
  rw [ajt hsl, yo (i := 0) (j := 0) hsl (.inl ⟨rfl, rfl⟩) (.inr ⟨.i64, rfl⟩) (Nat.le_refl _) (Nat.le_refl _)]
  refine aza (enc := qm) et.k (kn := .i64) (by kernel_rfl) h0 hn (by decide) _ fun w' cap hc o f => ?_
  rw [wv hsl, yo (i := 0) (j := 0) hsl (.inl ⟨rfl, rfl⟩) (.inr ⟨.i64, rfl⟩) (Nat.le_refl _) (Nat.zero_le _)]
  rw [if_neg (by omega)]
  have := h w' _ o f
  simpa [Addr.add, gv] using this
 ·have h0' : ¬ (0 : Int) < n := by omega
  simp only [h0', decide_false, Eng.cond_false]
  exact h w _ Ow.none (Fr.refl _ _)
abbrev Sls (w : World) (v : Value) (l : List Int) : Prop := Sl w 1 qm v l
abbrev Ows (w : World) (base : Nat) (v : Value) (l : List Int) : Prop := Ow w base T.b 1 qm v l
def tot (L : List (Value × List Int)) : Nat := (L.map fun p => p.2.length).sum
theorem ace {L : List (Value × List Int)} {i : Nat} (hi : i < L.length) : tot (L.take (i + 1)) = tot (L.take i) + L[i].2.length := by
 unfold tot
 rw [List.take_succ_eq_append_getElem hi, List.map_append, List.sum_append]; simp
theorem agi {L : List (Value × List Int)} (i : Nat) : tot (L.take i) ≤ tot L := by
 unfold tot
 conv => rhs; rw [← List.take_append_drop i L, List.map_append, List.sum_append]
 omega
theorem ajf (L : List (Value × List Int)) : (L.flatMap (·.2)).length = tot L := by
 unfold tot
 induction L with
 | nil => rfl
 | cons p L ih => simp [ih]
def CaI (w : World) (L : List (Value × List Int)) : KL := fun x w1 => ∃ (u : Value) (i : Nat), x = [u, .int .i64 (tot (L.take i) : Nat), .int .i64 (i : Nat)] ∧ w1 = w ∧ i ≤ L.length
def CbI (w : World) (L : List (Value × List Int)) : KL := fun x w1 => ∃ (u v : Value) (i : Nat), x = [u, v, .int .i64 (i : Nat)] ∧ i ≤ L.length ∧ Fr (fun _ => False) w w1 ∧ Ows w1 w.heap.size v ((L.take i).flatMap (·.2))
theorem zt {w : World} {b cap : Nat} {L : List (Value × List Int)} {e : TypeId} (hb : w.heap[b]? = some (.cells (L.map (·.1)).toArray e (0, 0))) (hs : ∀ p ∈ L, Sls w p.1 p.2) (ht : tot L ≤ 100000000) (hL : L.length ≤ 1000) {K : KV}
  (h : ∀ w' v, Ows w' w.heap.size v (L.flatMap (·.2)) → Fr (fun _ => False) w w' → K v w') : jb P F.bg [.slice (some ⟨b, 0, none⟩) L.length cap] w K := by
 apply M.ak.calls
 unfold M.ak
 have hss : mq P T.ay = true := by kernel_rfl
 have hsl : mq P T.k = true := by kernel_rfl
 have q0 : ∀ a b c : Value, gv [a, b, c] 0 = a := fun _ _ _ => rfl
 have q1 : ∀ a b c : Value, gv [a, b, c] 1 = b := fun _ _ _ => rfl
 have q2 : ∀ a b c : Value, gv [a, b, c] 2 = c := fun _ _ _ => rfl
 have q4 : ∀ a b c d e : Value, gv [a, b, c, d, e] 4 = e := fun _ _ _ _ _ => rfl
 have cell : ∀ (w' : World), Fr (fun _ => False) w w' → ∀ (i : Nat) (hi : i < L.length), fx w' b i = some L[i].1 := fun w' f i hi => by
  rw [fy (f.heap hb fun h => h)]
  simp [hi]
 rw [fo, wv hss]
 refine ⟨CaI w L, fun x _ => L.length - ms x 2, ⟨_, 0, rfl, rfl, Nat.zero_le _⟩, ?_⟩
 rintro x w1 ⟨u, i, rfl, rfl, hi⟩
 simp only [q0, q1, q2, kf, fo]
 by_cases hil : i < L.length
 ·have hil' : (i : Int) < L.length := by omega
  simp only [hil', decide_true, Eng.cond_true]
  unfold M.ak.j2
  have hwi : IntKind.i64.wrap ((i : Int) + 1) = ((i + 1 : Nat) : Int) := by rw [ft (by omega) (by omega)]; rfl
  have c0 := cell w1 (Fr.refl _ _) i hil
  have hsi := hs L[i] (List.getElem_mem hil)
  obtain ⟨a', cap', hv', _⟩ := hsi
  have htt := ace hil
  have hle := agi (L := L) (i + 1)
  have hwt : IntKind.i64.wrap ((tot (L.take i) : Int) + (L[i].2.length : Int)) = ((tot (L.take (i + 1)) : Nat) : Int) := by rw [ft (by omega) (by omega)]; omega
  have hng : ¬ ((tot (L.take (i + 1)) : Nat) : Int) < 0 := by omega
  simp only [q0, q1, q2, fo]
  simp [hil, c0, hv', hwt, hwi, -Int.natCast_add]
  refine ⟨⟨_, i + 1, rfl, rfl, by omega⟩, ?_⟩
  simp [ms, gv]; omega
 ·have hie : i = L.length := by omega
  have hil' : ¬ (i : Int) < L.length := by omega
  simp only [hil', decide_false, Eng.cond_false]
  have htk : L.take i = L := List.take_of_length_le (by omega)
  rw [htk]
  unfold M.ak.j0
  simp only [q4]
  rw [M.cd.fcall]
  refine alj (by omega) fun w2 v2 o2 f2 => ?_
  rw [fo, wv hss]
  refine ⟨CbI w1 L, fun x _ => L.length - ms x 2, ⟨_, v2, 0, rfl, Nat.zero_le _, f2, o2⟩, ?_⟩
  rintro x w3 ⟨u', v, j, rfl, hj, f3, o3⟩
  simp only [q0, q1, q2, kf, fo]
  by_cases hjl : j < L.length
  ·have hjl' : (j : Int) < L.length := by omega
   simp only [hjl', decide_true, Eng.cond_true]
   unfold M.ak.j6
   have hwj : IntKind.i64.wrap ((j : Int) + 1) = ((j + 1 : Nat) : Int) := by rw [ft (by omega) (by omega)]; rfl
   have c0 := cell w3 f3 j hjl
   have hsj := (hs L[j] (List.getElem_mem hjl)).fr f3 fun _ _ _ h => h
   have hl1 : ((L.take j).flatMap (·.2)).length = tot (L.take j) := ajf _
   have htt := ace hjl
   have hle := agi (L := L) (j + 1)
   simp only [q0, q1, q2, fo]
   simp [hjl, c0, -List.length_flatMap]
   have hge := f3.size
   refine qd et.k uy bcr o3 hsj (by rw [hl1]; omega) (by decide) hge _ fun v' w4 o4 f4 g4 => ?_
   simp only [hwj]
   refine ⟨⟨_, v', j + 1, rfl, by omega, f3.jq f4 fun x hx he => by have := (o3.lt he).1; omega, ?_⟩, ?_⟩
   ·rw [List.take_succ_eq_append_getElem hjl, List.flatMap_append]
    simpa using o4
   ·simp [ms, gv]; omega
  ·have hjl' : ¬ (j : Int) < L.length := by omega
   simp only [hjl', decide_false, Eng.cond_false, q4]
   have htj : L.take j = L := List.take_of_length_le (by omega)
   rw [htj] at o3
   exact h w3 v o3 f3
end Go.Proofs.YtfnhoaemapheoaaGreat.CI
set_option maxRecDepth 100000
namespace Go.Proofs.YtfnhoaemapheoaaGreat
open Go.Eng Go.Proofs.YtfnhoaemapheoaaGreat.Sint
def wt (ns : List Int) : Nat → Nat → List Int
 | 0, _ => ns
 | f + 1, i => match ns[i]? with
  | none => ns
  | some n => if 0 < i ∧ (n + 63) % 64 ∉ ns then ns.drop i ++ ns.take i else wt ns f (i + 1)
def yh (ns : List Int) : List Int := wt ns ns.length 0
section
variable {w0 w : World} {R : List Asn} {v : Value} {ns : List Int}
abbrev SlI (w : World) (v : Value) (l : List Int) : Prop := Sl w 1 qm v l
def IxI (w0 : World) (ns : List Int) (x : Int) : KL := fun y w1 => ∃ (u0 u1 : Value) (i : Nat), y = [u0, u1, .int .i64 (i : Nat)] ∧ i ≤ ns.length ∧ w1 = w0 ∧ x ∉ ns.take i
theorem bdl (hs : SlI w v ns) (hl : ns.length ≤ 1000000) (x : Int) {K : KV} (h : K (.bool (decide (x ∈ ns))) w) : fk P F.bq [v, .int .i64 x] w K := by
 rw [M.cu.fcall]
 apply M.cu.calls
 unfold M.cu
 rw [M.bx.fcall]
 apply M.bx.calls
 unfold M.bx
 have hlen : ∀ w' K, biT P .len #[T.k] T.b [false] [v] w' K = K (.int .i64 ns.length) w' := fun w' K => hs.ip (by kernel_rfl) [false]
 simp [hlen]
 refine ⟨IxI w ns x, fun y _ => ns.length - ms y 2, ⟨_, _, 0, rfl, Nat.zero_le _, rfl, by simp⟩, ?_⟩
 rintro y w1 ⟨u0, u1, i, rfl, hi, rfl, hn⟩
 by_cases hlt : i < ns.length
 ·have hlti : (i : Int) < (ns.length : Int) := by omega
  obtain ⟨b, o, cap, hv, _, _, hc⟩ := hs.at hlt
  have c0 := hc 0 _ rfl
  simp only [Nat.mul_one, Nat.add_zero] at c0
  have hia : ∀ w' K, iaT P T.k v (.int .i64 (i : Nat)) w' K = K (.pointer (some ⟨b, o + i, none⟩)) w' := fun w' K => by rw [hv]; simp [hlt]
  simp [hlti]
  unfold M.bx.j2
  simp [hia, c0]
  by_cases hx : ns[i] = x
  ·have hin : x ∈ ns := hx ▸ List.getElem_mem hlt
   have hge : (0 : Int) ≤ (i : Int) := by omega
   simp [hx]
   simpa [hin, hge] using h
  ·have hx' : ¬ x = ns[i] := fun h => hx h.symm
   simp [hx']
   have hw : IntKind.i64.wrap ((i : Int) + 1) = ((i + 1 : Nat) : Int) := by rw [ft (by omega) (by omega)]; omega
   rw [hw]
   refine ⟨⟨_, _, i + 1, rfl, hlt, rfl, ?_⟩, ?_⟩
   ·rw [List.take_succ_eq_append_getElem hlt, List.mem_append, List.mem_singleton]
    exact fun h => h.elim hn hx'
   ·simp [ms, gv]; omega
 ·have hge : ¬ (i : Int) < (ns.length : Int) := by omega
  rw [List.take_of_length_le (by omega)] at hn
  simp [hge]
  simpa [hn] using h
theorem awu {v1 v2 : Value} {l1 l2 : List Int} (S : St w0 w R) (s1 : SlI w v1 l1) (s2 : SlI w v2 l2) (hl : l1.length + l2.length ≤ 100000000) {K : KV} (h : ∀ w' v', St w0 w' (qk v' (l1 ++ l2) :: R) → K v' w') :
  bsT P T.ay 2 #[(0, v1), (1, v2)] w fun t w => fk P F.bg [t] w K := by
 obtain ⟨a1, k1, hv1, _⟩ := id s1
 obtain ⟨a2, k2, hv2, _⟩ := id s2
 have hbs : ∀ K', bsT P T.ay 2 #[(0, v1), (1, v2)] w K' = K' (.slice (some ⟨w.heap.size, 0, none⟩) 2 2) (w.alloc (.cells #[v1, v2] T.k)) := fun K' => by rw [hv1, hv2]; simp
 rw [hbs]
 have f1 : Fr (fun _ => False) w (w.alloc (.cells #[v1, v2] T.k)) := (Fr.refl _ w).alloc _
 have hn : (w.alloc (.cells #[v1, v2] T.k)).heap[w.heap.size]? = some (.cells (([(v1, l1), (v2, l2)] : List (Value × List Int)).map (·.1)).toArray T.k (0, 0)) := by
  rw [gm, if_pos rfl]; rfl
 rw [M.ak.fcall]
 refine CI.zt (L := [(v1, l1), (v2, l2)]) hn (fun p hp => ?_) (by simp [CI.tot]; omega) (by simp) fun w' v o f2 => ?_
 ·simp at hp
  rcases hp with rfl | rfl
  ·exact s1.fr f1 fun _ _ _ h => h
  ·exact s2.fr f1 fun _ _ _ h => h
 ·have hs : w.heap.size ≤ (w.alloc (.cells #[v1, v2] T.k)).heap.size := f1.size
  refine h w' v (S.add (a := qk v (l1 ++ l2)) (f1.trans f2) (B := fun b => v.ownBlock = some b) ⟨?_, fun b hb => hb⟩ fun b hb => ?_)
  ·simpa using o.mono (Nat.zero_le _)
  ·have := o.lt hb
   exact ⟨by omega, this.2⟩
def OrW (w0 : World) (v : Value) (ns : List Int) (R : List Asn) : KL := fun y w1 => ∃ (u0 u1 u2 : Value) (i f : Nat), y = [u0, u1, u2, .int .i64 (i : Nat)] ∧ i + f = ns.length ∧ yh ns = wt ns f i ∧ St w0 w1 (qk v ns :: R)
theorem bak (S : St w0 w (qk v ns :: R)) (hl : ns.length ≤ 1000000) (hr : ∀ n ∈ ns, 0 ≤ n ∧ n < 64) {K : KV} (h : ∀ w' v', St w0 w' (qk v' (yh ns) :: R) → K v' w') : fk P F.ex [v] w K := by
 rw [M.en.fcall]
 apply M.en.calls
 unfold M.en
 have hlen : ∀ {w1 : World}, St w0 w1 (qk v ns :: R) → ∀ w' K, biT P .len #[T.k] T.b [false] [v] w' K = K (.int .i64 ns.length) w' := fun S w' K => (S.row uy : SlI _ v ns).ip (by kernel_rfl) [false]
 simp [hlen S]
 refine ⟨OrW w0 v ns R, fun y _ => ns.length - ms y 3, ⟨_, _, _, 0, ns.length, rfl, by omega, rfl, S⟩, ?_⟩
 rintro y w1 ⟨u0, u1, u2, i, f, rfl, hif, ho, S1⟩
 have hs : SlI w1 v ns := S1.row uy
 by_cases hlt : i < ns.length
 ·have hlti : (i : Int) < (ns.length : Int) := by omega
  obtain ⟨b, o, cap, hv, _, _, hc⟩ := hs.at hlt
  have c0 := hc 0 _ rfl
  simp only [Nat.mul_one, Nat.add_zero] at c0
  have hia : ∀ w' K, iaT P T.k v (.int .i64 (i : Nat)) w' K = K (.pointer (some ⟨b, o + i, none⟩)) w' := fun w' K => by rw [hv]; simp [hlt]
  have hr1 := hr _ (List.getElem_mem hlt)
  simp [hlti]
  unfold M.en.j2
  have hw1 : IntKind.i64.wrap (ns[i] + 64) = ns[i] + 64 := ft (by omega) (by omega)
  have hw2 : IntKind.i64.wrap (ns[i] + 64 - 1) = ns[i] + 63 := by rw [ft (by omega) (by omega)]; omega
  have et : (ns[i] + 63).tmod 64 = (ns[i] + 63) % 64 := by rw [Int.tmod_eq_emod_of_nonneg (by omega)]
  simp [hia, c0, hw1, hw2, ast, et]
  refine bdl hs hl _ ?_
  cases f with
  | zero => omega
  | succ f =>
   rw [wt, List.getElem?_eq_getElem hlt] at ho
   simp only at ho
   have hw : IntKind.i64.wrap ((i : Int) + 1) = ((i + 1 : Nat) : Int) := by rw [ft (by omega) (by omega)]; omega
   by_cases hin : (ns[i] + 63) % 64 ∈ ns
   ·rw [if_neg (fun hx => hx.2 hin)] at ho
    simp [hin]
    rw [hw]
    refine ⟨⟨_, _, _, i + 1, f, rfl, by omega, ho, S1⟩, ?_⟩
    simp [ms, gv]; omega
   ·by_cases h0 : 0 < i
    ·rw [if_pos ⟨h0, hin⟩] at ho
     rw [ho] at h
     have h0i : (0 : Int) < (i : Int) := by omega
     simp [hin, h0]
     have S2 := S1.iu ((Fr.refl _ w1).dr 1)
     have hs2 : SlI (dr w1 1) v ns := S2.row uy
     obtain ⟨va, sa, _, ra⟩ := hs2.sub (P := P) (t := T.k) (lo := some (.int .i64 (i : Nat))) (hi := none) (i := i) (j := ns.length) (by kernel_rfl) (by kernel_rfl) (.inr ⟨_, rfl⟩) (.inl ⟨rfl, rfl⟩) (by omega) (Nat.le_refl _)
     obtain ⟨vb, sb, _, rb⟩ := hs2.sub (P := P) (t := T.k) (lo := none) (hi := some (.int .i64 (i : Nat))) (i := 0) (j := i) (by kernel_rfl) (by kernel_rfl) (.inl ⟨rfl, rfl⟩) (.inr ⟨_, rfl⟩) (by omega) (by omega)
     rw [ra]
     refine ⟨rfl, ?_⟩
     rw [rb]
     refine ⟨rfl, ?_⟩
     have ea : (ns.drop i).take (ns.length - i) = ns.drop i := List.take_of_length_le (by simp)
     have eb : (ns.drop 0).take (i - 0) = ns.take i := by simp
     rw [ea] at sa
     rw [eb] at sb
     refine awu S2 sa sb (by simp; omega) fun w2 v2 S3 => h w2 v2 ?_
     exact S3.swap.drop
    ·rw [if_neg (fun hx => h0 hx.1)] at ho
     have h0i : ¬ (0 : Int) < (i : Int) := by omega
     simp [hin, h0]
     rw [hw]
     refine ⟨⟨_, _, _, i + 1, f, rfl, by omega, ho, S1⟩, ?_⟩
     simp [ms, gv]; omega
 ·have hge : ¬ (i : Int) < (ns.length : Int) := by omega
  have hf0 : f = 0 := by omega
  subst hf0
  rw [ho] at h
  simp [hge]
  exact h w1 v S1
end
set_option maxRecDepth 100000
open Go.Eng Go.Proofs.YtfnhoaemapheoaaGreat.Sint
def aar (k : Int) (a : List (List Int) × Nat) : Prt := ⟨k, IntKind.i64.wrap (nf (a.1.headD [])), a.1.tail, (a.2 : Int)⟩
def om (D : Dk) (k : Int) (kb : Bool) : (Dk × Option Prt) × Int :=
 if (D.kj k).2 ≠ 0 then ((D, none), (D.kj k).2) else
 if kb = false ∧ (ub (D.kj k).1).2 < (D.kj k).1.length then ((D, none), 6) else
 if (ub (D.kj k).1).1 = [] ∧ kb = true then (((D.oc k).1, none), (D.oc k).2) else
 if (ub (D.kj k).1).1 = [] ∨ ((ub (D.kj k).1).1.headD []).length ≠ 8 then ((D, none), 6) else
 if (ub (D.kj k).1).2 < (D.kj k).1.length then
  (if (D.cut k (ub (D.kj k).1).2).2 ≠ 0 then (((D.cut k (ub (D.kj k).1).2).1, none), (D.cut k (ub (D.kj k).1).2).2) else (((D.cut k (ub (D.kj k).1).2).1, some (aar k (ub (D.kj k).1))), 0))
 else ((D, some (aar k (ub (D.kj k).1))), 0)
section
variable {w0 w : World} {R : List Asn} {p hb : Nat} {v : Value} {ps : List Nat} {L : Lg} {q : Prt} {D : Dk}
theorem azm (S : St w0 w (gk hb D :: R)) (k : Int) : (D.kj k).1.length ≤ 1048576 := by
 obtain ⟨r, m, es, hk, _⟩ := xj S
 unfold Dk.kj
 split
 ·simp
 ·cases hg : D.get k with
  | none => simp
  | some f =>
   have h1 := hk.ie
   have h2 := hk.ib
   have h3 : f.len ≤ D.ib := afa (List.mem_map_of_mem (List.mem_of_find?_eq_some hg))
   simp only [List.length_append]
   unfold Fil.len at h3
   omega
theorem baw {lv : Value} {d : List Int} {r : List (List Int)} {us : Nat} (S : St w0 w (jv lv (d :: r) :: R)) (hd : d.length = 8) {k : Int} {K : KV} (h : ∀ w' np, St w0 w' (mw np (aar k (d :: r, us)) :: R) → K (.tuple #[jd np, .int .i64 0]) w') : M.bi.j1 lv (.int .i64 us) (.int .i64 k) w K := by
 unfold M.bi.j1
 have S1 := S.iu ((Fr.refl _ w).dr 1)
 obtain ⟨b, o, s, hia, hcs, cc, hs⟩ := adr S1 (i := 0) (by simp)
 have hia0 : ∀ w' K, iaT P T.m lv (.int .i64 0) w' K = K (.pointer (some ⟨b, o, none⟩)) w' := hia
 obtain ⟨v', S2, hsl⟩ := axw S1 (k := .i64)
 simp only [SV.v] at cc
 have cc1 : fx w b o = some (.slice s.a s.n s.c) := by simpa using cc
 simp only [List.getElem_cons_zero] at hs
 simp [hia0, cc1, hsl]
 refine aws hs (by omega) ?_
 obtain ⟨sv, rfl⟩ := atc S2
 simp [hsl, SV.v]
 rw [lw (ks := .u64) (kd := .i64) (by kernel_rfl) (by kernel_rfl)]
 simp
 have S3 := adi S2 (sw (aar k (d :: r, us)) sv.v) T.af
 exact h _ _ (aky S3)
theorem ben (S : St w0 w (gc p (nc hb L.gp v) T.ac :: gk hb D :: R)) (k : Int) (kb : Bool) {K : KV}
  (hn : ∀ w', (om D k kb).1.2 = none → St w0 w' (gc p (nc hb L.gp v) T.ac :: gk hb (om D k kb).1.1 :: R) → K (.tuple #[.pointer none, .int .i64 (om D k kb).2]) w')
  (hs : ∀ w' np q, om D k kb = (((om D k kb).1.1, some q), 0) → St w0 w' (mw np q :: gc p (nc hb L.gp v) T.ac :: gk hb (om D k kb).1.1 :: R) → K (.tuple #[jd np, .int .i64 0]) w') :
  fk P F.cb [jd p, .int .i64 k, .bool kb] w K := by
 rw [M.bi.fcall]
 apply M.bi.calls
 unfold M.bi
 obtain ⟨c0, _⟩ := ll S.blk
 have hrl := azm S.swap k
 simp only [jd]
 simp [c0]
 refine bey S.swap k fun w1 v1 S1 => ?_
 have S2 : St w0 w1 (jt v1 (D.kj k).1 :: gc p (nc hb L.gp v) T.ac :: gk hb D :: R) := S1.tail (.swap _ _ _)
 unfold om at hn hs
 generalize D.kj k = rd at *
 obtain ⟨l, kd⟩ := rd
 simp only at hrl S2 hn hs ⊢
 by_cases hkd : kd ≠ 0
 ·rw [if_pos hkd] at hn
  simp [hkd]
  exact hn w1 rfl S2.drop
 ·rw [if_neg hkd] at hn hs
  have hkd0 : kd = 0 := by omega
  subst hkd0
  simp
  unfold M.bi.j0
  refine bds S2 (fun w' L' S' => (S'.perm List.perm_middle).row je) (by omega) fun w2 lv kx S3 => ?_
  have hlenv := fun w' K => abc S3.swap w' K
  generalize ub l = a at *
  obtain ⟨ds, us⟩ := a
  simp only at hn hs S3 ⊢
  have hdlen := fun w' K => zc S3 w' K
  have S4 : St w0 w2 (jv lv ds :: gc p (nc hb L.gp v) T.ac :: gk hb D :: R) := S3.swap.drop
  obtain ⟨c0, _⟩ := ll S4.swap.blk
  have fin : ∀ {D' : Dk} {w3 : World} {d : List Int} {r : List (List Int)}, ds = d :: r → d.length = 8 → (∀ w' np, St w0 w' (mw np (aar k (d :: r, us)) :: gc p (nc hb L.gp v) T.ac :: gk hb D' :: R) → K (.tuple #[jd np, .int .i64 0]) w') → St w0 w3 (jv lv ds :: gc p (nc hb L.gp v) T.ac :: gk hb D' :: R) → M.bi.j1 lv (.int .i64 us) (.int .i64 k) w3 K := fun hd h8 h S5 => by
   rw [hd] at S5
   exact baw S5 h8 h
  cases kb with
  | false =>
   by_cases hus : us < l.length
   ·have husi : (us : Int) < (l.length : Int) := by omega
    rw [if_pos ⟨rfl, hus⟩] at hn
    simp [hlenv, husi]
    exact hn w2 rfl S4.drop
   ·have husi : ¬ (us : Int) < (l.length : Int) := by omega
    rw [if_neg (fun hx => hus hx.2)] at hn hs
    cases ds with
    | nil =>
     rw [if_neg (by simp), if_pos (.inl rfl)] at hn
     simp [hlenv, hdlen, husi]
     exact hn w2 rfl S4.drop
    | cons d r =>
     rw [if_neg (by simp)] at hn hs
     have hz : ¬ ((r.length : Int) + 1 = 0) := by omega
     obtain ⟨b, o, sv, hia, _, cc, hsd⟩ := adr S4 (i := 0) (by simp)
     have hia0 : ∀ w' K, iaT P T.m lv (.int .i64 0) w' K = K (.pointer (some ⟨b, o, none⟩)) w' := hia
     simp only [List.getElem_cons_zero] at hsd
     have hd8 : ∀ w' K, biT P .len #[T.e] T.b [false] [sv.v] w' K = K (.int .i64 d.length) w' := fun w' K => hsd.ip (by kernel_rfl) [false]
     simp only [SV.v] at cc hd8
     by_cases h8 : d.length = 8
     ·have h8i : (d.length : Int) = 8 := by omega
      rw [if_neg (by simp [h8]), if_neg hus] at hn hs
      simp [hlenv, hdlen, husi, hia0, hz, cc, hd8, h8i]
      exact fin rfl h8 (fun w' np S5 => hs w' np _ rfl S5) S4
     ·have h8i : ¬ (d.length : Int) = 8 := by omega
      rw [if_pos (.inr (by simpa using h8))] at hn
      simp [hlenv, hdlen, husi, hia0, hz, cc, hd8, h8i]
      exact hn w2 rfl S4.drop
  | true =>
   rw [if_neg (by simp)] at hn hs
   cases ds with
   | nil =>
    rw [if_pos ⟨rfl, rfl⟩] at hn
    simp [hdlen, c0]
    refine anh S4.up2 k fun w3 S5 => ?_
    exact hn w3 rfl S5.dn2.drop
   | cons d r =>
    rw [if_neg (by simp)] at hn hs
    have hz : ¬ ((r.length : Int) + 1 = 0) := by omega
    obtain ⟨b, o, sv, hia, _, cc, hsd⟩ := adr S4 (i := 0) (by simp)
    have hia0 : ∀ w' K, iaT P T.m lv (.int .i64 0) w' K = K (.pointer (some ⟨b, o, none⟩)) w' := hia
    simp only [List.getElem_cons_zero] at hsd
    have hd8 : ∀ w' K, biT P .len #[T.e] T.b [false] [sv.v] w' K = K (.int .i64 d.length) w' := fun w' K => hsd.ip (by kernel_rfl) [false]
    simp only [SV.v] at cc hd8
    by_cases h8 : d.length = 8
    ·have h8i : (d.length : Int) = 8 := by omega
     rw [if_neg (by simp [h8])] at hn hs
     by_cases hus : us < l.length
     ·have husi : (us : Int) < (l.length : Int) := by omega
      rw [if_pos hus] at hn hs
      simp [hlenv, hdlen, husi, hia0, hz, cc, hd8, h8i, c0]
      refine bgv S4.up2 k us fun w3 S5 => ?_
      by_cases hc : (D.cut k us).2 = 0
      ·rw [if_neg (by simpa using hc)] at hs
       rw [hc]
       simp
       exact fin rfl h8 (fun w' np S6 => hs w' np _ rfl S6) S5.dn2
      ·rw [if_pos hc] at hn
       simp [hc]
       exact hn w3 rfl S5.dn2.drop
     ·have husi : ¬ (us : Int) < (l.length : Int) := by omega
      rw [if_neg hus] at hs
      simp [hlenv, hdlen, husi, hia0, hz, cc, hd8, h8i]
      exact fin rfl h8 (fun w' np S5 => hs w' np _ rfl S5) S4
    ·have h8i : ¬ (d.length : Int) = 8 := by omega
     rw [if_pos (.inr (by simpa using h8))] at hn
     simp [hdlen, hia0, hz, cc, hd8, h8i]
     exact hn w2 rfl S4.drop
end
set_option maxRecDepth 100000
open Go.Eng Go.Proofs.YtfnhoaemapheoaaGreat.Sint
def adn (qs : List Prt) : Int := Lg.next ⟨0, qs⟩
def ur : List Int → Dk → List Prt → (Dk × Option (List Prt)) × Int
 | [], D, qs => ((D, some qs), 0)
 | k :: ks, D, qs => if (om D k ks.isEmpty).2 ≠ 0 then (((om D k ks.isEmpty).1.1, none), (om D k ks.isEmpty).2) else match (om D k ks.isEmpty).1.2 with
  | none => ur ks (om D k ks.isEmpty).1.1 qs
  | some q => if qs ≠ [] ∧ q.first ≠ adn qs then (((om D k ks.isEmpty).1.1, none), 6) else ur ks (om D k ks.isEmpty).1.1 (qs ++ [q])
def zn (D : Dk) (gp : Int) : (Dk × Option (List Prt)) × Int := if gp < 64 ∨ 1048576 < gp then ((D, none), 1) else if D.gr then ((D, none), 10) else ur (yh D.ig) D []
theorem arp : ∀ (n : Nat) (l : List Int), l.Nodup → (∀ x ∈ l, 0 ≤ x ∧ x < n) → l.length ≤ n
 | 0, l, _, h => by
  cases l with
  | nil => simp
  | cons x l => have := h x (by simp); omega
 | n + 1, l, hn, h => by
  have := arp n (l.erase (n : Int)) (hn.erase _) (fun x hx => by
   have h1 := h x (List.mem_of_mem_erase hx)
   have h2 : x ≠ (n : Int) := fun he => by
    subst he
    exact (List.Nodup.not_mem_erase hn) hx
   omega)
  rw [List.length_erase] at this
  split at this <;> omega
theorem akk (ns : List Int) : ∀ f i, i ≤ ns.length → (wt ns f i).length = ns.length
 | 0, _, _ => rfl
 | f + 1, i, hi => by
  rw [wt]
  split
  ·rfl
  ·split
   ·simp; omega
   ·rename_i h _
    exact akk ns f (i + 1) (by
     rw [List.getElem?_eq_some_iff] at h
     exact h.1)
theorem avy (ns : List Int) : (yh ns).length = ns.length := akk ns _ 0 (Nat.zero_le _)
section
variable {w0 w : World} {R : List Asn} {p hb : Nat} {v : Value} {ps : List Nat} {L : Lg} {q : Prt} {D : Dk} {gp : Int}
theorem axr (S : St w0 w (gk hb D :: R)) : (∀ n ∈ D.ig, 0 ≤ n ∧ n < 64) ∧ D.ig.length ≤ 64 ∧ D.ig.Nodup := by
 obtain ⟨r, m, es, hk, _⟩ := xj S
 have hp : D.ig.Perm D.pk := nw _
 have hkk := hk.pk
 have h1 : ∀ n ∈ D.ig, 0 ≤ n ∧ n < 64 := fun n hn => by
  have := hp.mem_iff.1 hn
  rw [hkk, List.mem_map] at this
  obtain ⟨e, he, rfl⟩ := this
  exact hk.rng e he
 have h2 : D.ig.Nodup := hp.nodup_iff.2 (by rw [hkk]; exact hk.tn)
 exact ⟨h1, arp 64 _ h2 h1, h2⟩
def opL (p hb : Nat) (gp : Int) (v : Value) (ps : List Nat) (qs : List Prt) (D : Dk) (ov : Value) (ns : List Int) (R : List Asn) : List Asn := gc p (nc hb gp v) T.ac :: gk hb D :: Eng.jp T.ad 1 ng v ps :: qu mw ps qs :: qk ov ns :: R
def OpI (w0 : World) (p hb : Nat) (gp : Int) (ov : Value) (ns : List Int) (D0 : Dk) (R : List Asn) : KL := fun y w1 => ∃ (u0 u1 u2 u3 u4 u5 u6 u7 u8 v : Value) (ps : List Nat) (qs : List Prt) (D : Dk) (i : Nat), y = [u0, u1, u2, u3, u4, u5, u6, u7, u8, .int .i64 (i : Nat)] ∧ i ≤ ns.length ∧ ps.length = qs.length ∧ qs.length ≤ i ∧ ur ns D0 [] = ur (ns.drop i) D qs ∧ St w0 w1 (opL p hb gp v ps qs D ov ns R)
theorem bfs (S : St w0 w (gk hb D :: R)) (hmx : gp < 9223372036854775808) {K : KV}
  (hn : ∀ w', (zn D gp).1.2 = none → St w0 w' (gk hb (zn D gp).1.1 :: R) → K (.tuple #[.pointer none, .int .i64 (zn D gp).2]) w')
  (hs : ∀ w' p qs, zn D gp = (((zn D gp).1.1, some qs), 0) → St w0 w' (la p hb ⟨gp, qs⟩ :: gk hb (zn D gp).1.1 :: R) → K (.tuple #[jd p, .int .i64 0]) w') :
  fk P F.fe [.pointer (some ⟨hb, 0, none⟩), .int .i64 gp] w K := by
 rw [M.cv.fcall]
 apply M.cv.calls
 unfold M.cv
 unfold zn at hn hs
 by_cases h1 : gp < 64 ∨ 1048576 < gp
 ·rw [if_pos h1] at hn
  by_cases h2 : gp < 64
  ·simp [h2]
   exact hn w rfl S
  ·have h3 : 1048576 < gp := by omega
   simp [h2, h3]
   exact hn w rfl S
 ·rw [if_neg h1] at hn hs
  have h2 : ¬ gp < 64 := by omega
  have h3 : ¬ 1048576 < gp := by omega
  simp [h2, h3]
  refine adz S ?_
  cases hd : D.gr with
  | true =>
   rw [hd] at hn
   simp
   exact hn w rfl S
  | false =>
   rw [hd] at hn hs
   simp only [Bool.false_eq_true, if_false] at hn hs
   simp
   unfold M.cv.j0
   simp
   have S1 : St w0 (w.alloc (.cells (nc hb gp (.slice none 0 0)) T.ac)) (gc w.heap.size (nc hb gp (.slice none 0 0)) T.ac :: gk hb D :: R) := adi S _ _
   generalize w.heap.size = p at *
   simp only [nc] at S1
   generalize w.alloc (.cells #[.pointer (some ⟨hb, 0, none⟩), .int .i64 gp, .slice none 0 0] T.ac) = w1 at *
   obtain ⟨fr1, fr2, _⟩ := axr S1.swap
   refine bco S1.swap fun w2 v2 S2 => ?_
   refine bak S2 (by omega) fr1 fun w3 v3 S3 => ?_
   have hol := avy D.ig
   generalize yh D.ig = ns at *
   rw [arf]
   have hlen : ∀ {w1 : World} {R' : List Asn}, St w0 w1 (qk v3 ns :: R') → ∀ w' K, biT P .len #[T.k] T.b [false] [v3] w' K = K (.int .i64 ns.length) w' := fun S w' K => (S.row uy : SlI _ v3 ns).ip (by kernel_rfl) [false]
   simp [hlen S3]
   have S4 : St w0 w3 (opL p hb gp (.slice none 0 0) [] [] D v3 ns R) := by
    have T1 : St w0 w3 (qk v3 ns :: gk hb D :: gc p (nc hb gp (.slice none 0 0)) T.ac :: R) := S3
    have T2 := ati (e := T.ad) (sz := 1) (enc := ng) (bdi (f := mw) T1)
    exact (St.up4 (St.up4 T2)).swap
   refine ⟨OpI w0 p hb gp v3 ns D R, fun y _ => ns.length - ms y 9, ⟨_, _, _, _, _, _, _, _, _, _, [], [], D, 0, rfl, Nat.zero_le _, rfl, Nat.le_refl _, rfl, S4⟩, ?_⟩
   rintro y w4 ⟨u0, u1, u2, u3, u4, u5, u6, u7, u8, v, ps, qs, D', i, rfl, hi, hl, hqi, ho, S5⟩
   unfold M.cv.j2
   by_cases hlt : i < ns.length
   ·have hlti : (i : Int) < (ns.length : Int) := by omega
    simp [hlti]
    unfold M.cv.j3
    unfold opL at S5
    have hsI : SlI w4 v3 ns := S5.up4.row uy
    obtain ⟨b, o, cap, hv, _, _, hc⟩ := hsI.at hlt
    have c0 := hc 0 _ rfl
    simp only [Nat.mul_one, Nat.add_zero] at c0
    have hia : ∀ w' K, iaT P T.k v3 (.int .i64 (i : Nat)) w' K = K (.pointer (some ⟨b, o + i, none⟩)) w' := fun w' K => by rw [hv]; simp [hlt]
    have hw1 : IntKind.i64.wrap ((ns.length : Int) - 1) = ((ns.length - 1 : Nat) : Int) := by rw [ft (by omega) (by omega)]; omega
    simp [hia, c0, hlen S5.up4, hw1]
    have hlast : decide ((i : Int) = ((ns.length - 1 : Nat) : Int)) = (ns.drop (i + 1)).isEmpty := by
     rw [Bool.eq_iff_iff, decide_eq_true_eq, List.isEmpty_iff, List.drop_eq_nil_iff]
     omega
    rw [hlast]
    have hcall : ∀ x y w K, me P (.func (.func F.cb) #[.pointer (some ⟨p, 0, none⟩)] #[]) [x, y] w K = fk P F.cb [jd p, x, y] w K := fun x y w K => by
     rw [M.bi.fcall]
     exact M.bi.rcall [jd p] [] [x, y] w K
    rw [hcall]
    rw [List.drop_eq_getElem_cons hlt, ur] at ho
    generalize ns[i] = k at *
    generalize (ns.drop (i + 1)).isEmpty = kb at *
    have hw : IntKind.i64.wrap ((i : Int) + 1) = ((i + 1 : Nat) : Int) := by rw [ft (by omega) (by omega)]; omega
    refine ben (L := ⟨gp, []⟩) S5 k kb (fun w5 hnone S6 => ?_) fun w5 np q hsome S6 => ?_
    ·by_cases hk : (om D' k kb).2 = 0
     ·rw [if_neg (by simpa using hk), hnone] at ho
      rw [hk]
      simp
      rw [hw]
      refine ⟨⟨_, _, _, _, _, _, _, _, _, v, ps, qs, _, i + 1, rfl, hlt, hl, by omega, ho, S6⟩, ?_⟩
      simp [ms, gv]; omega
     ·rw [if_pos hk] at ho
      simp [hk]
      rw [ho] at hn
      exact hn w5 rfl (St.drop S6 |>.swap.drop.swap.drop.swap.drop)
    ·rw [hsome] at ho
     simp only [ne_eq, not_true_eq_false, if_false] at ho
     simp only [jd]
     simp
     have T1 := S6.iu ((Fr.refl _ w5).dr 1)
     obtain ⟨e0, e1, e2, ez⟩ := ll T1.swap.blk
     have hlen2 := fun w' K => xx T1.up3 w' K
     have e2' : fx w5 p 2 = some v := by simpa using e2
     obtain ⟨rv, T2⟩ := uk T1
     obtain ⟨d0, d1, _⟩ := kc T2.blk
     have d1' : fx w5 np 1 = some (.int .i64 q.first) := by simpa using d1
     simp [e2', hlen2, d1']
     have T3 : St w0 (dr w5 1) (gc p (nc hb gp v) T.ac :: Eng.jp T.ad 1 ng v ps :: qu mw ps qs :: mw np q :: gk hb (om D' k kb).1.1 :: qk v3 ns :: R) := St.up3 (St.up4 (St.up4 T1))
     have hpush : ∀ {w6 : World} {x5 : List Value}, St w0 w6 (gc p (nc hb gp v) T.ac :: Eng.jp T.ad 1 ng v ps :: qu mw ps qs :: mw np q :: gk hb (om D' k kb).1.1 :: qk v3 ns :: R) → ur ns D [] = ur (ns.drop (i + 1)) (om D' k kb).1.1 (qs ++ [q]) → M.cv.j5 (.pointer (some ⟨p, 0, none⟩)) (.pointer (some ⟨np, 0, none⟩)) (fun x4 w => OpI w0 p hb gp v3 ns D R [gv x4 0, gv x4 1, gv x4 2, gv x4 3, gv x4 4, gv x4 5, gv x4 6, gv x4 7, gv x4 8, .int .i64 (IntKind.i64.wrap ((i : Int) + 1))] w ∧ ns.length - ms [gv x4 0, gv x4 1, gv x4 2, gv x4 3, gv x4 4, gv x4 5, gv x4 6, gv x4 7, gv x4 8, .int .i64 (IntKind.i64.wrap ((i : Int) + 1))] 9 < ns.length - ms [u0, u1, u2, u3, u4, u5, u6, u7, u8, .int .i64 (i : Nat)] 9) [u0, u1, u2, u3, u4, u5, u6, u7, u8, .int .i64 (i : Nat)] (.int .i64 k) (.int .i64 0) x5 w6 K := by
      intro w6 x5 T4 ho2
      unfold M.cv.j5
      simp
      refine anl (L := ⟨gp, qs⟩) hl (show qs.length ≤ 1000000 by omega) T4.up3 fun w7 T5 => ?_
      obtain ⟨v', ps', hl', T6⟩ := ahn T5
      rw [hw]
      refine ⟨⟨_, _, _, _, _, _, _, _, _, v', ps', qs ++ [q], _, i + 1, rfl, hlt, hl', by simp; omega, ho2, T6.up3.swap⟩, ?_⟩
      simp [ms, gv]; omega
     by_cases h0 : 0 < ps.length
     ·have hqne : qs ≠ [] := fun h => by rw [hl, h] at h0; exact absurd h0 (by simp)
      simp [h0, d1']
      refine aje (L := ⟨gp, qs⟩) hl T3 (by rw [hl]; omega) fun w6 f6 => ?_
      have T4 := T3.iu f6
      obtain ⟨rv6, T5⟩ := uk T4.up3
      obtain ⟨_, g1, _⟩ := kc T5.blk
      have hnx : Lg.next ⟨gp, qs⟩ = adn qs := rfl
      simp [g1, hnx]
      by_cases hq : q.first = adn qs
      ·rw [if_neg (fun hx => hx.2 hq)] at ho
       simp [hq]
       exact hpush T4 ho
      ·rw [if_pos ⟨hqne, hq⟩] at ho
       rw [ho] at hn
       simp [hq]
       exact hn w6 rfl (T4.drop.drop.drop.drop.swap.drop)
     ·have hqe : qs = [] := List.length_eq_zero_iff.1 (by omega)
      rw [if_neg (fun hx => hx.1 hqe)] at ho
      simp [h0]
      exact hpush T3 ho
   ·have hge : ¬ (i : Int) < (ns.length : Int) := by omega
    rw [List.drop_of_length_le (by omega)] at ho
    simp [hge]
    rw [ho] at hs
    exact hs w4 p qs rfl (yj (L := ⟨gp, qs⟩) hl (St.swap (St.drop (St.up4 S5))).dn3)
end
set_option maxRecDepth 100000
open Go.Eng Go.Proofs.YtfnhoaemapheoaaGreat.Sint
section
variable {D : Dk} {A B : List Fil} {f : Fil}
theorem yw (h : D.fs = A ++ f :: B) (hA : ∀ x ∈ A, x.n ≠ f.n) : D.get f.n = some f := by
 unfold Dk.get
 rw [h, List.find?_append, List.find?_eq_none.2 (fun x hx => by simp [hA x hx])]
 simp
theorem bfk {k : Int} (h : ∀ x ∈ D.fs, x.n ≠ k) : D.get k = none := by
 unfold Dk.get
 exact List.find?_eq_none.2 fun x hx => by simp [h x hx]
theorem apw {k : Int} {fa lo : List Int} {A : List Fil} (hA : ∀ x ∈ A, x.n ≠ k) : A.map (fun f => if f.n = k then (⟨k, fa, lo⟩ : Fil) else f) = A := by
 conv => rhs; rw [← List.map_id A]
 exact List.map_congr_left fun x hx => by rw [if_neg (hA x hx)]; rfl
theorem xi (h : D.fs = A ++ f :: B) (hA : ∀ x ∈ A, x.n ≠ f.n) (hB : ∀ x ∈ B, x.n ≠ f.n) (fa lo : List Int) : (D.my f.n fa lo).fs = A ++ ⟨f.n, fa, lo⟩ :: B := by
 show D.fs.map (fun g => if g.n = f.n then (⟨f.n, fa, lo⟩ : Fil) else g) = _
 rw [h, List.map_append, List.map_cons, apw hA, apw hB, if_pos rfl]
theorem atq (h : D.fs = A ++ f :: B) (hA : ∀ x ∈ A, x.n ≠ f.n) (hB : ∀ x ∈ B, x.n ≠ f.n) : (D.rem f.n).fs = A ++ B := by
 show D.fs.filter (fun g => decide (g.n ≠ f.n)) = _
 rw [h, List.filter_append, List.filter_cons, if_neg (by simp), List.filter_eq_self.2 (fun x hx => by simpa using hA x hx), List.filter_eq_self.2 (fun x hx => by simpa using hB x hx)]
def CrS (A : List Fil) (n : Int) (fa lo : List Int) (D D' : Dk) (v : Prop) : Prop := D'.ie = D.ie ∧ ∃ fa' lo', D'.fs = A ++ [⟨n, fa', lo'⟩] ∧ ((fa' = fa ∧ lo' = lo) ∨ (lo' = [] ∧ ∃ s, fa' = fa ++ lo.take s)) ∧ (v → lo' = [])
theorem aue {n : Int} {fa lo : List Int} (h : D.fs = A ++ [⟨n, fa, lo⟩]) (hA : ∀ x ∈ A, x.n ≠ n) (hl : ∀ x ∈ A, x.il = []) (hd : (D.fs.map Fil.n).Nodup) (kl : List Int) :
  ∃ s, (D.sm kl).ie = D.ie ∧ (D.sm kl).gr = false ∧ (D.sm kl).ir = false ∧ (D.sm kl).fs = A ++ [⟨n, fa ++ lo.take s, []⟩] := by
 have key : ∀ i, i ≤ D.ig.length → CrS A n fa lo D (crN kl D D.ig i) (n ∈ D.ig.take i) := by
  intro i
  induction i with
  | zero => exact fun _ => ⟨rfl, fa, lo, h, .inl ⟨rfl, rfl⟩, fun h => by simp at h⟩
  | succ i ih =>
   intro hi
   obtain ⟨hr, fa', lo', h1, h2, h3⟩ := ih (by omega)
   have hlt : i < D.ig.length := by omega
   have hk : D.ig.getD i 0 = D.ig[i] := by rw [List.getD_eq_getElem?_getD, List.getElem?_eq_getElem hlt]; rfl
   rw [crN, hk, List.take_succ_eq_append_getElem hlt]
   generalize crN kl D D.ig i = E at *
   generalize D.ig[i] = k at *
   have hAE : ∀ x ∈ A, x.n ≠ (⟨n, fa', lo'⟩ : Fil).n := hA
   unfold abq
   by_cases hkn : k = n
   ·subst hkn
    have hg := yw h1 hAE
    have hs := xi h1 hAE (by simp) (fa' ++ lo'.take (yi kl i lo'.length)) []
    simp only at hg hs
    rw [hg]
    refine ⟨hr, _, _, hs, .inr ⟨rfl, ?_⟩, fun _ => rfl⟩
    rcases h2 with ⟨rfl, rfl⟩ | ⟨rfl, s, rfl⟩
    ·exact ⟨_, rfl⟩
    ·exact ⟨s, by simp⟩
   ·have hmem : (n ∈ D.ig.take i ++ [k]) ↔ n ∈ D.ig.take i := by
     rw [List.mem_append, List.mem_singleton]
     exact ⟨fun h => h.elim id fun h => absurd h.symm hkn, .inl⟩
    rw [hmem]
    cases hg : E.get k with
    | none => exact ⟨hr, fa', lo', h1, h2, h3⟩
    | some g =>
     have hgm : g ∈ E.fs := List.mem_of_find?_eq_some hg
     have hgn : g.n = k := by simpa using List.find?_some hg
     rw [h1, List.mem_append, List.mem_singleton] at hgm
     rcases hgm with hgA | rfl
     ·obtain ⟨a1, a2, hsp⟩ := List.append_of_mem hgA
      have hgl := hl g hgA
      have hnd : (A.map Fil.n).Nodup := by rw [h, List.map_append] at hd; exact (List.nodup_append.1 hd).1
      rw [hsp, List.map_append, List.map_cons, List.nodup_append, List.nodup_cons] at hnd
      have h1' : E.fs = a1 ++ g :: (a2 ++ [⟨n, fa', lo'⟩]) := by rw [h1, hsp]; simp
      have e := xi h1' (fun x hx he => hnd.2.2 _ (List.mem_map_of_mem hx) g.n (by simp) he) (fun x hx he => by
       rw [List.mem_append, List.mem_singleton] at hx
       rcases hx with hx | rfl
       ·exact hnd.2.1.1 (he ▸ List.mem_map_of_mem hx)
       ·exact hkn (hgn ▸ he.symm)) (g.jl ++ g.il.take (yi kl i g.il.length)) []
      refine ⟨hr, fa', lo', ?_, h2, h3⟩
      rw [← hgn]
      refine e.trans ?_
      rw [hgl, hsp]
      obtain ⟨gn, gf, gl⟩ := g
      simp only at hgl
      subst hgl
      simp
     ·exact absurd hgn (fun h => hkn h.symm)
 obtain ⟨hr, fa', lo', h1, h2, h3⟩ := key D.ig.length (Nat.le_refl _)
 have hmem : n ∈ D.ig.take D.ig.length := by
  rw [List.take_length]
  refine (nw _).mem_iff.2 ?_
  unfold Dk.pk
  rw [h]; simp
 have hlo := h3 hmem
 subst hlo
 rcases h2 with ⟨rfl, rfl⟩ | ⟨_, s, rfl⟩
 ·exact ⟨0, hr, rfl, rfl, by simpa [Dk.sm] using h1⟩
 ·exact ⟨s, hr, rfl, rfl, h1⟩
theorem avk (h : D.fs = []) (kl : List Int) : (D.sm kl).ie = D.ie ∧ (D.sm kl).gr = false ∧ (D.sm kl).ir = false ∧ (D.sm kl).fs = [] := by
 have hf : D.ig = [] := by unfold Dk.ig Dk.pk; rw [h]; exact List.perm_nil.1 (nw [])
 unfold Dk.sm
 rw [hf]
 exact ⟨rfl, rfl, rfl, h⟩
end
def body (q : Prt) : List Int := mn q.first ++ cat q.ga
def ke (q : Prt) : Fil := ⟨q.no, body q, []⟩
def yb (n : Int) : List Int := lb (IntKind.u64.wrap n)
theorem apl (q : Prt) : body q = cat (yb q.first :: q.ga) := by unfold body mn cat yb; simp
theorem aev (a b : List (List Int)) : cat (a ++ b) = cat a ++ cat b := by unfold cat; simp
theorem amf (d : List Int) : cat [d] = ii d := by unfold cat; simp
theorem akx : ∀ {ds : List (List Int)} {c r : List Int}, (∀ d ∈ ds, d.length ≤ 8192) → c ++ r = cat ds → ∃ j p, j ≤ ds.length ∧ c = cat (ds.take j) ++ p ∧ agy p ∧ (j = ds.length → p = []) ∧ ∀ h : j < ds.length, p.length < (ii ds[j]).length
 | [], c, r, _, he => by
  have : c = [] := by
   have := congrArg List.length he
   simp [cat] at this
   exact this.1
  subst this
  exact ⟨0, [], Nat.le_refl _, by simp [cat], apy, fun _ => rfl, fun h => by simp at h⟩
 | d :: ds, c, r, hd, he => by
  have e0 : cat (d :: ds) = ii d ++ cat ds := by simp [cat]
  rw [e0] at he
  by_cases hc : c.length < (ii d).length
  ·refine ⟨0, c, Nat.zero_le _, by simp [cat], ⟨d, c.length, hd d (by simp), hc, ?_⟩, fun h => by simp at h, fun _ => by simpa using hc⟩
   have := congrArg (List.take c.length) he
   rw [List.take_left' rfl, List.take_append, Nat.sub_eq_zero_of_le (by omega)] at this
   simpa using this
  ·obtain ⟨c', rfl⟩ : ∃ c', c = ii d ++ c' := by
    refine ⟨c.drop (ii d).length, ?_⟩
    have := congrArg (List.take (ii d).length) he
    rw [List.take_left' rfl, List.take_append, Nat.sub_eq_zero_of_le (by omega)] at this
    simp at this
    conv => lhs; rw [← List.take_append_drop (ii d).length c, this]
   rw [List.append_assoc] at he
   obtain ⟨j, p, h1, h2, h3, h4, h5⟩ := akx (fun x hx => hd x (by simp [hx])) (List.append_cancel_left he)
   refine ⟨j + 1, p, by simp; omega, ?_, h3, fun h => h4 (by simpa using h), fun h => by simpa using h5 (by simpa using h)⟩
   rw [List.take_succ_cons]
   have : cat (d :: ds.take j) = ii d ++ cat (ds.take j) := by simp [cat]
   rw [this, h2, List.append_assoc]
theorem arq {ds : List (List Int)} {i j : Nat} (h : i ≤ j) : (cat (ds.take i)).length ≤ (cat (ds.take j)).length := by
 have : ds.take i = (ds.take j).take i := by rw [List.take_take, Nat.min_eq_left h]
 rw [this]
 conv => rhs; rw [← List.take_append_drop i (ds.take j), aev]
 simp
set_option maxRecDepth 100000
open Go.Eng Go.Proofs.YtfnhoaemapheoaaGreat.Sint
def gh (Q : List Prt) : List (List Int) := Q.flatMap Prt.ga
theorem lh (a b : List Prt) : gh (a ++ b) = gh a ++ gh b := by unfold gh; simp
theorem qy (q : Prt) : gh [q] = q.ga := by unfold gh; simp
def Chn : Int → Int → List Prt → Prop
 | _, _, [] => True
 | s, f, q :: r => q.no = s ∧ q.first = f ∧ (∀ d ∈ q.ga, d.length ≤ 8192) ∧ Chn ((s + 1) % 64) (f + q.ga.length) r
theorem qa {A B : List Prt} : ∀ {s f : Int}, 0 ≤ s ∧ s < 64 → (Chn s f (A ++ B) ↔ Chn s f A ∧ Chn ((s + A.length) % 64) (f + (gh A).length) B) := by
 induction A with
 | nil =>
  intro s f hs
  have : (s + (([] : List Prt).length : Int)) % 64 = s := by simp; omega
  rw [this]
  simp [Chn, gh]
 | cons q r ih =>
  intro s f hs
  have h1 := ih (s := (s + 1) % 64) (f := f + q.ga.length) (by omega)
  have e1 : ((s + 1) % 64 + (r.length : Int)) % 64 = (s + ((q :: r).length : Int)) % 64 := by simp; omega
  have e2 : f + (q.ga.length : Int) + ((gh r).length : Int) = f + ((gh (q :: r)).length : Int) := by unfold gh; simp; omega
  rw [e1, e2] at h1
  rw [List.cons_append, Chn, Chn, h1]
  constructor
  ·rintro ⟨a, b, c, d, e⟩; exact ⟨⟨a, b, c, d⟩, e⟩
  ·rintro ⟨⟨a, b, c, d⟩, e⟩; exact ⟨a, b, c, d, e⟩
theorem agq : ∀ {Q : List Prt} {s f : Int}, 0 ≤ s ∧ s < 64 → Chn s f Q → ∀ i (h : i < Q.length), Q[i].no = (s + i) % 64
 | q :: r, s, f, hs, h, 0, hi => by have h1 : q.no = s := h.1; simp [h1]; omega
 | q :: r, s, f, hs, h, i + 1, hi => by
  have := agq (s := (s + 1) % 64) (by omega) h.2.2.2 i (by simpa using hi)
  simp only [List.getElem_cons_succ]
  rw [this]; push_cast; omega
theorem agu {Q : List Prt} {s f : Int} (hs : 0 ≤ s ∧ s < 64) (h : Chn s f Q) (hl : Q.length ≤ 64) : (Q.map Prt.no).Nodup := by
 rw [List.nodup_iff_pairwise_ne, List.pairwise_iff_getElem]
 intro i j hi hj hij
 simp only [List.length_map] at hi hj
 rw [List.getElem_map, List.getElem_map, agq hs h i hi, agq hs h j hj]
 omega
theorem ata {Q : List Prt} {s f : Int} (hs : 0 ≤ s ∧ s < 64) (h : Chn s f Q) : ∀ q ∈ Q, 0 ≤ q.no ∧ q.no < 64 := fun q hq => by
 obtain ⟨i, hi, rfl⟩ := List.getElem_of_mem hq
 rw [agq hs h i hi]; omega
def Dsc (Q : List Prt) (F : Nat) (D : Dk) (w : Prop) : Prop := (Q = [] ∧ D.fs = [] ∧ F = 0) ∨ ∃ Q0 q fa lo m, Q = Q0 ++ [q] ∧ D.fs = Q0.map ke ++ [⟨q.no, fa, lo⟩] ∧ (fa ++ lo) <+: body q ∧ (w → fa ++ lo = body q) ∧ m ≤ q.ga.length ∧ F ≤ (gh Q0).length + m ∧ (m = 0 ∨ mn q.first ++ cat (q.ga.take m) <+: fa)
structure Vir (s f : Int) (Q : List Prt) (F : Nat) (D : Dk) (w : Prop) : Prop where
 chn : Chn s f Q
 s0 : 0 ≤ s ∧ s < 64
 f0 : 0 ≤ f
 len : Q.length ≤ 63
 few : f + (gh Q).length ≤ 1000000000000
 dsc : Dsc Q F D w
 nil : Q = [] → s = 0 ∧ f = 0
 siz : ∀ q ∈ Q, q.size = (body q).length
structure ni (s f : Int) (L : Lg) (F : Nat) (D : Dk) : Prop where
 vir : Vir s f L.fq F D True
 size : ∀ q ∈ L.fq, q.size = (body q).length
 up : D.gr = false
section
variable {s f : Int} {Q Q0 : List Prt} {q : Prt} {F : Nat} {D : Dk} {w : Prop} {fa lo : List Int} {L : Lg} {b : List Int}
theorem bfn (Q : List Prt) : (Q.map ke).map Fil.n = Q.map Prt.no := by rw [List.map_map]; rfl
theorem tz (hs : 0 ≤ s ∧ s < 64) (h : Chn s f (Q0 ++ [q])) (hl : (Q0 ++ [q]).length ≤ 64) : ∀ x ∈ Q0.map ke, x.n ≠ q.no := fun x hx he => by
 have hn := agu hs h hl
 rw [List.map_append, List.nodup_append] at hn
 obtain ⟨p, hp, rfl⟩ := List.mem_map.1 hx
 exact hn.2.2 p.no (List.mem_map_of_mem hp) q.no (by simp) he
theorem aod (h : Vir s f L.fq F D True) (hd : D.gr = false) : (L.mu D).2 = 0 ∧ Vir s f L.fq (gh L.fq).length (L.mu D).1 True ∧ (L.mu D).1.gr = false ∧ (L.mu D).1.ir = D.ir ∧ (L.mu D).1.left = D.left ∧ (L.mu D).1.ie = D.ie ∧ (L.mu D).1.ib = D.ib := by
 unfold Lg.mu
 rw [hd]
 simp only [Bool.false_eq_true, if_false]
 rcases h.dsc with ⟨hq, hf, rfl⟩ | ⟨Q0, q, fa, lo, m, hq, hf, hp, hw, hm, hF, hy⟩
 ·rw [hq]
  simp only [List.getLast?_nil]
  exact ⟨by trivial, ⟨by rw [hq] at h; exact h.chn, h.s0, h.f0, by simp, by have := h.few; rw [hq] at this; exact this, .inl ⟨rfl, hf, rfl⟩, fun _ => h.nil hq, fun q hx => by simp at hx⟩, hd, by trivial, by trivial, by trivial, by trivial⟩
 ·rw [hq, List.getLast?_concat]
  have hA := tz h.s0 (hq ▸ h.chn) (by have := h.len; rw [hq] at this; omega)
  have hg : D.get q.no = some ⟨q.no, fa, lo⟩ := yw hf hA
  have hs := xi hf hA (by simp) (fa ++ lo) []
  simp only at hs
  have e : D.mu q.no = (D.my q.no (fa ++ lo) [], 0) := by unfold Dk.mu; rw [hd, hg]; rfl
  simp only [e]
  rw [hw trivial] at hs ⊢
  refine ⟨by trivial, ⟨hq ▸ h.chn, h.s0, h.f0, hq ▸ h.len, hq ▸ h.few, .inr ⟨Q0, q, _, [], q.ga.length, rfl, hs, by simp, fun _ => by simp, Nat.le_refl _, by rw [lh, qy]; simp, .inr ?_⟩, fun h => by simp at h, hq ▸ h.siz⟩, hd, rfl, rfl, rfl, ?_⟩
  ·rw [List.take_length]; exact List.prefix_rfl
  ·unfold Dk.ib
   rw [hs, hf, ← hw trivial]
   simp [Fil.len]
theorem axb (h : Vir s f Q F D w) (kl : List Int) : Vir s f Q F (D.sm kl) False ∧ (D.sm kl).gr = false ∧ (D.sm kl).ir = false ∧ (D.sm kl).ie = D.ie := by
 rcases h.dsc with ⟨hq, hf, rfl⟩ | ⟨Q0, q, fa, lo, m, hq, hf, hp, hw, hm, hF, hy⟩
 ·obtain ⟨h1, h2, h3, h4⟩ := avk hf kl
  exact ⟨⟨h.chn, h.s0, h.f0, h.len, h.few, .inl ⟨hq, h4, rfl⟩, h.nil, h.siz⟩, h2, h3, h1⟩
 ·have hA := tz h.s0 (hq ▸ h.chn) (by have := h.len; rw [hq] at this; omega)
  have hnd : (D.fs.map Fil.n).Nodup := by
   rw [hf, List.map_append, bfn]
   have := agu h.s0 h.chn (by have := h.len; omega)
   rw [hq, List.map_append] at this
   exact this
  obtain ⟨k, h1, h2, h3, h4⟩ := aue hf hA (fun x hx => by obtain ⟨p, _, rfl⟩ := List.mem_map.1 hx; rfl) hnd kl
  refine ⟨⟨h.chn, h.s0, h.f0, h.len, h.few, .inr ⟨Q0, q, _, [], m, hq, h4, ?_, fun h => h.elim, hm, hF, ?_⟩, h.nil, h.siz⟩, h2, h3, h1⟩
  ·rw [List.append_nil]
   refine List.IsPrefix.trans ?_ hp
   exact (List.prefix_append_right_inj fa).2 (List.take_prefix _ _)
  ·exact hy.imp id fun h => h.trans (List.prefix_append _ _)
end
set_option maxRecDepth 100000
open Go.Eng Go.Proofs.YtfnhoaemapheoaaGreat.Sint
def Apd (D : Dk) (l : List Int) (fs : List Int → List Fil) (r : Dk × Int) : Prop := (r = (D, 9) ∧ D.ie < D.ib + l.length) ∨ ∃ E t, r = (E, if E.gr then 10 else 0) ∧ E.fs = fs t ∧ t <+: l ∧ (E.gr = false → t = l) ∧ E.ie = D.ie ∧ (D.ir = false → E.gr = false ∧ E.ir = false)
section
variable {s f : Int} {Q Q0 : List Prt} {q : Prt} {F : Nat} {D : Dk} {w : Prop} {fa lo : List Int} {L : Lg} {b l : List Int} {A : List Fil} {k : Int}
theorem bbv (D : Dk) (l : List Int) : (D.after l).fs = D.fs := by unfold Dk.after; split <;> rfl
theorem aua (D : Dk) (l : List Int) : (D.after l).ie = D.ie := by unfold Dk.after; split <;> rfl
theorem arz (D : Dk) (l : List Int) : (D.after l).ir = D.ir := by unfold Dk.after; split <;> rfl
theorem aqk (D : Dk) (l : List Int) : D.oy l <+: l := by
 unfold Dk.oy
 split
 ·exact List.take_prefix _ _
 ·exact List.prefix_rfl
theorem ayc (hd : D.gr = false) (h : (D.after l).gr = false) : D.oy l = l := by
 unfold Dk.oy
 unfold Dk.after at h
 by_cases ha : D.ir = true
 ·rw [if_pos ha] at h ⊢
  simp only [decide_eq_false_iff_not] at h
  exact List.take_of_length_le (by omega)
 ·rw [if_neg ha]
theorem axg (hd : D.gr = false) (h : D.ir = false) : (D.after l).gr = false := by
 unfold Dk.after
 rw [h]
 simpa using hd
theorem asr {fs : List Int → List Fil} (hd : D.gr = false) (hk : 0 ≤ k ∧ k < 64) (hp : ∃ E0 : Dk, D.put k l = E0.after l ∧ E0.fs = fs (D.oy l) ∧ E0.ie = D.ie ∧ E0.gr = D.gr ∧ E0.ir = D.ir ∧ E0.left = D.left) : Apd D l fs (D.append k l) := by
 unfold Dk.append
 rw [hd, if_neg (by simp), if_neg (by omega)]
 by_cases hr : D.ie < D.ib + l.length
 ·rw [if_pos hr]; exact .inl ⟨rfl, hr⟩
 ·rw [if_neg hr]
  obtain ⟨E0, h1, h2, h3, h4, h5, h6⟩ := hp
  have ht : E0.oy l = D.oy l := by unfold Dk.oy; rw [h5, h6]
  refine .inr ⟨_, D.oy l, rfl, by rw [h1, bbv, h2], aqk _ _, fun h => ?_, by rw [h1, aua, h3], fun h => ?_⟩
  ·rw [← ht]
   exact ayc (h4.trans hd) (by rw [← h1]; exact h)
  ·rw [h1]
   exact ⟨axg (h4.trans hd) (h5.trans h), (arz _ _).trans (h5.trans h)⟩
theorem bdw (hd : D.gr = false) (hk : 0 ≤ k ∧ k < 64) (hA : ∀ x ∈ D.fs, x.n ≠ k) : Apd D l (fun t => D.fs ++ [⟨k, [], t⟩]) (D.append k l) := by
 refine asr hd hk ⟨(D.acv k).my k [] (D.oy l), ?_, ?_, rfl, rfl, rfl, rfl⟩
 ·unfold Dk.put; rw [bfk hA]
 ·exact xi (D := D.acv k) (A := D.fs) (f := ⟨k, [], []⟩) (B := []) rfl hA (by simp) [] (D.oy l)
theorem bdn (hd : D.gr = false) (hk : 0 ≤ k ∧ k < 64) (h : D.fs = A ++ [⟨k, fa, lo⟩]) (hA : ∀ x ∈ A, x.n ≠ k) : Apd D l (fun t => A ++ [⟨k, fa, lo ++ t⟩]) (D.append k l) := by
 refine asr hd hk ⟨D.my k fa (lo ++ D.oy l), ?_, ?_, rfl, rfl, rfl, rfl⟩
 ·unfold Dk.put; rw [yw h hA]
 ·exact xi h hA (by simp) fa (lo ++ D.oy l)
inductive App (s f : Int) (L : Lg) (F : Nat) (D : Dk) (b : List Int) : (Lg × Dk) × Int → Prop where
 | ake : 8192 < b.length → App s f L F D b ((L, D), 4)
 | rh (D' : Dk) : (63 ≤ L.fq.length ∨ D.ie < D.ib + (24 + b.length : Nat)) → ni s f L F D' → D'.ie = D.ie → D'.ir = D.ir → App s f L F D b ((L, D'), 9)
 | gr (D' : Dk) (Q : List Prt) : D.ir = true → D'.gr = true → Vir s f Q F D' False → gh Q = gh L.fq ++ [b] → D'.ie = D.ie → App s f L F D b ((L, D'), 10)
 | ok (L' : Lg) (D' : Dk) : ni s f L' F D' → gh L'.fq = gh L.fq ++ [b] → L'.fq.length ≤ L.fq.length + 1 → L'.fq ≠ [] → L'.gp = L.gp → D'.ie = D.ie → (D.ir = false → D'.ir = false) → D'.ib ≤ D.ib + (24 + b.length) → (∀ q, L.fq = [q] → q.size < L.gp → L'.fq.length = 1) → App s f L F D b ((L', D'), 0)
theorem ahe (q : Prt) (b : List Int) : body (q.sd b) = body q ++ ii b := by
 unfold body Prt.sd
 rw [aev, amf, List.append_assoc]
theorem bac (no n : Int) (b : List Int) (z : Int) : body ⟨no, n, [b], z⟩ = mn n ++ ii b := by unfold body; rw [amf]
theorem aez (h : Chn s f (Q0 ++ [q])) (hs : 0 ≤ s ∧ s < 64) : q.no = (s + Q0.length) % 64 ∧ q.first = f + (gh Q0).length ∧ ∀ d ∈ q.ga, d.length ≤ 8192 := by
 obtain ⟨_, h2⟩ := (qa hs).1 h
 exact ⟨h2.1, h2.2.1, h2.2.2.1⟩
theorem ajj (h : Chn s f L.fq) (hs : 0 ≤ s ∧ s < 64) (h0 : L.fq = [] → f = 0) (hf0 : 0 ≤ f) (hf : f + (gh L.fq).length ≤ 1000000000000) : L.next = f + (gh L.fq).length := by
 unfold Lg.next
 rcases List.eq_nil_or_concat L.fq with hq | ⟨Q0, q, hq⟩
 ·rw [hq]; simp [gh, h0 hq]
 ·rw [List.concat_eq_append] at hq
  rw [hq, List.getLast?_concat]
  rw [hq] at h hf
  obtain ⟨_, h2, _⟩ := aez h hs
  rw [lh, qy] at hf ⊢
  simp only
  rw [h2, ft (by omega) (by simp at hf; omega)]
  simp; omega
theorem awq (h : Dsc Q F D w) : F ≤ (gh Q).length := by
 rcases h with ⟨_, _, rfl⟩ | ⟨Q0, q, fa, lo, m, rfl, _, _, _, hm, hF, _⟩
 ·exact Nat.zero_le _
 ·rw [lh, qy]; simp; omega
theorem bca {F' : Nat} (h : Vir s f Q F D w) (hF : F' ≤ F) : Vir s f Q F' D w := by
 refine ⟨h.chn, h.s0, h.f0, h.len, h.few, ?_, h.nil, h.siz⟩
 rcases h.dsc with ⟨h1, h2, h3⟩ | ⟨Q0, q, fa, lo, m, h1, h2, h3, h4, h5, h6, h7⟩
 ·exact .inl ⟨h1, h2, by omega⟩
 ·exact .inr ⟨Q0, q, fa, lo, m, h1, h2, h3, h4, h5, by omega, h7⟩
theorem bgg {D0 : Dk} (h : ni s f L F D) (hfs : D.fs = L.fq.map ke) (hlen : L.fq.length ≤ 62) (hfew : f + (gh L.fq).length + 1 ≤ 1000000000000) (hb : b.length ≤ 8192) (hm : ∀ q, L.fq = [q] → L.gp ≤ q.size) (hr : D.ie = D0.ie) (ha : D.ir = D0.ir) (hu : D.ib = D0.ib) {no : Int} (hno : no = (s + L.fq.length) % 64) : App s f L F D0 b (L.zu D b no) := by
 have hv := h.vir
 have hnx := ajj hv.chn hv.s0 (fun h => (hv.nil h).2) hv.f0 hv.few
 unfold Lg.zu
 have hbl : (mn L.next ++ ii b).length = 24 + b.length := by rw [List.length_append, agk, mo]; omega
 generalize hq' : (⟨no, L.next, [b], ((mn L.next ++ ii b).length : Nat)⟩ : Prt) = q'
 have e1 : q'.no = no := by rw [← hq']
 have e2 : q'.first = L.next := by rw [← hq']
 have e3 : q'.ga = [b] := by rw [← hq']
 have e5 : body q' = mn L.next ++ ii b := by rw [← hq', bac]
 have e4 : q'.size = (body q').length := by rw [e5, ← hq']
 rw [← e5] at hbl ⊢
 have hch : Chn s f (L.fq ++ [q']) := (qa hv.s0).2 ⟨hv.chn, by rw [e1, hno], by rw [e2, hnx], by rw [e3]; simpa using hb, trivial⟩
 have hA := tz hv.s0 hch (by simp; omega)
 rw [← hfs, e1] at hA
 have hall : gh (L.fq ++ [q']) = gh L.fq ++ [b] := by rw [lh, qy, e3]
 have hF := awq hv.dsc
 have hsz : ∀ x ∈ L.fq ++ [q'], x.size = (body x).length := fun x hx => by
  rcases List.mem_append.1 hx with hx | hx
  ·exact h.size x hx
  ·rw [List.mem_singleton.1 hx]; exact e4
 have hvir : ∀ {E : Dk} {t : List Int} {w : Prop}, E.fs = D.fs ++ [⟨no, [], t⟩] → t <+: body q' → (w → t = body q') → Vir s f (L.fq ++ [q']) F E w := fun {E t w} hE ht hw => ⟨hch, hv.s0, hv.f0, by simp; omega, by rw [hall]; simp; omega, .inr ⟨L.fq, q', [], t, 0, rfl, by rw [hE, hfs, e1], ht, hw, Nat.zero_le _, hF, .inl rfl⟩, fun h => by simp at h, hsz⟩
 rcases bdw (l := body q') h.up (by omega) hA with ⟨e, hx⟩ | ⟨E, t, e, hE, ht, htl, hrm, har⟩
 ·rw [e, if_neg (by simp)]
  refine App.rh D (.inr ?_) h hr ha
  rw [← hr, ← hu]
  omega
 ·rw [e]
  cases hd : E.gr with
  | true =>
   simp only [if_true]
   rw [if_neg (by simp)]
   refine App.gr E _ ?_ hd (hvir hE ht fun h => h.elim) hall (hrm.trans hr)
   rw [← ha]
   cases hda : D.ir with
   | true => rfl
   | false => rw [(har hda).1] at hd; cases hd
  | false =>
   simp only [Bool.false_eq_true, if_false, if_true]
   have htl' := htl hd
   have hg : ni s f { L with fq := L.fq ++ [q'] } F E := ⟨hvir hE ht fun _ => htl', hsz, hd⟩
   refine App.ok { L with fq := L.fq ++ [q'] } E hg hall (by simp) (by simp) rfl (hrm.trans hr) (fun hx => (har (ha.trans hx)).2) ?_ fun q hq hsz => absurd (hm q hq) (by omega)
   rw [← hu]
   unfold Dk.ib
   rw [hE, htl']
   simp [Fil.len]
   omega
theorem bdh (h : ni s f L F D) (hq : L.fq = Q0 ++ [q]) : ∃ D1, D.mu q.no = (D1, 0) ∧ D1.fs = L.fq.map ke ∧ ni s f L F D1 ∧ D1.ie = D.ie ∧ D1.ir = D.ir ∧ D1.ib = D.ib := by
 have hv := h.vir
 obtain ⟨h1, h2, h3, h4, h5, h6, h7⟩ := aod hv h.up
 have e : L.mu D = D.mu q.no := by unfold Lg.mu; rw [h.up, hq, List.getLast?_concat]; rfl
 rw [e] at h1 h2 h3 h4 h5 h6 h7
 refine ⟨(D.mu q.no).1, by rw [← h1], ?_, ⟨bca h2 (awq hv.dsc), h.size, h3⟩, h6, h4, h7⟩
 rcases hv.dsc with ⟨hx, _⟩ | ⟨Q1, q1, fa, lo, m, hq1, hf, _, hw, _⟩
 ·rw [hx] at hq; simp at hq
 ·obtain ⟨rfl, hqq⟩ := List.append_inj' (hq.symm.trans hq1) rfl
  cases hqq
  have hA := tz hv.s0 (hq ▸ hv.chn) (by have := hv.len; rw [hq] at this; omega)
  have hs := xi hf hA (by simp) (fa ++ lo) []
  have hg : D.get q.no = some ⟨q.no, fa, lo⟩ := yw hf hA
  have e2 : D.mu q.no = (D.my q.no (fa ++ lo) [], 0) := by unfold Dk.mu; rw [h.up, hg]; rfl
  simp only at hs
  rw [e2, hs, hw trivial, hq]
  simp [ke]
theorem baj (h : ni s f L F D) (hfew : f + (gh L.fq).length + 1 ≤ 1000000000000) : App s f L F D b (L.append D b) := by
 have hv := h.vir
 unfold Lg.append
 by_cases hb : 8192 < b.length
 ·rw [if_pos hb]; exact App.ake hb
 ·rw [if_neg hb]
  rcases List.eq_nil_or_concat L.fq with hq | ⟨Q0, q, hq⟩
  ·have hsf := hv.nil hq
   have hfs : D.fs = L.fq.map ke := by
    rcases hv.dsc with ⟨_, hf, _⟩ | ⟨Q1, q1, fa, lo, m, hq1, _⟩
    ·rw [hf, hq]; rfl
    ·rw [hq] at hq1; simp at hq1
   rw [show L.fq.getLast? = none by rw [hq]; rfl]
   unfold Lg.zm
   rw [show L.fq.getLast? = none by rw [hq]; rfl]
   exact bgg h hfs (by rw [hq]; simp) hfew (by omega) (fun q hx => by rw [hq] at hx; simp at hx) rfl rfl rfl (by rw [hq, hsf.1]; rfl)
  ·rw [List.concat_eq_append] at hq
   have hgl : L.fq.getLast? = some q := by rw [hq, List.getLast?_concat]
   rw [hgl]
   simp only
   obtain ⟨cn, cf, cr⟩ := aez (hq ▸ hv.chn) hv.s0
   by_cases hm : L.gp ≤ q.size
   ·rw [if_pos hm]
    unfold Lg.zm
    rw [hgl]
    simp only
    by_cases h63 : 63 ≤ L.fq.length
    ·rw [if_pos h63]
     exact App.rh D (.inl h63) h rfl rfl
    ·rw [if_neg h63]
     obtain ⟨D1, e1, e2, e3, e4, e5, e6⟩ := bdh h hq
     rw [e1, if_pos rfl]
     refine bgg e3 e2 (by omega) hfew (by omega) (fun q1 hx => ?_) e4 e5 e6 ?_
     ·rw [hq] at hx
      have hx2 : Q0 ++ [q] = [] ++ [q1] := hx
      obtain ⟨_, hx3⟩ := List.append_inj' hx2 rfl
      cases hx3; exact hm
     ·rw [cn, hq]; simp; omega
   ·rw [if_neg hm]
    rcases hv.dsc with ⟨hx, _⟩ | ⟨Q1, q1, fa, lo, m, hq1, hf, _, hw, hmm, hF, hy⟩
    ·rw [hx] at hq; simp at hq
    obtain ⟨rfl, hqq⟩ := List.append_inj' (hq.symm.trans hq1) rfl
    cases hqq
    have hl63 := hv.len
    have hA := tz hv.s0 (hq ▸ hv.chn) (by rw [hq] at hl63; omega)
    have hset : L.fq.set (L.fq.length - 1) (q.sd b) = Q0 ++ [q.sd b] := by
     rw [hq]; simp
    have hch : Chn s f (Q0 ++ [q.sd b]) := (qa hv.s0).2 ⟨((qa hv.s0).1 (hq ▸ hv.chn)).1, cn, cf, fun d hd => by
     rcases List.mem_append.1 hd with hd | hd
     ·exact cr d hd
     ·rw [List.mem_singleton.1 hd]; omega, trivial⟩
    have hall : gh (Q0 ++ [q.sd b]) = gh L.fq ++ [b] := by rw [hq, lh, lh, qy, qy, List.append_assoc]; rfl
    have hsz : ∀ x ∈ Q0 ++ [q.sd b], x.size = (body x).length := fun x hx => by
     rcases List.mem_append.1 hx with hx | hx
     ·exact h.size x (by rw [hq]; exact List.mem_append_left _ hx)
     ·rw [List.mem_singleton.1 hx, ahe, List.length_append]
      have := h.size q (by rw [hq]; simp)
      show q.size + _ = _
      rw [this]; simp
    have hvir : ∀ {E : Dk} {t : List Int} {w : Prop}, E.fs = Q0.map ke ++ [⟨q.no, fa, lo ++ t⟩] → t <+: ii b → (w → t = ii b) → Vir s f (Q0 ++ [q.sd b]) F E w := fun {E t w} hE ht hwt => by
     have ew : fa ++ (lo ++ t) = body q ++ t := by rw [← hw trivial, List.append_assoc]
     refine ⟨hch, hv.s0, hv.f0, by rw [hq] at hl63; simpa using hl63, by rw [hall]; simp; omega, .inr ⟨Q0, q.sd b, fa, lo ++ t, m, rfl, hE, ?_, fun hh => ?_, ?_, hF, ?_⟩, fun h => by simp at h, hsz⟩
     ·rw [ew, ahe]; exact (List.prefix_append_right_inj _).2 ht
     ·rw [ew, ahe, hwt hh]
     ·unfold Prt.sd; simp; omega
     ·refine hy.imp id fun hy => ?_
      have : (q.sd b).ga.take m = q.ga.take m := by unfold Prt.sd; exact List.take_append_of_le_length hmm
      rw [this]
      exact hy
    rcases bdn (l := ii b) h.up (ata hv.s0 hv.chn q (by rw [hq]; simp)) hf hA with ⟨e, hx⟩ | ⟨E, t, e, hE, ht, htl, hrm, har⟩
    ·rw [e, if_neg (by simp)]
     refine App.rh D (.inr ?_) h rfl rfl
     rw [mo] at hx
     omega
    ·rw [e]
     cases hd : E.gr with
     | true =>
      simp only [if_true]
      rw [if_neg (by simp)]
      refine App.gr E _ ?_ hd (hvir hE ht fun h => h.elim) hall hrm
      cases hda : D.ir with
      | true => rfl
      | false => rw [(har hda).1] at hd; cases hd
     | false =>
      simp only [Bool.false_eq_true, if_false, if_true]
      rw [hset]
      have htl' := htl hd
      have hg : ni s f { L with fq := Q0 ++ [q.sd b] } F E := ⟨hvir hE ht fun _ => htl', hsz, hd⟩
      refine App.ok { L with fq := Q0 ++ [q.sd b] } E hg hall (by rw [hq]; simp) (by simp) rfl hrm (fun hx => (har hx).2) ?_ fun q1 hx _ => ?_
      ·unfold Dk.ib
       rw [hE, hf, htl']
       simp [Fil.len, mo]
       omega
      ·rw [hq] at hx
       have := congrArg List.length hx
       simpa using this
end
set_option maxRecDepth 100000
open Go.Eng Go.Proofs.YtfnhoaemapheoaaGreat.Sint
def up (a : Int) (c : Nat) : List Int := (List.range c).map fun i : Nat => a + (i : Int)
theorem ws (a : Int) (c : Nat) : (up a c).length = c := by simp [up]
theorem abd (a : Int) (c : Nat) (i : Nat) (h : i < (up a c).length) : (up a c)[i] = a + i := by simp [up]
theorem alb {a x : Int} {c : Nat} : x ∈ up a c ↔ a ≤ x ∧ x < a + c := by
 simp only [up, List.mem_map, List.mem_range]
 constructor
 ·rintro ⟨i, hi, rfl⟩; omega
 ·rintro ⟨h1, h2⟩; exact ⟨(x - a).toNat, by omega, by omega⟩
theorem agt (a : Int) (c : Nat) : (up a c).Pairwise (· ≤ ·) := by
 rw [List.pairwise_iff_getElem]
 intro i j hi hj hij
 rw [abd, abd]; omega
theorem asv {l l' : List Int} (h : l.Pairwise (· ≤ ·)) (hp : l'.Perm l) : oe l' = l := by
 have hs : (oe l').Pairwise fun a b => decide (a ≤ b) = true := List.pairwise_mergeSort (fun a b c h1 h2 => by simp at *; omega) (fun a b => by simp; omega) l'
 exact List.Perm.eq_of_pairwise (fun a b _ _ h1 h2 => by simp at h1 h2; omega) hs (h.imp fun h => by simpa using h) ((nw l').trans hp)
theorem aid {ns : List Int} (h : ∀ i (hi : i < ns.length), 0 < i → (ns[i] + 63) % 64 ∈ ns) : ∀ f i, wt ns f i = ns
 | 0, _ => rfl
 | f + 1, i => by
  rw [wt]
  cases hg : ns[i]? with
  | none => rfl
  | some n =>
   obtain ⟨hi, rfl⟩ := List.getElem?_eq_some_iff.1 hg
   simp only
   rw [if_neg (fun hx => hx.2 (h i hi hx.1))]
   exact aid h f (i + 1)
theorem aia {ns : List Int} {j : Nat} (hj : j < ns.length) (hj0 : 0 < j) (h : ∀ i (hi : i < ns.length), 0 < i → i < j → (ns[i] + 63) % 64 ∈ ns) (hn : (ns[j] + 63) % 64 ∉ ns) : ∀ f i, i ≤ j → j < i + f → wt ns f i = ns.drop j ++ ns.take j
 | 0, i, h1, h2 => by omega
 | f + 1, i, h1, h2 => by
  rw [wt, List.getElem?_eq_getElem (by omega)]
  simp only
  by_cases hij : i = j
  ·subst hij
   rw [if_pos ⟨hj0, hn⟩]
  ·rw [if_neg (fun hx => hx.2 (h i (by omega) hx.1 (by omega)))]
   exact aia hj hj0 h hn f (i + 1) (by omega) (by omega)
def ut (s : Int) (n : Nat) : List Int := (List.range n).map fun i : Nat => (s + (i : Int)) % 64
theorem avv {s : Int} {n : Nat} (hs : 0 ≤ s ∧ s < 64) (hn : n ≤ 63) : yh (oe (ut s n)) = ut s n := by
 by_cases hw : s + n ≤ 64
 ·have e : ut s n = up s n := by
   unfold ut up
   exact List.map_congr_left fun i hi => by rw [List.mem_range] at hi; omega
  rw [e, asv (agt s n) (List.Perm.refl _)]
  refine aid (fun i hi h0 => ?_) _ _
  rw [abd, alb]
  rw [ws] at hi
  omega
 ·obtain ⟨a, ha⟩ : ∃ a : Nat, (a : Int) = s + n - 64 := ⟨(s + n - 64).toNat, by omega⟩
  obtain ⟨c, hc⟩ : ∃ c : Nat, (c : Int) = 64 - s := ⟨(64 - s).toNat, by omega⟩
  have e : ut s n = up s c ++ up 0 a := by
   apply List.ext_getElem
   ·simp [ut, ws]; omega
   ·intro i h1 h2
    rw [List.getElem_append]
    simp only [ut, List.length_map, List.length_range] at h1
    have el : (ut s n)[i]'(by simpa [ut] using h1) = (s + i) % 64 := by simp [ut]
    rw [el]
    split
    ·rename_i h; rw [abd]; rw [ws] at h; omega
    ·rename_i h; rw [abd]; rw [ws] at h ⊢; omega
  have hsrt : oe (ut s n) = up 0 a ++ up s c := by
   refine asv ?_ (by rw [e]; exact List.perm_append_comm)
   rw [List.pairwise_append]
   refine ⟨agt _ _, agt _ _, fun x hx y hy => ?_⟩
   rw [alb] at hx hy
   omega
  rw [hsrt]
  have hlen : (up 0 a ++ up s c).length = a + c := by simp [ws]
  have hmem : ∀ x, x ∈ up 0 a ++ up s c ↔ (0 ≤ x ∧ x < a) ∨ (s ≤ x ∧ x < 64) := fun x => by
   rw [List.mem_append, alb, alb]; omega
  have hga : (up 0 a ++ up s c)[a]'(by rw [hlen]; omega) = s := by
   rw [List.getElem_append_right (by rw [ws]; omega), abd]; simp [ws]
  have := aia (ns := up 0 a ++ up s c) (j := a) (by rw [hlen]; omega) (by omega) (fun i hi h0 hia => by
   rw [hmem, List.getElem_append_left (by rw [ws]; exact hia), abd]; omega) (by rw [hmem, hga]; omega) (up 0 a ++ up s c).length 0 (Nat.zero_le _) (by rw [hlen]; omega)
  unfold yh
  rw [this, e, List.drop_left' (ws _ _), List.take_left' (ws _ _)]
theorem azj {Q : List Prt} {s f : Int} (hs : 0 ≤ s ∧ s < 64) (h : Chn s f Q) : Q.map Prt.no = ut s Q.length := by
 apply List.ext_getElem
 ·simp [ut]
 ·intro i h1 h2
  simp only [List.length_map] at h1
  rw [List.getElem_map, agq hs h i h1]
  simp [ut]
theorem awh {Q : List Prt} {s f : Int} {D : Dk} (hs : 0 ≤ s ∧ s < 64) (h : Chn s f Q) (hl : Q.length ≤ 63) (hd : D.pk = Q.map Prt.no) : yh D.ig = Q.map Prt.no := by
 unfold Dk.ig
 rw [hd, azj hs h, avv hs hl]
section
variable {s f : Int} {Q Q0 : List Prt} {q : Prt} {F : Nat} {D : Dk} {w : Prop} {fa lo : List Int} {L : Lg} {b l : List Int} {A B : List Fil} {k : Int}
theorem zv (n : Int) : (yb n).length = 8 := qe _
theorem aka {n : Int} (h0 : 0 ≤ n) (h1 : n ≤ 1000000000000) : IntKind.i64.wrap (nf (yb n)) = n := by
 unfold yb
 rw [yq h0 (by omega)]
 obtain ⟨m, rfl⟩ : ∃ m : Nat, n = m := ⟨n.toNat, by omega⟩
 have := amz (n := m) (by omega) []
 rw [List.append_nil] at this
 rw [this, ft (by omega) (by omega)]
theorem aqt (hd : D.gr = false) (h : D.fs = A ++ ⟨k, fa, lo⟩ :: B) (hA : ∀ x ∈ A, x.n ≠ k) : D.kj k = (fa ++ lo, 0) := by
 unfold Dk.kj
 rw [hd, yw h hA]
 rfl
theorem apn (hr : ∀ d ∈ q.ga, d.length ≤ 8192) {p : List Int} (hp : agy p) : ub (body q ++ p) = (yb q.first :: q.ga, (body q).length) := by
 rw [apl]
 exact apc (fun d hd => by
  rcases List.mem_cons.1 hd with rfl | hd
  ·rw [zv]; omega
  ·exact hr d hd) hp
theorem amx (hd : D.gr = false) (h : D.fs = A ++ ⟨q.no, fa, lo⟩ :: B) (hA : ∀ x ∈ A, x.n ≠ q.no) (hc : fa ++ lo = body q) (hr : ∀ d ∈ q.ga, d.length ≤ 8192) (h0 : 0 ≤ q.first) (h1 : q.first ≤ 1000000000000) (hz : q.size = (body q).length) (kb : Bool) : om D q.no kb = ((D, some q), 0) := by
 unfold om
 have ha := apn hr apy
 rw [List.append_nil] at ha
 rw [aqt hd h hA]
 simp only [hc, ha]
 have e : aar q.no (yb q.first :: q.ga, (body q).length) = q := by
  unfold aar
  simp only [List.headD_cons, List.tail_cons]
  rw [aka h0 h1, ← hz]
 rw [if_neg (by simp), if_neg (by simp), if_neg (by simp), if_neg (by simp [zv]), if_neg (by omega), e]
theorem bcg {c : List Int} (hr : ∀ d ∈ q.ga, d.length ≤ 8192) (hc : c <+: body q) : (agy c ∧ c.length < (mn q.first).length) ∨ ∃ j p, j ≤ q.ga.length ∧ c = mn q.first ++ cat (q.ga.take j) ++ p ∧ agy p ∧ (c = body q → j = q.ga.length ∧ p = []) ∧ ∀ m, m ≤ q.ga.length → (mn q.first ++ cat (q.ga.take m)).length ≤ c.length → m ≤ j := by
 obtain ⟨r, he⟩ := hc
 rw [apl] at he
 have hd : ∀ d ∈ yb q.first :: q.ga, d.length ≤ 8192 := fun d hd => by
  rcases List.mem_cons.1 hd with rfl | hd
  ·rw [zv]; omega
  ·exact hr d hd
 obtain ⟨j, p, h1, h2, h3, h4, h5⟩ := akx hd he
 cases j with
 | zero =>
  have hcp : c = p := by rw [h2]; simp [cat]
  subst hcp
  exact .inl ⟨h3, h5 (by simp)⟩
 | succ j =>
  have h1' : j ≤ q.ga.length := by simpa using h1
  have e : cat ((yb q.first :: q.ga).take (j + 1)) = mn q.first ++ cat (q.ga.take j) := by
   rw [List.take_succ_cons]; simp [cat, mn, yb]
  rw [e] at h2
  have hlen : ∀ m, m ≤ q.ga.length → (mn q.first ++ cat (q.ga.take m)).length ≤ c.length → m ≤ j := fun m hm hl => by
   by_cases hjm : m ≤ j
   ·exact hjm
   ·exfalso
    have hjl : j < q.ga.length := by omega
    have hp := h5 (by simpa using hjl)
    simp only [List.getElem_cons_succ] at hp
    have h6 : (cat (q.ga.take (j + 1))).length ≤ (cat (q.ga.take m)).length := arq (by omega)
    have e6 : cat (q.ga.take (j + 1)) = cat (q.ga.take j) ++ ii q.ga[j] := by rw [List.take_succ_eq_append_getElem hjl, aev, amf]
    rw [e6] at h6
    rw [h2] at hl
    simp only [List.length_append] at hl h6
    omega
  refine .inr ⟨j, p, h1', h2, h3, fun hb => ?_, hlen⟩
  have : q.ga.length ≤ j := hlen _ (Nat.le_refl _) (by rw [hb, List.take_length]; exact Nat.le_refl _)
  have hj : j = q.ga.length := by omega
  exact ⟨hj, h4 (by simp; omega)⟩
theorem bag {c : List Int} (h : agy c) : ub c = ([], 0) := by
 have := apc (ds := []) (fun d hd => by simp at hd) h
 simpa [cat] using this
theorem axq (hd : D.gr = false) (h : D.fs = A ++ [⟨q.no, fa, lo⟩]) (hA : ∀ x ∈ A, x.n ≠ q.no) (hc : (fa ++ lo) <+: body q) (hr : ∀ d ∈ q.ga, d.length ≤ 8192) (h0 : 0 ≤ q.first) (h1 : q.first ≤ 1000000000000) (hz : q.size = (body q).length) :
  ((fa ++ lo).length < (mn q.first).length ∧ ∃ D', om D q.no true = ((D', none), 0) ∧ D'.fs = A ∧ D'.ie = D.ie ∧ D'.ir = D.ir ∧ D'.gr = false) ∨
  ∃ (j : Nat) (q' : Prt) (D' : Dk) (fa' lo' : List Int), j ≤ q.ga.length ∧ om D q.no true = ((D', some q'), 0) ∧ D'.fs = A ++ [⟨q.no, fa', lo'⟩] ∧ fa' ++ lo' = body q' ∧ q'.no = q.no ∧ q'.first = q.first ∧ q'.ga = q.ga.take j ∧ q'.size = (body q').length ∧ D'.ie = D.ie ∧ D'.ir = D.ir ∧ D'.gr = false ∧ fa'.length + lo'.length ≤ fa.length + lo.length ∧
   (fa ++ lo = body q → D' = D ∧ q' = q ∧ j = q.ga.length) ∧ (∀ m, m ≤ q.ga.length → (mn q.first ++ cat (q.ga.take m)).length ≤ (fa ++ lo).length → m ≤ j) := by
 have hg : D.get q.no = some ⟨q.no, fa, lo⟩ := yw h hA
 have hrd : D.kj q.no = (fa ++ lo, 0) := aqt (B := []) hd h hA
 rcases bcg hr hc with ⟨ht, hl⟩ | ⟨j, p, hj, hcc, hp, hb, hm⟩
 ·refine .inl ⟨hl, D.rem q.no, ?_, ?_, rfl, rfl, hd⟩
  ·unfold om
   rw [hrd]
   simp only [bag ht]
   rw [if_neg (by simp), if_neg (by simp), if_pos (by simp)]
   unfold Dk.oc
   rw [hd, hg]
   rfl
  ·have := atq (B := []) h hA (by simp)
   simpa using this
 ·by_cases hbody : fa ++ lo = body q
  ·refine .inr ⟨q.ga.length, q, D, fa, lo, Nat.le_refl _, amx hd h hA hbody hr h0 h1 hz true, h, hbody, rfl, rfl, by simp, hz, rfl, rfl, hd, Nat.le_refl _, fun _ => ⟨rfl, rfl, rfl⟩, fun m hm _ => hm⟩
  ·obtain ⟨q', hq'⟩ : ∃ q' : Prt, q' = ⟨q.no, q.first, q.ga.take j, ((mn q.first ++ cat (q.ga.take j)).length : Nat)⟩ := ⟨_, rfl⟩
   have e1 : q'.no = q.no := by rw [hq']
   have e2 : q'.first = q.first := by rw [hq']
   have e3 : q'.ga = q.ga.take j := by rw [hq']
   have e4 : body q' = mn q.first ++ cat (q.ga.take j) := by unfold body; rw [e2, e3]
   have e5 : q'.size = (body q').length := by rw [e4, hq']
   have hcc' : fa ++ lo = body q' ++ p := by rw [hcc, e4]
   have hr' : ∀ d ∈ q'.ga, d.length ≤ 8192 := fun d hd => hr d (by rw [e3] at hd; exact List.mem_of_mem_take hd)
   have ha := apn hr' hp
   have eq : aar q.no (yb q'.first :: q'.ga, (body q').length) = q' := by
    unfold aar
    simp only [List.headD_cons, List.tail_cons]
    rw [e2, aka h0 h1, ← e5, e3, hq']
   by_cases hpn : p = []
   ·subst hpn
    rw [List.append_nil] at ha hcc'
    refine .inr ⟨j, q', D, fa, lo, hj, ?_, h, hcc', e1, e2, e3, e5, rfl, rfl, hd, Nat.le_refl _, fun hx => absurd hx hbody, hm⟩
    unfold om
    rw [hrd]
    simp only [hcc', ha]
    rw [if_neg (by simp), if_neg (by simp), if_neg (by simp), if_neg (by simp [zv]), if_neg (by omega), eq]
   ·have hplen : 0 < p.length := List.length_pos_iff.2 hpn
    have hs := xi h hA (by simp) (body q') []
    simp only at hs
    have hcut : D.cut q.no ((body q').length : Nat) = (D.my q.no (body q') [], 0) := by
     unfold Dk.cut
     rw [hd, hg]
     simp only [Bool.false_eq_true, if_false]
     have hl : (fa.length + lo.length : Nat) = (body q').length + p.length := by rw [← List.length_append, ← List.length_append, hcc']
     rw [if_neg (by omega), Int.toNat_natCast, hcc', List.take_left' rfl]
    refine .inr ⟨j, q', D.my q.no (body q') [], body q', [], hj, ?_, hs, by simp, e1, e2, e3, e5, rfl, rfl, hd, by have := congrArg List.length hcc'; simp only [List.length_append] at this; simp; omega, fun hx => absurd hx hbody, hm⟩
    unfold om
    rw [hrd]
    simp only [hcc', ha, hcut]
    rw [if_neg (by simp), if_neg (by simp), if_neg (by simp), if_neg (by simp [zv]), if_pos (by rw [List.length_append]; omega), if_neg (by simp), eq]
end
set_option maxRecDepth 100000
open Go.Eng Go.Proofs.YtfnhoaemapheoaaGreat.Sint
section
variable {s f : Int} {Q Q0 : List Prt} {q : Prt} {F : Nat} {D : Dk} {w : Prop} {fa lo : List Int} {L : Lg} {b l : List Int} {A B : List Fil} {k : Int}
theorem aku {acc : List Prt} (h : Chn s f acc) (hs : 0 ≤ s ∧ s < 64) (hne : acc ≠ []) (hf0 : 0 ≤ f) (hf : f + (gh acc).length ≤ 1000000000000) : adn acc = f + (gh acc).length :=
 ajj (L := ⟨0, acc⟩) h hs (fun h => absurd h hne) hf0 hf
theorem apt (hd : D.gr = false) (hs : 0 ≤ s ∧ s < 64) (hf0 : 0 ≤ f) : ∀ (Q1 acc : List Prt), Chn s f (acc ++ Q1 ++ [q]) → (acc ++ Q1 ++ [q]).length ≤ 63 → f + (gh (acc ++ Q1 ++ [q])).length ≤ 1000000000000 → (∀ x ∈ Q1, x.size = (body x).length) → D.fs = (acc ++ Q1).map ke ++ B → ur (Q1.map Prt.no ++ [k]) D acc = ur [k] D (acc ++ Q1)
 | [], acc, _, _, _, _, _ => by simp
 | q1 :: Q1, acc, hc, hl, hfew, hz, hfs => by
  have e0 : acc ++ q1 :: Q1 ++ [q] = (acc ++ [q1]) ++ Q1 ++ [q] := by simp
  have e1 : acc ++ q1 :: Q1 ++ [q] = (acc ++ [q1]) ++ (Q1 ++ [q]) := by simp
  have e2 : acc ++ q1 :: Q1 ++ [q] = acc ++ (q1 :: Q1 ++ [q]) := by simp
  have hc1 : Chn s f (acc ++ [q1]) := ((qa hs).1 (e1 ▸ hc)).1
  have hl1 : (acc ++ [q1]).length ≤ 64 := by rw [e1, List.length_append] at hl; omega
  obtain ⟨_, cf, cr⟩ := aez hc1 hs
  have hA := tz hs hc1 hl1
  have hfew1 : f + ((gh acc).length : Int) ≤ 1000000000000 := by rw [e2, lh, List.length_append] at hfew; omega
  have hld := amx (A := acc.map ke) (B := Q1.map ke ++ B) (fa := body q1) (lo := []) hd (by rw [hfs]; simp [ke]) hA (by simp) cr (by omega) (by omega) (hz q1 (by simp)) false
  have ih := apt hd hs hf0 Q1 (acc ++ [q1]) (e0 ▸ hc) (e0 ▸ hl) (e0 ▸ hfew) (fun x hx => hz x (by simp [hx])) (by rw [hfs]; simp)
  rw [List.map_cons, List.cons_append, ur]
  have hem : (Q1.map Prt.no ++ [k]).isEmpty = false := by simp
  rw [hem, hld]
  simp only [ne_eq, not_true_eq_false, if_false]
  have hfirst : ¬ (¬ acc = [] ∧ ¬ q1.first = adn acc) := fun hx => hx.2 (by
   rw [aku ((qa hs).1 hc1).1 hs hx.1 hf0 hfew1, cf])
  rw [if_neg hfirst, ih]
  simp
theorem bgr (h : Vir s f Q F D w) (hd : D.gr = false) {gp : Int} (hm : 64 ≤ gp ∧ gp ≤ 1048576) :
  ∃ (s' f' : Int) (Q' : List Prt) (D' : Dk), zn D gp = ((D', some Q'), 0) ∧ ni s' f' ⟨gp, Q'⟩ 0 D' ∧ D'.ir = D.ir ∧ D'.ie = D.ie ∧ (∃ j, gh Q' = (gh Q).take j) ∧ F ≤ (gh Q').length ∧ (s = 0 → f = 0 → s' = 0 ∧ f' = 0) ∧ (w → D' = D ∧ Q' = Q ∧ s' = s ∧ f' = f) ∧ Q'.length ≤ Q.length ∧ D'.ib ≤ D.ib ∧ f' ≤ f := by
 unfold zn
 rw [if_neg (by omega), hd]
 simp only [Bool.false_eq_true, if_false]
 rcases h.dsc with ⟨hq, hf, rfl⟩ | ⟨Q0, q, fa, lo, m, hq, hf, hp, hw, hmm, hF, hy⟩
 ·have hfl : D.ig = [] := by unfold Dk.ig Dk.pk; rw [hf]; exact List.perm_nil.1 (nw [])
  have ho : yh ([] : List Int) = [] := rfl
  rw [hfl, ho, hq]
  obtain ⟨rfl, rfl⟩ := h.nil hq
  exact ⟨0, 0, [], D, rfl, ⟨⟨trivial, by omega, by omega, by simp, by simp [gh], .inl ⟨rfl, hf, rfl⟩, fun _ => ⟨rfl, rfl⟩, fun q hx => by simp at hx⟩, fun q hx => by simp at hx, hd⟩, rfl, rfl, ⟨0, rfl⟩, Nat.zero_le _, fun _ _ => ⟨rfl, rfl⟩, fun _ => ⟨rfl, rfl, rfl, rfl⟩, by simp, Nat.le_refl _, Int.le_refl _⟩
 ·have hs := h.s0
  have hf0 := h.f0
  have hl := h.len
  have hfew := h.few
  have hc := h.chn
  have hsz := h.siz
  have hk : D.pk = Q.map Prt.no := by unfold Dk.pk; rw [hf, hq, List.map_append, bfn, List.map_append]; rfl
  rw [awh hs hc hl hk]
  subst hq
  have hA := tz hs hc (by omega)
  obtain ⟨cn, cf, cr⟩ := aez hc hs
  have hfew0 : f + ((gh Q0).length : Int) ≤ 1000000000000 := by rw [lh, List.length_append] at hfew; omega
  have hpre := apt (k := q.no) (B := [⟨q.no, fa, lo⟩]) hd hs hf0 Q0 [] hc hl hfew (fun x hx => hsz x (by simp [hx])) hf
  rw [List.nil_append] at hpre
  rw [List.map_append, List.map_cons, List.map_nil, hpre, ur]
  rcases axq hd hf hA hp cr (by omega) (by omega) (hsz q (by simp)) with ⟨hlen, D', e1, e2, e3, e4, e5⟩ | ⟨j, q', D', fa', lo', hj, e1, e2, e3, e4, e5, e6, e7, e8, e9, e10, e13, e11, e12⟩
  ·have hem : ([] : List Int).isEmpty = true := rfl
   rw [hem, e1]
   simp only [ne_eq, not_true_eq_false, if_false, ur]
   have hm0 : m = 0 := by
    rcases hy with hy | hy
    ·exact hy
    ·have := hy.length_le
     simp only [List.length_append] at this hlen
     omega
   have hnw : ¬ w := fun hx => by
    have hbl : (body q).length = (mn q.first).length + (cat q.ga).length := by unfold body; rw [List.length_append]
    have := congrArg List.length (hw hx)
    omega
   have hc0 := ((qa hs).1 hc).1
   have hsz0 : ∀ x ∈ Q0, x.size = (body x).length := fun x hx => hsz x (by simp [hx])
   have hall : gh Q0 = (gh (Q0 ++ [q])).take (gh Q0).length := by rw [lh, List.take_left' rfl]
   have hlen0 : Q0.length ≤ 63 := by rw [List.length_append] at hl; omega
   rcases List.eq_nil_or_concat Q0 with hq0 | ⟨Q1, q1, hq0⟩
   ·subst hq0
    refine ⟨0, 0, [], D', rfl, ⟨⟨trivial, by omega, by omega, by simp, by simp [gh], .inl ⟨rfl, e2, rfl⟩, fun _ => ⟨rfl, rfl⟩, fun q hx => by simp at hx⟩, fun q hx => by simp at hx, e5⟩, e4, e3, ⟨_, hall⟩, ?_, fun _ _ => ⟨rfl, rfl⟩, fun hx => absurd hx hnw, by simp, by unfold Dk.ib; rw [e2, hf]; simp, hf0⟩
    omega
   ·rw [List.concat_eq_append] at hq0
    subst hq0
    refine ⟨s, f, Q1 ++ [q1], D', rfl, ⟨⟨hc0, hs, hf0, hlen0, hfew0, .inr ⟨Q1, q1, body q1, [], 0, rfl, by rw [e2]; simp [ke], by simp, fun _ => by simp, Nat.zero_le _, Nat.zero_le _, .inl rfl⟩, fun hx => by simp at hx, hsz0⟩, hsz0, e5⟩, e4, e3, ⟨_, hall⟩, by omega, fun a b => ⟨a, b⟩, fun hx => absurd hx hnw, by simp, by unfold Dk.ib; rw [e2, hf]; simp, Int.le_refl _⟩
  ·have hem : ([] : List Int).isEmpty = true := rfl
   rw [hem, e1]
   simp only [ne_eq, not_true_eq_false, if_false]
   have hfirst : ¬ (¬ Q0 = [] ∧ ¬ q'.first = adn Q0) := fun hx => hx.2 (by
    rw [aku ((qa hs).1 hc).1 hs hx.1 hf0 hfew0, e5, cf])
   rw [if_neg hfirst, ur]
   have hc' : Chn s f (Q0 ++ [q']) := (qa hs).2 ⟨((qa hs).1 hc).1, by rw [e4, cn], by rw [e5, cf], fun d hd => cr d (by rw [e6] at hd; exact List.mem_of_mem_take hd), trivial⟩
   have hsz' : ∀ x ∈ Q0 ++ [q'], x.size = (body x).length := fun x hx => by
    rcases List.mem_append.1 hx with hx | hx
    ·exact hsz x (by simp [hx])
    ·rw [List.mem_singleton.1 hx]; exact e7
   have hall : gh (Q0 ++ [q']) = (gh (Q0 ++ [q])).take ((gh Q0).length + j) := by
    rw [lh Q0 [q'], lh Q0 [q], qy, qy, e6, List.take_append, List.take_of_length_le (l := gh Q0) (by omega), Nat.add_sub_cancel_left]
   have hjl : (gh (Q0 ++ [q'])).length = (gh Q0).length + j := by rw [lh, qy, e6]; simp; omega
   have hql : (gh (Q0 ++ [q])).length = (gh Q0).length + q.ga.length := by rw [lh, qy]; simp
   refine ⟨s, f, Q0 ++ [q'], D', rfl, ⟨⟨hc', hs, hf0, by simpa using hl, by rw [hjl]; rw [hql] at hfew; omega, .inr ⟨Q0, q', fa', lo', 0, rfl, by rw [e2, e4], by rw [e3]; exact List.prefix_rfl, fun _ => e3, Nat.zero_le _, Nat.zero_le _, .inl rfl⟩, fun hx => by simp at hx, hsz'⟩, hsz', e10⟩, e9, e8, ⟨_, hall⟩, ?_, fun a b => ⟨a, b⟩, fun hx => ?_, by simp, by unfold Dk.ib; rw [e2, hf]; simp [Fil.len]; omega, Int.le_refl _⟩
   ·rw [hjl]
    have : m ≤ j := by
     rcases hy with hy | hy
     ·omega
     ·exact e12 m hmm (by have := hy.length_le; simp only [List.length_append] at this ⊢; omega)
    omega
   ·obtain ⟨a, b, _⟩ := e11 (hw hx)
    exact ⟨a, by rw [b], rfl, rfl⟩
end
set_option maxRecDepth 100000
open Go.Eng
structure Bal where
 n : Int
 gj : Int
deriving DecidableEq
structure Rg where
 p : Bal
 t : Bal
 v : Int
deriving DecidableEq
def gu : Bal := ⟨0, 0⟩
def rg0 : Rg := ⟨gu, gu, 0⟩
def Bal.sn (a b : Bal) : Bool := decide (a.n < b.n ∨ (a.n = b.n ∧ a.gj < b.gj))
def Rg.lj (r : Rg) (b : Bal) : Bool := decide (0 < b.n) && !b.sn r.p
def Rg.qr (r : Rg) (b : Bal) : Rg × Bool := if r.lj b = true then (⟨b, r.t, r.v⟩, true) else (r, false)
def ki (v : Int) : Bool := decide (1 ≤ v ∧ v ≤ 3)
def Rg.acc (r : Rg) (b : Bal) (v : Int) : Rg × Bool := if r.lj b = true ∧ ki v = true ∧ ¬ (r.t = b ∧ r.v ≠ v) then (⟨b, b, v⟩, true) else (r, false)
def Rg.right (r : Rg) : Bool := if r.t = gu then decide (r.v = 0) else ki r.v && !r.p.sn r.t
def tu (x : Int) : Prop := 0 ≤ x ∧ x < 18446744073709551616
def Bal.rng (b : Bal) : Prop := tu b.n ∧ tu b.gj
def Rg.rng (r : Rg) : Prop := r.p.rng ∧ r.t.rng
theorem ald {a b c : Bal} (h1 : a.sn b = false) (h2 : b.sn c = false) : a.sn c = false := by
 simp only [Bal.sn, decide_eq_false_iff_not] at *
 omega
theorem aej (a : Bal) : a.sn a = false := by simp [Bal.sn]
theorem avh {r : Rg} {b : Bal} (h : r.right = true) : (r.qr b).1.right = true ∧ (r.qr b).1.p.sn r.p = false ∧ (r.qr b).1.t = r.t ∧ (r.qr b).1.v = r.v ∧ ((r.qr b).2 = true → (r.qr b).1.p = b) := by
 unfold Rg.qr
 by_cases hs : r.lj b = true
 ·rw [if_pos hs]
  have hlt : b.sn r.p = false := by
   unfold Rg.lj at hs
   simp only [Bool.and_eq_true, Bool.not_eq_true'] at hs
   exact hs.2
  refine ⟨?_, hlt, rfl, rfl, fun _ => rfl⟩
  unfold Rg.right at h ⊢
  simp only at h ⊢
  by_cases ht : r.t = gu
  ·rw [if_pos ht] at h ⊢; exact h
  ·rw [if_neg ht] at h ⊢
   simp only [Bool.and_eq_true, Bool.not_eq_true'] at h ⊢
   exact ⟨h.1, ald hlt h.2⟩
 ·rw [if_neg hs]
  exact ⟨h, aej _, rfl, rfl, fun h => by simp at h⟩
theorem ayp {r : Rg} {b : Bal} {v : Int} (h : r.right = true) (hb : b.n ≠ 0) : (r.acc b v).1.right = true ∧ (r.acc b v).1.p.sn r.p = false ∧ (r.acc b v).1.t.sn r.t = false ∧ ((r.acc b v).1.t = r.t → (r.acc b v).1.v = r.v) ∧ ((r.acc b v).2 = true → (r.acc b v).1 = ⟨b, b, v⟩) := by
 unfold Rg.acc
 by_cases hs : r.lj b = true ∧ ki v = true ∧ ¬ (r.t = b ∧ r.v ≠ v)
 ·rw [if_pos hs]
  obtain ⟨h1, h2, h3⟩ := hs
  have hlt : b.sn r.p = false := by
   unfold Rg.lj at h1
   simp only [Bool.and_eq_true, Bool.not_eq_true'] at h1
   exact h1.2
  have hne : ¬ b = gu := fun he => hb (by rw [he]; rfl)
  refine ⟨?_, hlt, ?_, fun he => ?_, fun _ => rfl⟩
  ·unfold Rg.right
   simp only
   rw [if_neg hne, h2, aej]
   rfl
  ·show b.sn r.t = false
   unfold Rg.right at h
   by_cases ht : r.t = gu
   ·rw [ht]
    unfold Rg.lj at h1
    simp only [Bool.and_eq_true, decide_eq_true_eq] at h1
    have h1' := h1.1
    unfold Bal.sn
    rw [decide_eq_false_iff_not]
    show ¬ (b.n < 0 ∨ (b.n = 0 ∧ b.gj < 0))
    omega
   ·rw [if_neg ht] at h
    simp only [Bool.and_eq_true, Bool.not_eq_true'] at h
    exact ald hlt h.2
  ·have he' : b = r.t := he
   by_cases hv : r.v = v
   ·exact hv.symm
   ·exact absurd ⟨he'.symm, hv⟩ h3
 ·rw [if_neg hs]
  exact ⟨h, aej _, aej _, fun _ => rfl, fun h => by simp at h⟩
def lz (k : Int) (r : Rg) : List Int := lb k ++ (lb r.p.n ++ (lb r.p.gj ++ (lb r.t.n ++ (lb r.t.gj ++ [r.v]))))
def ahj (b : List Int) : Option (Int × Rg) :=
 if b.length ≠ 41 then none else
 if 0 < nf b ∧ (⟨⟨nf (b.drop 8), nf (b.drop 16)⟩, ⟨nf (b.drop 24), nf (b.drop 32)⟩, b.getD 40 0⟩ : Rg).right = true then some (nf b, ⟨⟨nf (b.drop 8), nf (b.drop 16)⟩, ⟨nf (b.drop 24), nf (b.drop 32)⟩, b.getD 40 0⟩) else none
theorem yt (k : Int) (r : Rg) : (lz k r).length = 41 := by simp [lz, qe]
theorem abh {x : Int} (h : tu x) (r : List Int) : nf (lb x ++ r) = x := by
 obtain ⟨h0, h1⟩ := h
 obtain ⟨n, rfl⟩ : ∃ n : Nat, x = n := ⟨x.toNat, by omega⟩
 exact amz (by omega) r
theorem pd {x : Int} {r : List Int} {i : Nat} : (lb x ++ r).drop (8 + i) = r.drop i := by
 rw [← List.drop_drop, List.drop_left' (qe x)]
theorem aap {k : Int} {r : Rg} (hk : tu k) (hk0 : 0 < k) (hr : r.rng) (hrt : r.right = true) : ahj (lz k r) = some (k, r) := by
 obtain ⟨⟨h1, h2⟩, h3, h4⟩ := hr
 have e0 : nf (lz k r) = k := abh hk _
 have e1 : nf ((lz k r).drop 8) = r.p.n := by
  unfold lz
  rw [show 8 = 8 + 0 from rfl, pd, List.drop_zero]; exact abh h1 _
 have e2 : nf ((lz k r).drop 16) = r.p.gj := by
  unfold lz
  rw [show 16 = 8 + (8 + 0) from rfl, pd, pd, List.drop_zero]; exact abh h2 _
 have e3 : nf ((lz k r).drop 24) = r.t.n := by
  unfold lz
  rw [show 24 = 8 + (8 + (8 + 0)) from rfl, pd, pd, pd, List.drop_zero]; exact abh h3 _
 have e4 : nf ((lz k r).drop 32) = r.t.gj := by
  unfold lz
  rw [show 32 = 8 + (8 + (8 + (8 + 0))) from rfl, pd, pd, pd, pd, List.drop_zero]; exact abh h4 _
 have e5 : (lz k r).getD 40 0 = r.v := by
  have : (lz k r).drop 40 = [r.v] := by
   unfold lz
   rw [show 40 = 8 + (8 + (8 + (8 + (8 + 0)))) from rfl, pd, pd, pd, pd, pd, List.drop_zero]
  have h6 : (lz k r)[40]? = some r.v := by
   have := congrArg (·[0]?) this
   simpa using this
  rw [List.getD_eq_getElem?_getD, h6]; rfl
 have er : (⟨⟨r.p.n, r.p.gj⟩, ⟨r.t.n, r.t.gj⟩, r.v⟩ : Rg) = r := rfl
 unfold ahj
 rw [if_neg (by rw [yt]; simp), e0, e1, e2, e3, e4, e5, er, if_pos ⟨hk0, hrt⟩]
abbrev iy := List (Int × Rg)
def nl : iy → Int → Rg → iy
 | [], k, r => [(k, r)]
 | (x, y) :: t, k, r => if x < k then (x, y) :: nl t k r else if x = k then (k, r) :: t else (k, r) :: (x, y) :: t
def lk (l : iy) (k : Int) : Option Rg := (l.find? fun p => decide (p.1 = k)).map (·.2)
def mi (l : iy) (k : Int) : Rg := (lk l k).getD rg0
def Asc (l : iy) : Prop := l.Pairwise fun a b => a.1 < b.1
theorem nh (x : Int) (y : Rg) (t : iy) (k : Int) : lk ((x, y) :: t) k = if x = k then some y else lk t k := by
 unfold lk
 rw [List.find?_cons]
 by_cases h : x = k
 ·simp [h]
 ·simp [h]
theorem ale {l : iy} {k : Int} (h : ∀ p ∈ l, k < p.1) : lk l k = none := by
 unfold lk
 rw [List.find?_eq_none.2 fun p hp => by have := h p hp; simp; omega]
 rfl
theorem agw {l : iy} (ha : Asc l) (k : Int) (r : Rg) (k' : Int) : lk (nl l k r) k' = if k = k' then some r else lk l k' := by
 induction l with
 | nil => rw [nl, nh]
 | cons p t ih =>
  obtain ⟨x, y⟩ := p
  unfold Asc at ha
  rw [List.pairwise_cons] at ha
  have iht := ih ha.2
  rw [nl]
  split
  ·rename_i hlt
   rw [nh, nh, iht]
   by_cases hx : x = k'
   ·rw [if_pos hx, if_pos hx, if_neg (by omega)]
   ·rw [if_neg hx, if_neg hx]
  ·split
   ·rename_i _ he
    subst he
    rw [nh, nh]
    by_cases hx : x = k'
    ·rw [if_pos hx, if_pos hx]
    ·rw [if_neg hx, if_neg hx, if_neg hx]
   ·rw [nh]
theorem atd {l : iy} {k : Int} {r : Rg} : ∀ p ∈ nl l k r, p = (k, r) ∨ p ∈ l := by
 induction l with
 | nil => intro p hp; rw [nl] at hp; exact .inl (List.mem_singleton.1 hp)
 | cons q t ih =>
  obtain ⟨x, y⟩ := q
  intro p hp
  rw [nl] at hp
  split at hp
  ·rcases List.mem_cons.1 hp with rfl | hp
   ·exact .inr (by simp)
   ·exact (ih p hp).imp id fun h => by simp [h]
  ·split at hp
   ·rcases List.mem_cons.1 hp with rfl | hp
    ·exact .inl rfl
    ·exact .inr (by simp [hp])
   ·rcases List.mem_cons.1 hp with rfl | hp
    ·exact .inl rfl
    ·exact .inr hp
theorem aeb {l : iy} (ha : Asc l) (k : Int) (r : Rg) : Asc (nl l k r) := by
 induction l with
 | nil => exact List.pairwise_singleton _ _
 | cons p t ih =>
  obtain ⟨x, y⟩ := p
  unfold Asc at *
  rw [List.pairwise_cons] at ha
  rw [nl]
  split
  ·rename_i hlt
   rw [List.pairwise_cons]
   refine ⟨fun q hq => ?_, ih ha.2⟩
   rcases atd q hq with rfl | hq
   ·exact hlt
   ·exact ha.1 q hq
  ·split
   ·rename_i _ he
    subst he
    rw [List.pairwise_cons]
    exact ⟨ha.1, ha.2⟩
   ·rename_i h1 h2
    rw [List.pairwise_cons, List.pairwise_cons]
    refine ⟨fun q hq => ?_, ha⟩
    rcases List.mem_cons.1 hq with rfl | hq
    ·show k < x; omega
    ·have := ha.1 q hq
     show k < q.1
     simp only at this; omega
theorem ahs : ∀ {l1 l2 : iy}, Asc l1 → Asc l2 → (∀ k, lk l1 k = lk l2 k) → l1 = l2
 | [], [], _, _, _ => rfl
 | [], (x, y) :: t, _, _, h => by have := h x; rw [nh, if_pos rfl] at this; simp [lk] at this
 | (x, y) :: t, [], _, _, h => by have := h x; rw [nh, if_pos rfl] at this; simp [lk] at this
 | (x, y) :: t, (x', y') :: t', h1, h2, h => by
  unfold Asc at h1 h2
  rw [List.pairwise_cons] at h1 h2
  have hx : x = x' := by
   rcases Int.lt_trichotomy x x' with hlt | he | hlt
   ·have := h x
    rw [nh, if_pos rfl, nh, if_neg (by omega), ale fun p hp => by have := h2.1 p hp; simp only at this; omega] at this
    cases this
   ·exact he
   ·have := h x'
    rw [nh, if_neg (by omega), nh, if_pos rfl, ale fun p hp => by have := h1.1 p hp; simp only at this; omega] at this
    cases this
  subst hx
  have hy : y = y' := by
   have := h x
   rw [nh, if_pos rfl, nh, if_pos rfl] at this
   exact Option.some.inj this
  subst hy
  rw [ahs h1.2 h2.2 fun k => by
   by_cases hk : x = k
   ·subst hk
    rw [ale fun p hp => h1.1 p hp, ale fun p hp => h2.1 p hp]
   ·have := h k
    rwa [nh, if_neg hk, nh, if_neg hk] at this]
def nk (l : iy) (b : List Int) : iy := match ahj b with
 | some (k, r) => nl l k r
 | none => l
def jr (ga : List (List Int)) : iy := ga.foldl nk []
theorem apr : ∀ (ga : List (List Int)) {l : iy}, Asc l → Asc (ga.foldl nk l)
 | [], _, h => h
 | b :: r, l, h => by
  rw [List.foldl_cons]
  refine apr r ?_
  unfold nk
  split
  ·exact aeb h _ _
  ·exact h
theorem uz (ga : List (List Int)) : Asc (jr ga) := apr ga .nil
theorem ahd {ga : List (List Int)} {k : Int} {r : Rg} (hk : tu k) (hk0 : 0 < k) (hr : r.rng) (hrt : r.right = true) : jr (ga ++ [lz k r]) = nl (jr ga) k r := by
 unfold jr
 rw [List.foldl_append, List.foldl_cons, List.foldl_nil, nk, aap hk hk0 hr hrt]
def okE (p : Int × Rg) : Prop := tu p.1 ∧ 0 < p.1 ∧ p.2.rng ∧ p.2.right = true
theorem ajc : ∀ {E : iy} {l : iy}, Asc l → Asc E → (∀ p ∈ E, okE p) → ∀ k, lk ((E.map fun p => lz p.1 p.2).foldl nk l) k = (lk E k).orElse fun _ => lk l k
 | [], l, _, _, _, k => by simp [lk]
 | (x, y) :: E, l, hl, hE, ho, k => by
  obtain ⟨o1, o2, o3, o4⟩ := ho (x, y) (by simp)
  unfold Asc at hE
  rw [List.pairwise_cons] at hE
  have e : nk l (lz x y) = nl l x y := by rw [nk, aap o1 o2 o3 o4]
  rw [List.map_cons, List.foldl_cons, e, ajc (aeb hl x y) hE.2 (fun p hp => ho p (by simp [hp])) k, nh, agw hl]
  by_cases hx : x = k
  ·subst hx
   rw [if_pos rfl, if_pos rfl, ale fun p hp => hE.1 p hp]
   rfl
  ·rw [if_neg hx, if_neg hx]
structure Pk where
 fu : Int
 tr : Int
 b : Bal
 im : Bal
 v : Int
 ok : Bool
 sv : Value
 mv : Value
 iv : Value
def pkC (p : Pk) : List Value := [.int .i64 p.fu, .int .u64 p.tr, .int .u64 p.b.n, .int .u64 p.b.gj, .int .u64 p.im.n, .int .u64 p.im.gj, .int .i64 p.v, .bool p.ok, p.sv, p.mv, p.iv]
def pkA (p : Pk) : Value := .agg (pkC p).toArray
def aud (tr : Int) (b : Bal) (v : Int) : Value := .agg #[.int .u64 tr, .int .u64 b.n, .int .u64 b.gj, .int .i64 v]
def afo (tr : Int) (b : Bal) (v : Int) : Value := .iface T.p (aud tr b v)
theorem ajl {w : World} {v : Int} {K : KV} (h : K (.bool (ki v)) w) : fk P F.dj [.int .i64 v] w K := by
 rw [M.ev.fcall]
 apply M.ev.calls
 unfold M.ev
 unfold ki at h
 by_cases h1 : 1 ≤ v
 ·by_cases h2 : v ≤ 3
  ·rw [decide_eq_true ⟨h1, h2⟩] at h
   simp [h1, h2]; exact h
  ·rw [decide_eq_false (fun hh => h2 hh.2)] at h
   simp [h1, h2]; exact h
 ·rw [decide_eq_false (fun hh => h1 hh.1)] at h
  simp [h1]; exact h
theorem zk {w : World} {b : Nat} {p : Pk} {f : Nat × Nat} (h : w.heap[b]? = some (.cells (pkC p).toArray T.a f)) : ∀ (j : Nat) (u : Value), (pkC p)[j]? = some u → fx w b j = some u := fun j u hj => by
 rw [fy h]; simpa using hj
theorem asa {w : World} {p : Pk} (hk : p.fu = 4 ∨ p.fu = 6) {K : KV} (h : ∀ w', Fr (fun _ => False) w w' → K (afo p.tr p.b p.v) w') : fk P F.cp [pkA p] w K := by
 rw [M.ai.fcall]
 apply M.ai.calls
 unfold M.ai pkA
 have hb : (w.alloc (.cells (pkC p).toArray T.a)).heap[w.heap.size]? = some (.cells (pkC p).toArray T.a (0, 0)) := by rw [gm, if_pos rfl]
 have f1 : Fr (fun _ => False) w (w.alloc (.cells (pkC p).toArray T.a)) := (Fr.refl _ w).alloc _
 have c0 := zk hb 0 _ rfl
 have c1 := zk hb 1 _ rfl
 have c2 := zk hb 2 _ rfl
 have c3 := zk hb 3 _ rfl
 have c6 := zk hb 6 _ rfl
 simp
 generalize w.alloc (.cells (pkC p).toArray T.a) = w1 at *
 have hl2 : ∀ K, ldN P 2 w.heap.size 2 w1 K = K (.agg #[.int .u64 p.b.n, .int .u64 p.b.gj]) w1 := fun K => ade c2 c3 K
 have n1 : ¬ p.fu = 1 := by omega
 have n2 : ¬ p.fu = 2 := by omega
 have n3 : ¬ p.fu = 3 := by omega
 simp [c0, n1, n2]
 unfold M.ai.j1
 simp [n3]
 rcases hk with hk | hk
 ·simp [hk]
  unfold M.ai.j2
  simp [c1, hl2, c6]
  exact h w1 f1
 ·simp [hk]
  unfold M.ai.j2
  simp [c1, hl2, c6]
  exact h w1 f1
def arj (tr : Int) (b : Bal) (v : Int) : Bool := decide (0 < tr) && decide (0 < b.n) && (decide (v = 0) || ki v)
theorem asl {w : World} {tr v : Int} {b : Bal} {K : KV} (h : ∀ w', Fr (fun _ => False) w w' → K (.bool (arj tr b v)) w') : fk P F.aj [afo tr b v] w K := by
 rw [M.ad.fcall]
 apply M.ad.calls
 unfold M.ad afo aud
 simp [agz, aea]
 have hb1 : (w.alloc (.cells #[.int .u64 0, .int .u64 0] T.c)).heap[w.heap.size]? = some (.cells #[.int .u64 0, .int .u64 0] T.c (0, 0)) := by rw [gm, if_pos rfl]
 have f1 : Fr (fun _ => False) w (w.alloc (.cells #[.int .u64 0, .int .u64 0] T.c)) := (Fr.refl _ w).alloc _
 refine jh (vs := [.int .u64 0, .int .u64 0]) hb1 rfl (by simp [ju]) fun w2 b2 f2 => ?_
 have f12 : Fr (fun _ => False) w w2 := f1.jq f2 fun g hg he => by omega
 have hb3 : (w2.alloc (.cells #[.int .u64 0, .int .u64 0, .int .u64 0, .int .i64 0] T.p)).heap[w2.heap.size]? = some (.cells #[.int .u64 0, .int .u64 0, .int .u64 0, .int .i64 0] T.p (0, 0)) := by rw [gm, if_pos rfl]
 have f3 : Fr (fun _ => False) w (w2.alloc (.cells #[.int .u64 0, .int .u64 0, .int .u64 0, .int .i64 0] T.p)) := f12.alloc _
 have hsz := f12.size
 refine jh (vs := [.int .u64 tr, .int .u64 b.n, .int .u64 b.gj, .int .i64 v]) hb3 rfl (by simp [ju]) fun w4 b4 f4 => ?_
 have f14 : Fr (fun _ => False) w w4 := f3.jq f4 fun g hg he => by omega
 generalize w2.heap.size = ob at *
 have c0 : fx w4 ob 0 = some (.int .u64 tr) := by rw [fy b4]; rfl
 have c1 : fx w4 ob 1 = some (.int .u64 b.n) := by rw [fy b4]; rfl
 have c3 : fx w4 ob 3 = some (.int .i64 v) := by rw [fy b4]; rfl
 have fin := h w4 f14
 unfold arj at fin
 by_cases h1 : 0 < tr
 ·by_cases h2 : 0 < b.n
  ·by_cases h3 : v = 0
   ·simp [c0, c1, c3, h1, h2, h3]
    simpa [h1, h2, h3] using fin
   ·simp [c0, c1, c3, h1, h2, h3]
    refine ajl ?_
    simpa [h1, h2, h3] using fin
  ·simp [c0, c1, c3, h1, h2]
   simpa [h1, h2] using fin
 ·simp [c0, c1, c3, h1]
  simpa [h1] using fin
def afs (k tr : Int) (b : Bal) (v : Int) : Pk := ⟨k, tr, b, gu, v, false, .slice none 0 0, .slice none 0 0, .slice none 0 0⟩
def bam (tr : Int) (b : Bal) (v : Int) : Pk := ⟨if v = 0 then 4 else 6, tr, b, gu, v, false, .slice none 0 0, .slice none 0 0, .slice none 0 0⟩
theorem aqp {w : World} {tr v : Int} {b : Bal} {K : KV} (h : ∀ w', Fr (fun _ => False) w w' → K (pkA (bam tr b v)) w') : fk P F.ac [afo tr b v] w K := by
 rw [M.af.fcall]
 apply M.af.calls
 unfold M.af afo aud
 simp [agz, aea]
 have S0 : St w (w.alloc (.cells #[.int .i64 0, .int .u64 0, .int .u64 0, .int .u64 0, .int .u64 0, .int .u64 0, .int .i64 0, .bool false, .slice none 0 0, .slice none 0 0, .slice none 0 0] T.a)) (gc w.heap.size #[.int .i64 0, .int .u64 0, .int .u64 0, .int .u64 0, .int .u64 0, .int .u64 0, .int .i64 0, .bool false, .slice none 0 0, .slice none 0 0, .slice none 0 0] T.a :: []) := (St.jc w).add ((Fr.refl _ w).alloc _) (B := fun x => x = w.heap.size) ⟨by rw [gm, if_pos rfl], rfl⟩ fun x hx => by subst hx; rw [ja]; omega
 have z0 : (w.alloc (.cells #[.int .i64 0, .int .u64 0, .int .u64 0, .int .u64 0, .int .u64 0, .int .u64 0, .int .i64 0, .bool false, .slice none 0 0, .slice none 0 0, .slice none 0 0] T.a)).heap.size = w.heap.size + 1 := ja _ _
 generalize w.alloc (.cells #[.int .i64 0, .int .u64 0, .int .u64 0, .int .u64 0, .int .u64 0, .int .u64 0, .int .i64 0, .bool false, .slice none 0 0, .slice none 0 0, .slice none 0 0] T.a) = w1 at *
 have S1 : St w (w1.alloc (.cells #[.int .u64 0, .int .u64 0, .int .u64 0, .int .i64 0] T.p)) (gc w1.heap.size #[.int .u64 0, .int .u64 0, .int .u64 0, .int .i64 0] T.p :: _) := S0.add ((Fr.refl _ w1).alloc _) (B := fun x => x = w1.heap.size) ⟨by rw [gm, if_pos rfl], rfl⟩ fun x hx => by subst hx; rw [ja]; omega
 rw [z0] at S1
 generalize w.heap.size = pb at *
 generalize pb + 1 = ob at *
 refine jh (vs := [.int .u64 tr, .int .u64 b.n, .int .u64 b.gj, .int .i64 v]) S1.blk rfl (by simp [ju]) fun w2 b2 f2 => ?_
 have S2 := S1.lg f2 b2
 have askC : ∀ {W : World} {R : List Asn}, St w W (gc ob [Value.int .u64 tr, .int .u64 b.n, .int .u64 b.gj, .int .i64 v].toArray T.p :: R) → fx W ob 0 = some (.int .u64 tr) ∧ fx W ob 3 = some (.int .i64 v) ∧ ∀ K, ldN P 2 ob 1 W K = K (.agg #[.int .u64 b.n, .int .u64 b.gj]) W := fun {W R} S' => by
  have hh := S'.blk
  exact ⟨by rw [fy hh]; rfl, by rw [fy hh]; rfl, fun K => ade (by rw [fy hh]; rfl) (by rw [fy hh]; rfl) K⟩
 obtain ⟨c0, c3, cl⟩ := askC S2
 simp [c0, c3, cl]
 have pkL : ∀ {W : World} {R : List Asn} {q : Pk}, St w W (gc pb (pkC q).toArray T.a :: R) → ∀ K, ldN P 11 pb 0 W K = K (pkA q) W := fun {W R q} S' K => wq (pkC q) 11 rfl (fun k u hk => by rw [Nat.zero_add]; exact zk S'.blk k u hk) K
 have pkO : ∀ (k : Int), ∀ u ∈ pkC (afs k tr b v), ju u = true := fun k u hu => by
  simp only [pkC, afs, List.mem_cons, List.not_mem_nil, or_false] at hu
  rcases hu with rfl | rfl | rfl | rfl | rfl | rfl | rfl | rfl | rfl | rfl | rfl <;> rfl
 have hres : ∀ {W : World} {R : List Asn} {q : Pk}, St w W (gc pb (pkC q).toArray T.a :: R) → ∀ K, lc P T.a (.pointer (some ⟨pb, 0, none⟩)) W K = K (pkA q) W := fun {W R q} S' K => by rw [ahg]; exact pkL S' K
 refine jh (vs := pkC (afs 4 tr b v)) S2.swap.blk rfl (pkO 4) fun w3 b3 f3 => ?_
 have S3 := S2.swap.lg f3 b3
 obtain ⟨_, d3, _⟩ := askC S3.swap
 by_cases hv : v = 0
 ·simp [d3, hv]
  subst hv
  rw [pkL S3]
  have e : pkA (afs 4 tr b 0) = .agg #[.int .i64 4, .int .u64 tr, .int .u64 b.n, .int .u64 b.gj, .int .u64 0, .int .u64 0, .int .i64 0, .bool false, .slice none 0 0, .slice none 0 0, .slice none 0 0] := rfl
  rw [e]
  simp
  refine jh (vs := pkC (afs 4 tr b 0)) S3.blk rfl (pkO 4) fun w5 b5 f5 => ?_
  have S5 := S3.lg f5 b5
  rw [hres S5]
  exact ⟨rfl, h w5 S5.fr⟩
 ·have e0 := zk S3.blk 0 _ rfl
  have ez := mj S3.blk
  simp [d3, hv, e0, ez]
  have S4 : St w (w3.setCell ⟨pb, 0, none⟩ (.int .i64 6)) (gc pb (pkC (afs 6 tr b v)).toArray T.a :: _) := S3.lg ((Fr.refl (fun x => x = pb) w3).setCell (.inl rfl) _ _) ((kt S3.blk).trans rfl)
  rw [pkL S4]
  have e : pkA (afs 6 tr b v) = .agg #[.int .i64 6, .int .u64 tr, .int .u64 b.n, .int .u64 b.gj, .int .u64 0, .int .u64 0, .int .i64 v, .bool false, .slice none 0 0, .slice none 0 0, .slice none 0 0] := rfl
  rw [e]
  simp
  refine jh (vs := pkC (afs 6 tr b v)) S4.blk rfl (pkO 6) fun w5 b5 f5 => ?_
  have S5 := S4.lg f5 b5
  rw [hres S5]
  have fin := h w5 S5.fr
  unfold bam at fin
  rw [if_neg hv] at fin
  exact ⟨rfl, fin⟩
def jf (b : Bal) : Value := .agg #[.int .u64 b.n, .int .u64 b.gj]
theorem ane (x y : Bal) (w : World) : (Op.equalIn 10000 T.c (jf x) (jf y)).run P w = .ok (x.n == y.n && (x.gj == y.gj)) w := by
 have hS : P.underlying T.c = some (.struct (P.fieldsOf T.c)) := by kernel_rfl
 have hp : P.stoodInHeld T.c = false := by kernel_rfl
 unfold jf
 rw [show (10000 : Nat) = 9999 + 1 from rfl, run_equalIn_agg w 9999 T.c _ _ hS hp]
 simp only [Program.fieldsOf, show P.underlying T.c = _ from Tryz.underlying40]
 have u22 : P.underlying T.d = some (.int .u64) := by kernel_rfl
 have a22 : yu P T.d = false := by kernel_rfl
 refine eqF (by decide) a22 rfl rfl (run_equalIn_int w 9998 T.d _ _ _ _ u22) ?_
 have := eqF (fs := []) (d := 9999) (xs := #[.int .u64 x.n, .int .u64 x.gj]) (ys := #[.int .u64 y.n, .int .u64 y.gj]) (f := { name := "Node", type := T.d, offset := 1, embedded := false, tag := "", pkgPath := "", byteOffset := 8 }) (w := w) (c := true) (by decide) a22 rfl rfl (run_equalIn_int w 9998 T.d _ _ _ _ u22) rfl
 simpa using this
theorem avs (x y : Bal) : (x.n == y.n && (x.gj == y.gj)) = decide (x = y) := by
 obtain ⟨a, b⟩ := x
 obtain ⟨a', b'⟩ := y
 simp only [Bal.mk.injEq]
 by_cases h1 : a = a' <;> by_cases h2 : b = b' <;> simp [h1, h2]
theorem pt (rx ry : Operand) (x y : Bal) (w : World) (K : KV) : fj P .eql T.c rx ry (jf x) (jf y) w K = K (.bool (decide (x = y))) w := by
 have hm : P.eqGuardType P.depth T.c = false := by kernel_rfl
 have hg := run_eqGuard_agg (P := P) w .eql T.c rx ry #[.int .u64 x.n, .int .u64 x.gj] #[.int .u64 y.n, .int .u64 y.gj] hm
 have he := ane x y w
 rw [avs] at he
 unfold fj iq
 unfold jf at he ⊢
 rw [Sem.run_bind, hg]
 simp only [Result.andThen]
 rw [run_eql_struct, he]
 rfl
theorem aor (rx ry : Operand) (x y : Bal) (w : World) (K : KV) : fj P .neq T.c rx ry (jf x) (jf y) w K = K (.bool !(decide (x = y))) w := by
 have hm : P.eqGuardType P.depth T.c = false := by kernel_rfl
 have hg := run_eqGuard_agg (P := P) w .neq T.c rx ry #[.int .u64 x.n, .int .u64 x.gj] #[.int .u64 y.n, .int .u64 y.gj] hm
 have he := ane x y w
 rw [avs] at he
 unfold fj iq
 unfold jf at he ⊢
 rw [Sem.run_bind, hg]
 simp only [Result.andThen]
 rw [run_neq_struct, he]
 rfl
structure oz (w : World) (p : Pk) (ls : List Spn) (lm : List Mem) (lu : List Int) : Prop where
 s : SlS w p.sv ls
 m : SlM w p.mv lm
 u : SlU w p.iv lu
 ls : ls.length ≤ 1000000
 lm : lm.length ≤ 1000000
 lu : lu.length ≤ 1000000
theorem oz.fr {w w' : World} {p : Pk} {ls : List Spn} {lm : List Mem} {lu : List Int} (h : oz w p ls lm lu) (hf : Fr (fun _ => False) w w') : oz w' p ls lm lu :=
 ⟨h.s.fr hf fun _ _ _ h => h, h.m.fr hf fun _ _ _ h => h, h.u.fr hf fun _ _ _ h => h, h.ls, h.lm, h.lu⟩
theorem oz.one {w : World} {p : Pk} {ls : List Spn} {lm : List Mem} {lu : List Int} (h : oz w p ls lm lu) : (∃ a c, p.sv = .slice a ls.length c) ∧ (∃ a c, p.mv = .slice a lm.length c) ∧ ∃ a c, p.iv = .slice a lu.length c := by
 obtain ⟨a1, c1, h1, _⟩ := h.s
 obtain ⟨a2, c2, h2, _⟩ := h.m
 obtain ⟨a3, c3, h3, _⟩ := h.u
 exact ⟨⟨a1, c1, h1⟩, ⟨a2, c2, h2⟩, a3, c3, h3⟩
theorem aqo {w : World} {p : Pk} {ls : List Spn} {lm : List Mem} {lu : List Int} (h : oz w p ls lm lu) (K : KV) : ka P T.a (pkA p) w K = K (.pointer (some ⟨w.heap.size, 0, none⟩)) (w.alloc (.cells (pkC p).toArray T.a)) := by
 rw [wo]; rfl
theorem ik {W w : World} {pb : Nat} {p : Pk} {R : List Asn} (S : St W w (gc pb (pkC p).toArray T.a :: R)) : fx w pb 0 = some (.int .i64 p.fu) ∧ fx w pb 1 = some (.int .u64 p.tr) ∧ (∀ K, ldN P 2 pb 2 w K = K (jf p.b) w) ∧ (∀ K, ldN P 2 pb 4 w K = K (jf p.im) w) ∧ fx w pb 6 = some (.int .i64 p.v) ∧ fx w pb 7 = some (.bool p.ok) ∧ fx w pb 8 = some p.sv ∧ fx w pb 9 = some p.mv ∧ fx w pb 10 = some p.iv ∧ ∀ K, ldN P 11 pb 0 w K = K (pkA p) w := by
 have hh := S.blk
 have hc := fun j u hj => zk hh j u hj
 exact ⟨hc 0 _ rfl, hc 1 _ rfl, fun K => ade (hc 2 _ rfl) (hc 3 _ rfl) K, fun K => ade (hc 4 _ rfl) (hc 5 _ rfl) K, hc 6 _ rfl, hc 7 _ rfl, hc 8 _ rfl, hc 9 _ rfl, hc 10 _ rfl, fun K => wq (pkC p) 11 rfl (fun k u hk => by rw [Nat.zero_add]; exact hc k u hk) K⟩
end Go.Proofs.YtfnhoaemapheoaaGreat
set_option maxRecDepth 100000
namespace Go.Proofs.YtfnhoaemapheoaaGreat.Suint64
open Go.Eng Go.Sort
def Rw (w : World) (g : Nat) (e : TypeId) (cap : Nat) (d : Array Int) : Prop := ∃ cur : Array Value, w.heap[g]? = some (.cells cur e (0, 0)) ∧ cur.size = cap ∧ d.size ≤ cap ∧ ∀ j, j < d.size → cur[j]? = some (.int .u64 d[j]!)
section
variable {w w' : World} {g cap : Nat} {e : TypeId} {d : Array Int} {S : Nat → Prop}
theorem Rw.at (h : Rw w g e cap d) {j : Nat} (hj : j < d.size) : fx w g j = some (.int .u64 d[j]!) := by
 obtain ⟨cur, h1, _, _, h4⟩ := h
 rw [fy h1]; exact h4 j hj
theorem Rw.frz (h : Rw w g e cap d) (j : Nat) : pm w g j = false := by
 obtain ⟨cur, h1, _⟩ := h
 exact mj h1 j
theorem Rw.lt (h : Rw w g e cap d) : g < w.heap.size := by
 obtain ⟨cur, h1, _⟩ := h
 exact pz h1
theorem Rw.heap (h : Rw w g e cap d) (he : w'.heap[g]? = w.heap[g]?) : Rw w' g e cap d := by
 obtain ⟨cur, h1, h2⟩ := h
 exact ⟨cur, he.trans h1, h2⟩
theorem Rw.fr (h : Rw w g e cap d) (hf : Fr S w w') (hn : ¬ S g) : Rw w' g e cap d := h.heap (hf.jj g h.lt hn)
theorem aov (d : Array Int) {i : Nat} (hi : i < d.size) (x : Int) (j : Nat) : (d.setIfInBounds i x)[j]! = if i = j then x else d[j]! := by
 by_cases h : i = j
 ·subst h; simp [hi]
 ·simp [h, getElem!_def, Array.getElem?_setIfInBounds]
theorem Rw.set (h : Rw w g e cap d) {i : Nat} (hi : i < d.size) (x : Int) : Rw (w.setCell ⟨g, i, none⟩ (.int .u64 x)) g e cap (d.setIfInBounds i x) := by
 obtain ⟨cur, h1, h2, h3, h4⟩ := h
 refine ⟨cur.setIfInBounds i (.int .u64 x), kt h1, by simpa using h2, by simpa using h3, fun j hj => ?_⟩
 have hj' : j < d.size := by simpa using hj
 rw [aov d hi, Array.getElem?_setIfInBounds]
 by_cases hij : i = j
 ·subst hij; simp [h2]; omega
 ·rw [if_neg hij, if_neg hij]; exact h4 j hj'
theorem Rw.swp (h : Rw w g e cap d) {i j : Nat} (hi : i < d.size) (hj : j < d.size) : Rw ((w.setCell ⟨g, i, none⟩ (.int .u64 d[j]!)).setCell ⟨g, j, none⟩ (.int .u64 d[i]!)) g e cap (Sort.swp d i j) := by
 have := (h.set hi d[j]!).set (i := j) (by simpa using hj) d[i]!
 exact this
theorem Rw.dr (h : Rw w g e cap d) (n : Nat) : Rw (Eng.dr w n) g e cap d := h.heap rfl
structure Rf (w w' : World) (g : Nat) (e : TypeId) (cap : Nat) (d : Array Int) : Prop where
 row : Rw w' g e cap d
 fr : Fr (fun b => b = g) w w'
theorem Rw.nr (h : Rw w g e cap d) : Rf w w g e cap d := ⟨h, Fr.refl _ _⟩
theorem Rf.dr (h : Rf w w' g e cap d) (n : Nat) : Rf w (Eng.dr w' n) g e cap d := ⟨h.row.dr n, h.fr.dr n⟩
theorem Rf.swp (h : Rf w w' g e cap d) {i j : Nat} (hi : i < d.size) (hj : j < d.size) : Rf w ((w'.setCell ⟨g, i, none⟩ (.int .u64 d[j]!)).setCell ⟨g, j, none⟩ (.int .u64 d[i]!)) g e cap (Sort.swp d i j) :=
 ⟨h.row.swp hi hj, (h.fr.setCell (.inl rfl) _ _).setCell (.inl rfl) _ _⟩
theorem Rf.trans {w'' : World} {d' : Array Int} (h : Rf w w' g e cap d) (h' : Rf w' w'' g e cap d') : Rf w w'' g e cap d' := ⟨h'.row, h.fr.trans h'.fr⟩
end
theorem kh {w : World} (x y : Int) {K : KV} (h : K (.bool (ltInt x y)) w) : fk P F.d [.int .u64 x, .int .u64 y] w K := by
 have nan : ∀ (z : Int) {K : KV}, K (.bool false) w → fk P F.ay [.int .u64 z] w K := fun z K hK => by
  rw [M.cx.fcall]
  apply M.cx.calls
  unfold M.cx
  simp
  exact hK
 rw [M.eb.fcall]
 apply M.eb.calls
 unfold M.eb
 refine nan x ?_
 simp
 exact h
theorem awa {x : Nat} (h : x < 1000000) : IntKind.i64.wrap (x : Int) = x := ft (by omega) (by omega)
theorem jz {x : Nat} (h : x < 1000000) : IntKind.i64.wrap ((x : Int) + 1) = ((x + 1 : Nat) : Int) := by rw [ft (by omega) (by omega)]; rfl
theorem oo {x y : Nat} (h : y ≤ x) (hx : x < 1000000) : IntKind.i64.wrap ((x : Int) - y) = ((x - y : Nat) : Int) := by rw [ft (by omega) (by omega)]; omega
def InI (w : World) (g : Nat) (e : TypeId) (cap n a : Nat) (R : Array Int) : KL := fun x w1 => ∃ (j : Nat) (d : Array Int), x = [.int .i64 (j : Int)] ∧ Rf w w1 g e cap d ∧ d.size = n ∧ j < n ∧ insInner ltInt a j d = R
def InO (w : World) (g : Nat) (e : TypeId) (cap n a b : Nat) (R : Array Int) : KL := fun x w1 => ∃ (u : Value) (i : Nat) (d : Array Int), x = [u, .int .i64 (i : Int)] ∧ Rf w w1 g e cap d ∧ d.size = n ∧ insOuter ltInt a b i d = R
theorem vl {w : World} {g cap n : Nat} {e : TypeId} {d : Array Int} (H : Rw w g e cap d) (hn : d.size = n) (h6 : n < 100000) {a b : Nat} (hb : b ≤ n) (ha : a ≤ n) {K : KV}
  (h : ∀ w', Rf w w' g e cap (insertionSort ltInt d a b) → K (.tuple #[]) w') : jb P F.z [.slice (some ⟨g, 0, none⟩) n cap, .int .i64 a, .int .i64 b] w K := by
 apply M.h.calls
 unfold M.h
 simp only [ji, jz (show a < 1000000 by omega)]
 refine ⟨InO w g e cap n a b (insertionSort ltInt d a b), fun x _ => b - ms x 1, ⟨_, a + 1, d, rfl, H.nr, hn, rfl⟩, ?_⟩
 rintro x w1 ⟨u, i, d1, rfl, H1, hn1, hR⟩
 have g1 : ∀ u v : Value, gv [u, v] 1 = v := fun _ _ => rfl
 have g0 : ∀ u : Value, gv [u] 0 = u := fun _ => rfl
 unfold M.h.j0
 simp only [fo, g1]
 unfold insOuter at hR
 by_cases hi : i < b
 ·simp [hi] at hR ⊢
  generalize hT : insInner ltInt a i d1 = T at *
  refine ⟨InI w g e cap n a T, fun x _ => ms x 0, ⟨i, d1, rfl, H1, hn1, by omega, hT⟩, ?_⟩
  rintro x w2 ⟨j, d2, rfl, H2, hn2, hj, hR2⟩
  have done : d2 = T → ∀ v w2, Rf w w2 g e cap d2 → InO w g e cap n a b (insertionSort ltInt d a b) [v, .int .i64 (IntKind.i64.wrap ((i : Int) + 1))] w2 ∧ b - ms [v, .int .i64 (IntKind.i64.wrap ((i : Int) + 1))] 1 < b - ms [u, .int .i64 (i : Int)] 1 := by
   intro hd v w2 H2
   rw [jz (by omega)]
   refine ⟨⟨v, i + 1, d2, rfl, H2, hn2, by rw [hd]; exact hR⟩, ?_⟩
   simp [ms, gv]; omega
  unfold M.h.j3
  simp only [fo, g0]
  cases j with
  | zero =>
   simp [insInner] at hR2
   have := done hR2 (.int .i64 0) _ (H2.dr 1)
   have hz : ¬ (a : Int) < 0 := by omega
   simp [hz]
   simpa using this
  | succ j =>
   unfold insInner at hR2
   have hw := awa (show j < 1000000 by omega)
   by_cases hja : a < j + 1
   ·have hja' : (a : Int) < (j : Int) + 1 := by omega
    have c1 := H2.row.at (show j + 1 < d2.size by omega)
    have c0 := H2.row.at (show j < d2.size by omega)
    have hjn : (j : Int) < n := by omega
    have hjn' : (j : Int) + 1 < n := by omega
    have z1 : (0 : Int) ≤ (j : Int) + 1 := by omega
    simp [hja, hja', hw, c0, c1, hjn, hjn', z1] at hR2 ⊢
    refine kh _ _ ?_
    cases hl : ltInt d2[j + 1]! d2[j]! with
    | true =>
     simp [hl] at hR2 ⊢
     unfold M.h.j4
     have f1 := H2.row.frz (j + 1)
     have f0 := H2.row.frz j
     simp [hw, c0, c1, hjn, hjn', z1, f0, f1, gx, ic]
     refine ⟨⟨j, _, rfl, ((H2.dr 1).dr 1).swp (by omega) (by omega), by rw [size_swp]; exact hn2, by omega, hR2⟩, ?_⟩
     simp [ms, gv]
    | false =>
     simp [hl] at hR2 ⊢
     have := done hR2 (.int .i64 ((j : Int) + 1)) _ (H2.dr 1)
     simpa using this
   ·have hja' : ¬ (a : Int) < (j : Int) + 1 := by omega
    simp [hja, hja'] at hR2 ⊢
    have := done hR2 (.int .i64 ((j : Int) + 1)) _ (H2.dr 1)
    simpa using this
 ·simp [hi] at hR ⊢
  subst hR
  exact h w1 H1
set_option maxRecDepth 100000
open Go.Eng Go.Sort
theorem og (hi first : Nat) : ∀ (n root : Nat) (d : Array Int), hi - root ≤ n → (siftDown ltInt hi first root d).size = d.size
 | 0, root, d, h => by
  unfold siftDown
  rw [dif_pos (by omega)]
 | n + 1, root, d, h => by
  unfold siftDown
  split
  ·rfl
  split
  ·split
   ·rfl
   split
   ·rw [og hi first n _ _ (by omega), size_swp]
   ·rfl
  ·split
   ·rfl
   ·rw [og hi first n _ _ (by omega), size_swp]
def SfI (w : World) (g : Nat) (e : TypeId) (cap n hi first : Nat) (R : Array Int) : KL := fun x w1 => ∃ (u : Value) (root : Nat) (d : Array Int), x = [u, .int .i64 (root : Int)] ∧ Rf w w1 g e cap d ∧ d.size = n ∧ root ≤ hi ∧ siftDown ltInt hi first root d = R
theorem ady {w : World} {g cap n : Nat} {e : TypeId} {d : Array Int} (H : Rw w g e cap d) (hn : d.size = n) (h6 : n < 100000) {lo hi first : Nat} (hb : first + hi ≤ n) (hlo : lo ≤ hi) {K : KV}
  (h : ∀ w', Rf w w' g e cap (siftDown ltInt hi first lo d) → K (.tuple #[]) w') : jb P F.y [.slice (some ⟨g, 0, none⟩) n cap, .int .i64 lo, .int .i64 hi, .int .i64 first] w K := by
 apply M.l.calls
 unfold M.l
 generalize hR0 : siftDown ltInt hi first lo d = R0 at *
 refine ⟨SfI w g e cap n hi first R0, fun x _ => hi - ms x 1, ⟨_, lo, d, rfl, H.nr, hn, hlo, hR0⟩, ?_⟩
 clear hR0
 rintro x w1 ⟨u, root, d1, rfl, H1, hn1, hro, hR⟩
 have g1 : ∀ u v : Value, gv [u, v] 1 = v := fun _ _ => rfl
 have g0 : ∀ u : Value, gv [u] 0 = u := fun _ => rfl
 have w2 : IntKind.i64.wrap (2 * (root : Int)) = ((2 * root : Nat) : Int) := by rw [ft (by omega) (by omega)]; omega
 have w3 : IntKind.i64.wrap (((2 * root : Nat) : Int) + 1) = ((2 * root + 1 : Nat) : Int) := jz (by omega)
 have w4 : IntKind.i64.wrap (((2 * root + 1 : Nat) : Int) + 1) = ((2 * root + 2 : Nat) : Int) := jz (by omega)
 unfold M.l.j0
 simp only [fo, g1, tg, ji, li, w2, w3]
 unfold siftDown at hR
 by_cases h0 : 2 * root + 1 ≥ hi
 ·have h0' : (hi : Int) ≤ ((2 * root + 1 : Nat) : Int) := by omega
  rw [dif_pos h0] at hR
  subst hR
  simp only [h0', decide_true, Eng.cond_true]
  exact h w1 H1
 rw [dif_neg h0] at hR
 have h0' : ¬ (hi : Int) ≤ ((2 * root + 1 : Nat) : Int) := by omega
 simp only [h0', decide_false, Eng.cond_false]
 unfold M.l.j1
 have wf : ∀ k : Nat, k < hi → IntKind.i64.wrap ((first : Int) + (k : Int)) = ((first + k : Nat) : Int) := fun k hk => by rw [ft (by omega) (by omega)]; omega
 -- behind the choice of the child
 have tail : ∀ (c : Nat) (w2 : World), Rf w w2 g e cap d1 → c < hi → root < c → (if !ltInt d1[first + root]! d1[first + c]! then d1 else siftDown ltInt hi first c (Sort.swp d1 (first + root) (first + c))) = R0 →
   M.l.j2 (.int .i64 first) [u, .int .i64 root] (.slice (some ⟨g, 0, none⟩) n cap) [.int .i64 c] (fun x' w' => SfI w g e cap n hi first R0 x' w' ∧ hi - ms x' 1 < hi - ms [u, .int .i64 (root : Int)] 1) w2 K := by
  intro c w2 H2 hc hrc hR
  unfold M.l.j2
  have a1 := H2.row.at (show first + root < d1.size by omega)
  have a2 := H2.row.at (show first + c < d1.size by omega)
  have b1 : ((first + root : Nat) : Int) < n := by omega
  have b2 : ((first + c : Nat) : Int) < n := by omega
  have wr := wf root (by omega)
  have wc := wf c hc
  simp only [fo, pw, nv, g1, g0, ji, wr, wc, true_and, and_true]
  simp [b1, b2, a1, a2, -Int.natCast_add]
  refine kh _ _ ?_
  cases hl : ltInt d1[first + root]! d1[first + c]! with
  | false =>
   simp [hl] at hR ⊢
   subst hR
   exact h _ (H2.dr 1)
  | true =>
   simp [hl] at hR ⊢
   unfold M.l.j3
   have f1 := H2.row.frz (first + root)
   have f2 := H2.row.frz (first + c)
   simp only [fo, pw, nv, xp, g1, g0, ji, wr, wc, true_and, and_true]
   simp [b1, b2, a1, a2, f1, f2, gx, ic, -Int.natCast_add]
   refine ⟨⟨_, c, _, rfl, ((H2.dr 1).dr 1).swp (by omega) (by omega), by rw [size_swp]; exact hn1, by omega, hR⟩, ?_⟩
   simp [ms, gv]; omega
 have v1 : IntKind.i64.wrap ((first : Int) + ((2 * root + 1 : Nat) : Int)) = ((first + (2 * root + 1) : Nat) : Int) := wf _ (by omega)
 simp only [fo, pw, nv, ji, kf, w4, true_and, and_true, rk]
 by_cases h1 : 2 * root + 1 + 1 < hi
 ·have h1' : ((2 * root + 2 : Nat) : Int) < hi := by omega
  have v2 : IntKind.i64.wrap (((first + (2 * root + 1) : Nat) : Int) + 1) = ((first + (2 * root + 2) : Nat) : Int) := by rw [ft (by omega) (by omega)]; omega
  have a1 := H1.row.at (show first + (2 * root + 1) < d1.size by omega)
  have a2 := H1.row.at (show first + (2 * root + 2) < d1.size by omega)
  have b1 : ((first + (2 * root + 1) : Nat) : Int) < n := by omega
  have b2 : ((first + (2 * root + 2) : Nat) : Int) < n := by omega
  have e2 : first + (2 * root + 1) + 1 = first + (2 * root + 2) := by omega
  simp only [h1', decide_true, beq_self_eq_true, tw, ji, v1, v2]
  simp [b1, b2, a1, a2, -Int.natCast_add]
  refine kh _ _ ?_
  rw [e2] at hR
  cases hl : ltInt d1[first + (2 * root + 1)]! d1[first + (2 * root + 2)]! with
  | true =>
   simp only [h1, hl, decide_true, Bool.and_self, if_true] at hR
   have hx : 2 * root + 2 < hi := by omega
   simp only [hx, dif_pos] at hR
   simp [-Int.natCast_add]
   exact tail (2 * root + 2) _ (H1.dr 1) (by omega) (by omega) hR
  | false =>
   simp only [hl, Bool.and_false, Bool.false_eq_true, if_false] at hR
   simp [-Int.natCast_add]
   exact tail (2 * root + 1) _ (H1.dr 1) (by omega) (by omega) hR
 ·have h1' : ¬ ((2 * root + 2 : Nat) : Int) < hi := by omega
  simp only [h1, decide_false, Bool.false_and, Bool.false_eq_true, if_false] at hR
  simp only [h1', decide_false]
  simp [-Int.natCast_add]
  exact tail (2 * root + 1) _ (H1.dr 1) (by omega) (by omega) hR
def HbI (w : World) (g : Nat) (e : TypeId) (cap n hi first : Nat) (R : Array Int) : KL := fun x w1 => ∃ (k : Nat) (d : Array Int), x = [.int .i64 ((k : Int) - 1)] ∧ Rf w w1 g e cap d ∧ d.size = n ∧ k ≤ hi + 1 ∧ (k ≤ hi ∨ hi = 0) ∧ heapBuild ltInt hi first k d = R
def HpI (w : World) (g : Nat) (e : TypeId) (cap n hi first : Nat) (R : Array Int) : KL := fun x w1 => ∃ (k : Nat) (d : Array Int), x = [.int .i64 ((k : Int) - 1)] ∧ Rf w w1 g e cap d ∧ d.size = n ∧ k ≤ hi ∧ heapPop ltInt first k d = R
def mp (x : List Value) (i : Nat) : Nat := match gv x i with
 | .int _ k => (k + 1).toNat
 | _ => 0
theorem acz {w : World} {g cap n : Nat} {e : TypeId} {d : Array Int} (H : Rw w g e cap d) (hn : d.size = n) (h6 : n < 100000) {a b : Nat} (hb : b ≤ n) (hab : a < b) {K : KV}
  (h : ∀ w', Rf w w' g e cap (heapSort ltInt d a b) → K (.tuple #[]) w') : jb P F.av [.slice (some ⟨g, 0, none⟩) n cap, .int .i64 a, .int .i64 b] w K := by
 apply M.r.calls
 unfold M.r
 have hw0 : IntKind.i64.wrap ((b : Int) - a) = ((b - a : Nat) : Int) := oo (by omega) (by omega)
 generalize hhi : b - a = hi at *
 have hw1 : IntKind.i64.wrap ((hi : Int) - 1) = ((hi - 1 : Nat) : Int) := by rw [ft (by omega) (by omega)]; omega
 have hw2 : IntKind.i64.wrap (((hi - 1 : Nat) : Int).tdiv 2) = (((hi - 1) / 2 : Nat) : Int) := by
  rw [Int.tdiv_eq_ediv_of_nonneg (by omega), ft (by omega) (by omega)]; omega
 have hw3 : (((hi - 1) / 2 : Nat) : Int) = (((hi - 1) / 2 + 1 : Nat) : Int) - 1 := by omega
 simp only [jm, hw0, fo, hw1, aiy, hw2]
 have g0 : ∀ u : Value, gv [u] 0 = u := fun _ => rfl
 generalize hZ : heapBuild ltInt hi a ((hi - 1) / 2 + 1) d = Z
 refine ⟨HbI w g e cap n hi a Z, fun x _ => mp x 0, ⟨(hi - 1) / 2 + 1, d, by rw [hw3], H.nr, hn, by omega, by omega, hZ⟩, ?_⟩
 rintro x w1 ⟨k, d1, rfl, H1, hn1, hk, hk2, hR⟩
 unfold M.r.j1
 simp only [fo, g0, li]
 cases k with
 | succ k =>
  have hk0 : (0 : Int) ≤ ((k + 1 : Nat) : Int) - 1 := by omega
  have hk1 : ((k + 1 : Nat) : Int) - 1 = (k : Int) := by omega
  simp only [hk0, decide_true, Eng.cond_true, hk1]
  rw [M.l.fcall]
  refine ady H1.row hn1 h6 (by omega) (by omega) fun w2 H2 => ?_
  have hw4 : IntKind.i64.wrap ((k : Int) - 1) = (k : Int) - 1 := ft (by omega) (by omega)
  simp only [jm, hw4]
  refine ⟨⟨k, _, rfl, H1.trans H2, by rw [og _ _ _ _ _ (Nat.le_refl _)]; exact hn1, by omega, by omega, hR⟩, ?_⟩
  simp [mp, gv]
 | zero =>
  have hk0 : ¬ (0 : Int) ≤ ((0 : Nat) : Int) - 1 := by omega
  simp only [hk0, decide_false, Eng.cond_false]
  unfold heapBuild at hR
  unfold M.r.j0
  have hw5 : ((hi - 1 : Nat) : Int) = (hi : Int) - 1 := by omega
  simp only [jm, hw1, hw5]
  have hR2 : heapPop ltInt a hi d1 = heapSort ltInt d a b := by
   unfold heapSort
   rw [hhi, hZ, ← hR]
  refine ⟨HpI w g e cap n hi a (heapSort ltInt d a b), fun x _ => mp x 0, ⟨hi, d1, rfl, H1, hn1, Nat.le_refl _, hR2⟩, ?_⟩
  rintro x w2 ⟨k, d2, rfl, H2, hn2, hk, hR3⟩
  simp only [fo, g0, li]
  cases k with
  | zero =>
   have hk0 : ¬ (0 : Int) ≤ ((0 : Nat) : Int) - 1 := by omega
   simp only [hk0, decide_false, Eng.cond_false]
   unfold heapPop at hR3
   subst hR3
   exact h w2 H2
  | succ k =>
   have hk0 : (0 : Int) ≤ ((k + 1 : Nat) : Int) - 1 := by omega
   have hk1 : ((k + 1 : Nat) : Int) - 1 = (k : Int) := by omega
   simp only [hk0, decide_true, Eng.cond_true, hk1]
   unfold heapPop at hR3
   unfold M.r.j5
   have wr : IntKind.i64.wrap ((a : Int) + (k : Int)) = ((a + k : Nat) : Int) := by rw [ft (by omega) (by omega)]; omega
   have a1 := H2.row.at (show a < d2.size by omega)
   have a2 := H2.row.at (show a + k < d2.size by omega)
   have b1 : (a : Int) < n := by omega
   have b2 : ((a + k : Nat) : Int) < n := by omega
   have f1 := H2.row.frz a
   have f2 := H2.row.frz (a + k)
   have hw4 : IntKind.i64.wrap ((k : Int) - 1) = (k : Int) - 1 := ft (by omega) (by omega)
   simp only [fo, pw, nv, xp, g0, ji, jm, wr, hw4, true_and, and_true]
   simp [b1, b2, a1, a2, f1, f2, gx, ic, -Int.natCast_add]
   have H3 := (H2.dr 1).swp (i := a) (j := a + k) (by omega) (by omega)
   rw [M.l.fcall]
   refine ady (lo := 0) H3.row (by rw [size_swp]; exact hn2) h6 (by omega) (by omega) fun w4 H4 => ?_
   refine ⟨⟨k, _, rfl, H3.trans H4, by rw [og _ _ _ _ _ (Nat.le_refl _), size_swp]; exact hn2, by omega, hR3⟩, ?_⟩
   simp [mp, gv]
section
variable {w : World} {g cap n : Nat} {e : TypeId} {d : Array Int}
def UpI (w : World) (g : Nat) (e : TypeId) (cap : Nat) (d : Array Int) (p : Int → Bool) (j r : Nat) : KL := fun x w1 => ∃ i : Nat, x = [.int .i64 (i : Int)] ∧ Rf w w1 g e cap d ∧ i ≤ j + 2 ∧ scanUp p d j i = r
def DnI (w : World) (g : Nat) (e : TypeId) (cap : Nat) (d : Array Int) (p : Int → Bool) (i n r : Nat) : KL := fun x w1 => ∃ j : Nat, x = [.int .i64 (j : Int)] ∧ Rf w w1 g e cap d ∧ j < n ∧ scanDown p d i j = r
theorem za {p : Int → Bool} {i j : Nat} (H : Rw w g e cap d) (hi : i ≤ j + 2) {K0 : KL} {body : KL → KL → KL}
  (hB : ∀ (k : Nat) w1 (Kn : KL), k ≤ j + 2 → Rf w w1 g e cap d → ((k ≤ j ∧ p d[k]! = true) → ∀ w2, Rf w w2 g e cap d → Kn [.int .i64 ((k + 1 : Nat) : Int)] w2) → (¬ (k ≤ j ∧ p d[k]! = true) → ∀ w2, Rf w w2 g e cap d → K0 [.int .i64 (k : Int)] w2) → body K0 Kn [.int .i64 (k : Int)] w1)
  (h : ∀ w', Rf w w' g e cap d → K0 [.int .i64 (scanUp p d j i : Nat)] w') : fl (fun K0 => gy [.int .i64 (i : Int)] w (body K0)) K0 := by
 rw [fo]
 generalize hr : scanUp p d j i = r at *
 refine ⟨UpI w g e cap d p j r, fun x _ => j + 2 - ms x 0, ⟨i, rfl, H.nr, hi, hr⟩, ?_⟩
 clear hr
 rintro x w1 ⟨k, rfl, H1, hk, hR⟩
 unfold scanUp at hR
 refine hB k w1 _ hk H1 (fun hc w2 H2 => ?_) fun hc w2 H2 => ?_
 ·rw [if_pos (by simpa using hc)] at hR
  refine ⟨⟨k + 1, rfl, H2, by omega, hR⟩, ?_⟩
  simp [ms, gv]; omega
 ·rw [if_neg (by simpa using hc)] at hR
  rw [← hR] at h
  exact h w2 H2
theorem vv {p : Int → Bool} {i j : Nat} (H : Rw w g e cap d) (hj : j < n) (hi : 1 ≤ i) {K0 : KL} {body : KL → KL → KL}
  (hB : ∀ (k : Nat) w1 (Kn : KL), k < n → Rf w w1 g e cap d → ((i ≤ k ∧ p d[k]! = true) → ∀ w2, Rf w w2 g e cap d → Kn [.int .i64 ((k - 1 : Nat) : Int)] w2) → (¬ (i ≤ k ∧ p d[k]! = true) → ∀ w2, Rf w w2 g e cap d → K0 [.int .i64 (k : Int)] w2) → body K0 Kn [.int .i64 (k : Int)] w1)
  (h : ∀ w', Rf w w' g e cap d → K0 [.int .i64 (scanDown p d i j : Nat)] w') : fl (fun K0 => gy [.int .i64 (j : Int)] w (body K0)) K0 := by
 rw [fo]
 generalize hr : scanDown p d i j = r at *
 refine ⟨DnI w g e cap d p i n r, fun x _ => ms x 0, ⟨j, rfl, H.nr, hj, hr⟩, ?_⟩
 clear hr
 rintro x w1 ⟨k, rfl, H1, hk, hR⟩
 refine hB k w1 _ hk H1 (fun hc w2 H2 => ?_) fun hc w2 H2 => ?_
 ·cases k with
  | zero => omega
  | succ k =>
   unfold scanDown at hR
   rw [if_pos (by simpa using hc)] at hR
   refine ⟨⟨k, rfl, H2, by omega, hR⟩, ?_⟩
   simp [ms, gv]
 ·have : scanDown p d i k = k := by
   cases k with
   | zero => rfl
   | succ k => unfold scanDown; rw [if_neg (by simpa using hc)]
  rw [this] at hR
  rw [← hR] at h
  exact h w2 H2
theorem vg (p : Int → Bool) (d : Array Int) (j i : Nat) : scanUp p d j i ≤ max i (j + 1) := by
 by_cases h : i ≤ j + 1
 ·have := (scanUp_spec p d j _ i rfl).2.1 h
  omega
 ·unfold scanUp
  rw [if_neg (by simp; omega)]
  omega
theorem g0 (u : Value) : gv [u] 0 = u := rfl
theorem g20 (u v : Value) : gv [u, v] 0 = u := rfl
theorem g21 (u v : Value) : gv [u, v] 1 = v := rfl
theorem aml {w0 w1 : World} {a k j : Nat} {K0 Kn : KL} {K : KV} (H1 : Rf w0 w1 g e cap d) (hn : d.size = n) (h6 : n < 100000) (ha : a < n) (hj : j < n) (hk : k ≤ j + 2)
  (k1 : (k ≤ j ∧ ltInt d[k]! d[a]! = true) → ∀ w2, Rf w0 w2 g e cap d → Kn [.int .i64 ((k + 1 : Nat) : Int)] w2) (k2 : ¬ (k ≤ j ∧ ltInt d[k]! d[a]! = true) → ∀ w2, Rf w0 w2 g e cap d → K0 [.int .i64 (k : Int)] w2) :
  M.d.j1 [.int .i64 (k : Int)] (.int .i64 (j : Int)) (.slice (some ⟨g, 0, none⟩) n cap) (.int .i64 (a : Int)) K0 Kn w1 K := by
 unfold M.d.j1
 by_cases hkj : k ≤ j
 ·have a1 := H1.row.at (show k < d.size by omega)
  have a2 := H1.row.at (show a < d.size by omega)
  have b1 : (k : Int) < n := by omega
  have b2 : (a : Int) < n := by omega
  have b3 : (k : Int) ≤ j := by omega
  simp [g0, g21, b1, b2, b3, a1, a2]
  refine kh _ _ ?_
  cases hl : ltInt d[k]! d[a]! with
  | true =>
   simp [jz (show k < 1000000 by omega)]
   have := k1 ⟨hkj, hl⟩ _ (H1.dr 1)
   simpa using this
  | false =>
   simp [jz (show k < 1000000 by omega)]
   have := k2 (fun h => by simp [hl] at h) _ (H1.dr 1)
   simpa using this
 ·have b3 : ¬ (k : Int) ≤ j := by omega
  simp [g0, g21, b3]
  have := k2 (fun h => hkj h.1) _ (H1.dr 1)
  simpa using this
theorem alu {w0 w1 : World} {a k i : Nat} {K0 Kn : KL} {K : KV} (H1 : Rf w0 w1 g e cap d) (hn : d.size = n) (h6 : n < 100000) (hai : a < n ∧ 1 ≤ i) (hk : k < n)
  (k1 : (i ≤ k ∧ (!ltInt d[k]! d[a]!) = true) → ∀ w2, Rf w0 w2 g e cap d → Kn [.int .i64 ((k - 1 : Nat) : Int)] w2) (k2 : ¬ (i ≤ k ∧ (!ltInt d[k]! d[a]!) = true) → ∀ w2, Rf w0 w2 g e cap d → K0 [.int .i64 (k : Int)] w2) :
  M.d.j4 [.int .i64 (i : Int)] [.int .i64 (k : Int)] (.slice (some ⟨g, 0, none⟩) n cap) (.int .i64 (a : Int)) K0 Kn w1 K := by
 unfold M.d.j4
 by_cases hik : i ≤ k
 ·have a1 := H1.row.at (show k < d.size by omega)
  have a2 := H1.row.at (show a < d.size by omega)
  have b1 : (k : Int) < n := by omega
  have b2 : (a : Int) < n := by omega
  have b3 : (i : Int) ≤ k := by omega
  have hw : IntKind.i64.wrap ((k : Int) - 1) = ((k - 1 : Nat) : Int) := by rw [ft (by omega) (by omega)]; omega
  simp [g0, b1, b2, b3, a1, a2]
  refine kh _ _ ?_
  cases hl : ltInt d[k]! d[a]! with
  | true =>
   simp [hw]
   have := k2 (fun h => by simp [hl] at h) _ (H1.dr 1)
   simpa using this
  | false =>
   simp [hw]
   have := k1 ⟨hik, by simp [hl]⟩ _ (H1.dr 1)
   simpa using this
 ·have b3 : ¬ (i : Int) ≤ k := by omega
  simp [g0, b3]
  have := k2 (fun h => hik h.1) _ (H1.dr 1)
  simpa using this
theorem ajh {w0 w1 : World} {vi : Value} {a k j : Nat} {K0 Kn : KL} {K : KV} (H1 : Rf w0 w1 g e cap d) (hn : d.size = n) (h6 : n < 100000) (ha : a < n) (hj : j < n) (hk : k ≤ j + 2)
  (k1 : (k ≤ j ∧ ltInt d[k]! d[a]! = true) → ∀ w2, Rf w0 w2 g e cap d → Kn [.int .i64 ((k + 1 : Nat) : Int)] w2) (k2 : ¬ (k ≤ j ∧ ltInt d[k]! d[a]! = true) → ∀ w2, Rf w0 w2 g e cap d → K0 [.int .i64 (k : Int)] w2) :
  M.d.j10 [.int .i64 (k : Int)] [vi, .int .i64 (j : Int)] (.slice (some ⟨g, 0, none⟩) n cap) (.int .i64 (a : Int)) K0 Kn w1 K := by
 unfold M.d.j10
 by_cases hkj : k ≤ j
 ·have a1 := H1.row.at (show k < d.size by omega)
  have a2 := H1.row.at (show a < d.size by omega)
  have b1 : (k : Int) < n := by omega
  have b2 : (a : Int) < n := by omega
  have b3 : (k : Int) ≤ j := by omega
  simp [g0, g21, b1, b2, b3, a1, a2]
  refine kh _ _ ?_
  cases hl : ltInt d[k]! d[a]! with
  | true =>
   simp [jz (show k < 1000000 by omega)]
   have := k1 ⟨hkj, hl⟩ _ (H1.dr 1)
   simpa using this
  | false =>
   simp [jz (show k < 1000000 by omega)]
   have := k2 (fun h => by simp [hl] at h) _ (H1.dr 1)
   simpa using this
 ·have b3 : ¬ (k : Int) ≤ j := by omega
  simp [g0, g21, b3]
  have := k2 (fun h => hkj h.1) _ (H1.dr 1)
  simpa using this
theorem ait {w0 w1 : World} {a k i : Nat} {K0 Kn : KL} {K : KV} (H1 : Rf w0 w1 g e cap d) (hn : d.size = n) (h6 : n < 100000) (hai : a < n ∧ 1 ≤ i) (hk : k < n)
  (k1 : (i ≤ k ∧ (!ltInt d[k]! d[a]!) = true) → ∀ w2, Rf w0 w2 g e cap d → Kn [.int .i64 ((k - 1 : Nat) : Int)] w2) (k2 : ¬ (i ≤ k ∧ (!ltInt d[k]! d[a]!) = true) → ∀ w2, Rf w0 w2 g e cap d → K0 [.int .i64 (k : Int)] w2) :
  M.d.j13 [.int .i64 (i : Int)] [.int .i64 (k : Int)] (.slice (some ⟨g, 0, none⟩) n cap) (.int .i64 (a : Int)) K0 Kn w1 K := by
 unfold M.d.j13
 by_cases hik : i ≤ k
 ·have a1 := H1.row.at (show k < d.size by omega)
  have a2 := H1.row.at (show a < d.size by omega)
  have b1 : (k : Int) < n := by omega
  have b2 : (a : Int) < n := by omega
  have b3 : (i : Int) ≤ k := by omega
  have hw : IntKind.i64.wrap ((k : Int) - 1) = ((k - 1 : Nat) : Int) := by rw [ft (by omega) (by omega)]; omega
  simp [g0, b1, b2, b3, a1, a2]
  refine kh _ _ ?_
  cases hl : ltInt d[k]! d[a]! with
  | true =>
   simp [hw]
   have := k2 (fun h => by simp [hl] at h) _ (H1.dr 1)
   simpa using this
  | false =>
   simp [hw]
   have := k1 ⟨hik, by simp [hl]⟩ _ (H1.dr 1)
   simpa using this
 ·have b3 : ¬ (i : Int) ≤ k := by omega
  simp [g0, b3]
  have := k2 (fun h => hik h.1) _ (H1.dr 1)
  simpa using this
theorem alv {w0 w1 : World} {vi : Value} {a k j : Nat} {K0 Kn : KL} {K : KV} (H1 : Rf w0 w1 g e cap d) (hn : d.size = n) (h6 : n < 100000) (ha : a < n) (hj : j < n) (hk : k ≤ j + 2)
  (k1 : (k ≤ j ∧ (!ltInt d[a]! d[k]!) = true) → ∀ w2, Rf w0 w2 g e cap d → Kn [.int .i64 ((k + 1 : Nat) : Int)] w2) (k2 : ¬ (k ≤ j ∧ (!ltInt d[a]! d[k]!) = true) → ∀ w2, Rf w0 w2 g e cap d → K0 [.int .i64 (k : Int)] w2) :
  M.g.j3 [.int .i64 (k : Int)] [vi, .int .i64 (j : Int)] (.slice (some ⟨g, 0, none⟩) n cap) (.int .i64 (a : Int)) K0 Kn w1 K := by
 unfold M.g.j3
 by_cases hkj : k ≤ j
 ·have a1 := H1.row.at (show k < d.size by omega)
  have a2 := H1.row.at (show a < d.size by omega)
  have b1 : (k : Int) < n := by omega
  have b2 : (a : Int) < n := by omega
  have b3 : (k : Int) ≤ j := by omega
  simp [g0, g21, b1, b2, b3, a1, a2]
  refine kh _ _ ?_
  cases hl : ltInt d[a]! d[k]! with
  | true =>
   simp [jz (show k < 1000000 by omega)]
   have := k2 (fun h => by simp [hl] at h) _ (H1.dr 1)
   simpa using this
  | false =>
   simp [jz (show k < 1000000 by omega)]
   have := k1 ⟨hkj, by simp [hl]⟩ _ (H1.dr 1)
   simpa using this
 ·have b3 : ¬ (k : Int) ≤ j := by omega
  simp [g0, g21, b3]
  have := k2 (fun h => hkj h.1) _ (H1.dr 1)
  simpa using this
theorem alr {w0 w1 : World} {a k i : Nat} {K0 Kn : KL} {K : KV} (H1 : Rf w0 w1 g e cap d) (hn : d.size = n) (h6 : n < 100000) (hai : a < n ∧ 1 ≤ i) (hk : k < n)
  (k1 : (i ≤ k ∧ ltInt d[a]! d[k]! = true) → ∀ w2, Rf w0 w2 g e cap d → Kn [.int .i64 ((k - 1 : Nat) : Int)] w2) (k2 : ¬ (i ≤ k ∧ ltInt d[a]! d[k]! = true) → ∀ w2, Rf w0 w2 g e cap d → K0 [.int .i64 (k : Int)] w2) :
  M.g.j6 [.int .i64 (i : Int)] [.int .i64 (k : Int)] (.slice (some ⟨g, 0, none⟩) n cap) (.int .i64 (a : Int)) K0 Kn w1 K := by
 unfold M.g.j6
 by_cases hik : i ≤ k
 ·have a1 := H1.row.at (show k < d.size by omega)
  have a2 := H1.row.at (show a < d.size by omega)
  have b1 : (k : Int) < n := by omega
  have b2 : (a : Int) < n := by omega
  have b3 : (i : Int) ≤ k := by omega
  have hw : IntKind.i64.wrap ((k : Int) - 1) = ((k - 1 : Nat) : Int) := by rw [ft (by omega) (by omega)]; omega
  simp [g0, b1, b2, b3, a1, a2]
  refine kh _ _ ?_
  cases hl : ltInt d[a]! d[k]! with
  | true =>
   simp [hw]
   have := k1 ⟨hik, hl⟩ _ (H1.dr 1)
   simpa using this
  | false =>
   simp [hw]
   have := k2 (fun h => by simp [hl] at h) _ (H1.dr 1)
   simpa using this
 ·have b3 : ¬ (i : Int) ≤ k := by omega
  simp [g0, b3]
  have := k2 (fun h => hik h.1) _ (H1.dr 1)
  simpa using this
end
def PlI (w : World) (g : Nat) (e : TypeId) (cap n a b : Nat) (R : Nat × Array Int) : KL := fun x w1 => ∃ (i j : Nat) (d : Array Int), x = [.int .i64 (i : Int), .int .i64 (j : Int)] ∧ Rf w w1 g e cap d ∧ d.size = n ∧ a < i ∧ i ≤ j + 2 ∧ j < b ∧ partLoop ltInt a i j d = R
theorem acg {w : World} {g cap n : Nat} {e : TypeId} {d : Array Int} (H : Rw w g e cap d) (hn : d.size = n) (h6 : n < 100000) {a b pv : Nat} (hb : b ≤ n) (ha : a ≤ pv) (hp : pv < b) {K : KV}
  (h : ∀ w', Rf w w' g e cap (partition ltInt d a b pv).2.2 → K (.tuple #[.int .i64 ((partition ltInt d a b pv).1 : Nat), .bool (partition ltInt d a b pv).2.1]) w') :
  jb P F.aq [.slice (some ⟨g, 0, none⟩) n cap, .int .i64 a, .int .i64 b, .int .i64 pv] w K := by
 apply M.d.calls
 unfold M.d
 have a1 := H.at (show a < d.size by omega)
 have a2 := H.at (show pv < d.size by omega)
 have b1 : (a : Int) < n := by omega
 have b2 : (pv : Int) < n := by omega
 have f1 := H.frz a
 have f2 := H.frz pv
 have hw1 : IntKind.i64.wrap ((a : Int) + 1) = ((a + 1 : Nat) : Int) := jz (by omega)
 have hw2 : IntKind.i64.wrap ((b : Int) - 1) = ((b - 1 : Nat) : Int) := by rw [ft (by omega) (by omega)]; omega
 simp [b1, b2, a1, a2, f1, f2, gx, ic, hw1, hw2, -Int.natCast_add, -fo]
 have H1 := (H.nr.dr 1).swp (i := a) (j := pv) (by omega) (by omega)
 generalize ((dr w 1).setCell ⟨g, a, none⟩ (.int .u64 d[pv]!)).setCell ⟨g, pv, none⟩ (.int .u64 d[a]!) = w1 at *
 clear a1 a2 f1 f2
 unfold partition at h
 have hn1 : (Sort.swp d a pv).size = n := by rw [size_swp]; exact hn
 generalize Sort.swp d a pv = d1 at *
 try simp only at h
 refine za (p := fun x => ltInt x d1[a]!) (i := a + 1) (j := b - 1) H1.row (by omega) (fun k w2 Kn hk H2 k1 k2 => by refine aml H2 hn1 h6 (by omega) (by omega) hk ?_ ?_ <;> first | exact k1 | exact k2) fun w2 H2 => ?_
 have hge := scanUp_ge (fun x => ltInt x d1[a]!) d1 (b - 1) (a + 1)
 have hle := vg (fun x => ltInt x d1[a]!) d1 (b - 1) (a + 1)
 generalize scanUp (fun x => ltInt x d1[a]!) d1 (b - 1) (a + 1) = i at *
 refine vv (n := n) (p := fun x => !ltInt x d1[a]!) H2.row (by omega) (i := i) (j := b - 1) (by omega) (fun k w3 Kn hk H3 k1 k2 => by refine alu H3 hn1 h6 (by omega) hk ?_ ?_ <;> first | exact k1 | exact k2) fun w3 H3 => ?_
 have hdl := scanDown_le (fun x => !ltInt x d1[a]!) d1 i (b - 1)
 generalize scanDown (fun x => !ltInt x d1[a]!) d1 i (b - 1) = j at *
 have H3' := H1.trans (H2.trans H3)
 unfold M.d.j3
 have c1 := H3.row.at (show a < d1.size by omega)
 have c2 := H3.row.at (show j < d1.size by omega)
 have e1 : (j : Int) < n := by omega
 have f1 := H3.row.frz a
 have f2 := H3.row.frz j
 simp only [fo, g0]
 by_cases hij : i > j
 ·have hij' : (j : Int) < i := by omega
  rw [if_pos hij] at h
  simp [hij', b1, e1, c1, c2, f1, f2, gx, ic, -Int.natCast_add]
  exact h _ ((H3'.dr 1).swp (by omega) (by omega))
 ·have hij' : ¬ (j : Int) < i := by omega
  rw [if_neg hij] at h
  simp only [nn, hij', decide_false, Eng.cond_false]
  unfold M.d.j6
  have c3 := H3.row.at (show i < d1.size by omega)
  have e2 : (i : Int) < n := by omega
  have f3 := H3.row.frz i
  have hw3 : IntKind.i64.wrap ((i : Int) + 1) = ((i + 1 : Nat) : Int) := jz (by omega)
  have hw4 : IntKind.i64.wrap ((j : Int) - 1) = ((j - 1 : Nat) : Int) := by rw [ft (by omega) (by omega)]; omega
  simp [g0, e1, e2, c2, c3, f2, f3, gx, ic, hw3, hw4, -Int.natCast_add, -fo]
  rw [fo]
  have H4 := (H3'.dr 1).swp (i := i) (j := j) (by omega) (by omega)
  generalize ((dr w3 1).setCell ⟨g, i, none⟩ (.int .u64 d1[j]!)).setCell ⟨g, j, none⟩ (.int .u64 d1[i]!) = w4 at *
  have hn2 : (Sort.swp d1 i j).size = n := by rw [size_swp]; exact hn1
  generalize Sort.swp d1 i j = d2 at *
  generalize hr : partLoop ltInt a (i + 1) (j - 1) d2 = r at *
  refine ⟨PlI w g e cap n a b r, fun x _ => ms x 1 + 2 - ms x 0, ⟨i + 1, j - 1, d2, rfl, H4, hn2, by omega, by omega, by omega, hr⟩, ?_⟩
  rintro x w5 ⟨i5, j5, d5, rfl, H5, hn5, ha5, hij5, hj5, hR⟩
  rw [partLoop_eq] at hR
  refine za (p := fun x => ltInt x d5[a]!) (i := i5) (j := j5) H5.row hij5 (fun k w6 Kn hk H6 k1 k2 => by refine ajh H6 hn5 h6 (by omega) (by omega) hk ?_ ?_ <;> first | exact k1 | exact k2) fun w6 H6 => ?_
  have hge := scanUp_ge (fun x => ltInt x d5[a]!) d5 j5 i5
  have hle := vg (fun x => ltInt x d5[a]!) d5 j5 i5
  generalize scanUp (fun x => ltInt x d5[a]!) d5 j5 i5 = i6 at *
  unfold M.d.j9
  simp only [g21]
  refine vv (n := n) (p := fun x => !ltInt x d5[a]!) H6.row (by omega) (i := i6) (j := j5) (by omega) (fun k w7 Kn hk H7 k1 k2 => by refine ait H7 hn5 h6 (by omega) hk ?_ ?_ <;> first | exact k1 | exact k2) fun w7 H7 => ?_
  have hdl := scanDown_le (fun x => !ltInt x d5[a]!) d5 i6 j5
  generalize scanDown (fun x => !ltInt x d5[a]!) d5 i6 j5 = j6 at *
  have H7' := H5.trans (H6.trans H7)
  try simp only at hR
  simp only [g0, fo]
  by_cases hgt : i6 > j6
  ·have hgt' : (j6 : Int) < i6 := by omega
   rw [if_pos hgt] at hR
   simp only [nn, hgt', decide_true, Eng.cond_true]
   unfold M.d.j7
   have c1 := H7.row.at (show a < d5.size by omega)
   have c2 := H7.row.at (show j6 < d5.size by omega)
   have e1 : (j6 : Int) < n := by omega
   have f1 := H7.row.frz a
   have f2 := H7.row.frz j6
   simp [g21, b1, e1, c1, c2, f1, f2, gx, ic, -Int.natCast_add]
   subst hR
   exact h _ ((H7'.dr 1).swp (by omega) (by omega))
  ·have hgt' : ¬ (j6 : Int) < i6 := by omega
   rw [if_neg hgt] at hR
   simp only [nn, hgt', decide_false, Eng.cond_false]
   unfold M.d.j15
   have c1 := H7.row.at (show i6 < d5.size by omega)
   have c2 := H7.row.at (show j6 < d5.size by omega)
   have e1 : (j6 : Int) < n := by omega
   have e2 : (i6 : Int) < n := by omega
   have f1 := H7.row.frz i6
   have f2 := H7.row.frz j6
   have hw3 : IntKind.i64.wrap ((i6 : Int) + 1) = ((i6 + 1 : Nat) : Int) := jz (by omega)
   have hw4 : IntKind.i64.wrap ((j6 : Int) - 1) = ((j6 - 1 : Nat) : Int) := by rw [ft (by omega) (by omega)]; omega
   simp [g0, e1, e2, c1, c2, f1, f2, gx, ic, hw3, hw4, -Int.natCast_add]
   refine ⟨⟨i6 + 1, j6 - 1, _, rfl, (H7'.dr 1).swp (by omega) (by omega), by rw [size_swp]; exact hn5, by omega, by omega, by omega, hR⟩, ?_⟩
   simp [ms, gv]; omega
def PeI (w : World) (g : Nat) (e : TypeId) (cap n a b : Nat) (R : Nat × Array Int) : KL := fun x w1 => ∃ (i j : Nat) (d : Array Int), x = [.int .i64 (i : Int), .int .i64 (j : Int)] ∧ Rf w w1 g e cap d ∧ d.size = n ∧ a < i ∧ i ≤ j + 2 ∧ j < b ∧ partEqLoop ltInt a i j d = R
theorem wh {w : World} {g cap n : Nat} {e : TypeId} {d : Array Int} (H : Rw w g e cap d) (hn : d.size = n) (h6 : n < 100000) {a b pv : Nat} (hb : b ≤ n) (ha : a ≤ pv) (hp : pv < b) {K : KV}
  (h : ∀ w', Rf w w' g e cap (partitionEqual ltInt d a b pv).2 → K (.int .i64 ((partitionEqual ltInt d a b pv).1 : Nat)) w') :
  jb P F.w [.slice (some ⟨g, 0, none⟩) n cap, .int .i64 a, .int .i64 b, .int .i64 pv] w K := by
 apply M.g.calls
 unfold M.g
 have a1 := H.at (show a < d.size by omega)
 have a2 := H.at (show pv < d.size by omega)
 have b1 : (a : Int) < n := by omega
 have b2 : (pv : Int) < n := by omega
 have f1 := H.frz a
 have f2 := H.frz pv
 have hw1 : IntKind.i64.wrap ((a : Int) + 1) = ((a + 1 : Nat) : Int) := jz (by omega)
 have hw2 : IntKind.i64.wrap ((b : Int) - 1) = ((b - 1 : Nat) : Int) := by rw [ft (by omega) (by omega)]; omega
 simp [b1, b2, a1, a2, f1, f2, gx, ic, hw1, hw2, -Int.natCast_add, -fo]
 have H1 := (H.nr.dr 1).swp (i := a) (j := pv) (by omega) (by omega)
 generalize ((dr w 1).setCell ⟨g, a, none⟩ (.int .u64 d[pv]!)).setCell ⟨g, pv, none⟩ (.int .u64 d[a]!) = w1 at *
 clear a1 a2 f1 f2
 unfold partitionEqual at h
 have hn1 : (Sort.swp d a pv).size = n := by rw [size_swp]; exact hn
 generalize Sort.swp d a pv = d1 at *
 generalize hr : partEqLoop ltInt a (a + 1) (b - 1) d1 = r at *
 rw [fo]
 refine ⟨PeI w g e cap n a b r, fun x _ => ms x 1 + 2 - ms x 0, ⟨a + 1, b - 1, d1, rfl, H1, hn1, by omega, by omega, by omega, hr⟩, ?_⟩
 rintro x w5 ⟨i5, j5, d5, rfl, H5, hn5, ha5, hij5, hj5, hR⟩
 rw [partEqLoop_eq] at hR
 simp only [g20]
 refine za (p := fun x => !ltInt d5[a]! x) (i := i5) (j := j5) H5.row hij5 (fun k w6 Kn hk H6 k1 k2 => by refine alv H6 hn5 h6 (by omega) (by omega) hk ?_ ?_ <;> first | exact k1 | exact k2) fun w6 H6 => ?_
 have hge := scanUp_ge (fun x => !ltInt d5[a]! x) d5 j5 i5
 have hle := vg (fun x => !ltInt d5[a]! x) d5 j5 i5
 generalize scanUp (fun x => !ltInt d5[a]! x) d5 j5 i5 = i6 at *
 unfold M.g.j2
 simp only [g21]
 refine vv (n := n) (p := fun x => ltInt d5[a]! x) H6.row (by omega) (i := i6) (j := j5) (by omega) (fun k w7 Kn hk H7 k1 k2 => by refine alr H7 hn5 h6 (by omega) hk ?_ ?_ <;> first | exact k1 | exact k2) fun w7 H7 => ?_
 have hdl := scanDown_le (fun x => ltInt d5[a]! x) d5 i6 j5
 generalize scanDown (fun x => ltInt d5[a]! x) d5 i6 j5 = j6 at *
 have H7' := H5.trans (H6.trans H7)
 try simp only at hR
 simp only [g0, fo]
 by_cases hgt : i6 > j6
 ·have hgt' : (j6 : Int) < i6 := by omega
  rw [if_pos hgt] at hR
  simp only [nn, hgt', decide_true, Eng.cond_true, g20]
  subst hR
  exact h _ H7'
 ·have hgt' : ¬ (j6 : Int) < i6 := by omega
  rw [if_neg hgt] at hR
  simp only [nn, hgt', decide_false, Eng.cond_false]
  unfold M.g.j8
  have c1 := H7.row.at (show i6 < d5.size by omega)
  have c2 := H7.row.at (show j6 < d5.size by omega)
  have e1 : (j6 : Int) < n := by omega
  have e2 : (i6 : Int) < n := by omega
  have f1 := H7.row.frz i6
  have f2 := H7.row.frz j6
  have hw3 : IntKind.i64.wrap ((i6 : Int) + 1) = ((i6 + 1 : Nat) : Int) := jz (by omega)
  have hw4 : IntKind.i64.wrap ((j6 : Int) - 1) = ((j6 - 1 : Nat) : Int) := by rw [ft (by omega) (by omega)]; omega
  simp [g0, e1, e2, c1, c2, f1, f2, gx, ic, hw3, hw4, -Int.natCast_add]
  refine ⟨⟨i6 + 1, j6 - 1, _, rfl, (H7'.dr 1).swp (by omega) (by omega), by rw [size_swp]; exact hn5, by omega, by omega, by omega, hR⟩, ?_⟩
  simp [ms, gv]; omega
end Go.Proofs.YtfnhoaemapheoaaGreat.Suint64
