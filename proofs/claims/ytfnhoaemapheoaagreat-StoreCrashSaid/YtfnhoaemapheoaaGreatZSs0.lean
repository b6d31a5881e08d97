/-
  Sorting a row of spans: an element read and written, two swapped; the insertion sort. No condition.
-/
import Derived.Test.YtfnhoaemapheoaaGreatZRef3
import Derived.Test.YtfnhoaemapheoaaGreatZMs2
import Derived.Test.YtfnhoaemapheoaaGreatZEngSl
set_option maxRecDepth 100000
namespace Go.Proofs.YtfnhoaemapheoaaGreat
open Go.Eng Go.Proofs.YtfnhoaemapheoaaGreat.Sint
abbrev vS (g n cap : Nat) : Value := .slice (some ⟨g, 0, none⟩) n cap
abbrev CF : Value := .func (.func F.ef) #[] #[]
theorem vm {g n cap i : Nat} (h : i < n) (w : World) (K : KV) : iaT P T.b (vS g n cap) (.int .i64 (i : Nat)) w K = K (.pointer (some ⟨g, i * 8, none⟩)) w := by simp [h]
theorem ym (b o : Nat) (x : Spn) (w : World) (K : KV) : stT P T.e (.pointer (some ⟨b, o, none⟩)) (ko x) w K = stN P b o (ja x) w K := by
 unfold ko
 simp [ja]
theorem wr1 {x : Nat} (h : x < 1000000) : IntKind.i64.wrap ((x : Int) + 1) = ((x + 1 : Nat) : Int) := by rw [ig]; rfl
theorem wrm {x y : Nat} (h : y ≤ x) (hx : x < 1000000) : IntKind.i64.wrap ((x : Int) - (y : Nat)) = ((x - y : Nat) : Int) := by rw [ig]; omega
theorem ayu {x : Nat} (h : 1 ≤ x) (hx : x < 1000000) : IntKind.i64.wrap ((x : Int) - 1) = ((x - 1 : Nat) : Int) := by rw [ig]; omega
theorem wra {x y : Nat} (h : x + y < 1000000) : IntKind.i64.wrap ((x : Int) + (y : Nat)) = ((x + y : Nat) : Int) := by rw [ig]; omega
section
variable {w0 w : World} {R : List Asn} {g n cap : Nat} {l : List Spn}
theorem amx (S : St w0 w (lh (vS g n cap) l :: R)) {i : Nat} (hi : i < l.length) (K : KV) : ldN P 8 g (i * 8) w K = K (ko l[i]) w := by
 obtain ⟨b, o, c, hv, _, _, hc⟩ := (S.row lk : SlS w (vS g n cap) l).at hi
 injection hv with h1 h2 h3
 injection h1 with h1
 injection h1 with h1 h4
 subst h1 h4
 exact po (ja l[i]) 8 rfl (fun k u hk => by have := hc k u hk; rwa [Nat.zero_add] at this) K
theorem aaa (S : St w0 w (lh (vS g n cap) l :: R)) {i : Nat} (hi : i < l.length) (x : Spn) {K : KV} (h : ∀ w', St w0 w' (lh (vS g n cap) (l.set i x) :: R) → K undef w') : stT P T.e (.pointer (some ⟨g, i * 8, none⟩)) (ko x) w K := by
 obtain ⟨b, c, hv, hs⟩ := St.bnw lk og S hi x
 injection hv with h1 h2 h3
 injection h1 with h1
 injection h1 with h1 h4
 subst h1
 rw [ym]
 have := hs K h
 rwa [Nat.zero_add] at this
theorem anb (S : St w0 w R) (x y : Spn) {K : KV} (h : ∀ w', St w0 w' R → K (.int .i64 (xv x y)) w') : xx P CF [ko x, ko y] w K := by
 have := bgz (P := P) F.ef [] [] [ko x, ko y] w K
 rw [show (CF : Value) = .func (.func F.ef) ([] : List Value).toArray ([] : List Value).toArray from rfl, this]
 exact bcw x y fun w' f => h w' (S.jt f)
theorem ut (S : St w0 w (lh (vS g n cap) l :: R)) : l.length = n := by
 obtain ⟨_, _, hv, _⟩ := (S.row lk : SlS w (vS g n cap) l)
 injection hv with _ h _
 exact h.symm
end
def bpp (w0 : World) (g n cap a : Nat) (X Z S : List Spn) (x : Spn) (R : List Asn) : KL := fun v w1 => ∃ (j : Nat) (S1 S2 : List Spn), v = [.int .i64 (j : Nat)] ∧ j = a + S1.length ∧ X.length = a ∧ oy (S1 ++ S2) ∧ (∀ y ∈ S2, leS x y) ∧ (S1 ++ S2).Perm S ∧ St w0 w1 (lh (vS g n cap) (X ++ (S1 ++ x :: S2) ++ Z) :: R)
def bmn (w0 : World) (g n cap a b : Nat) (X A Y : List Spn) (R : List Asn) : KL := fun v w1 => ∃ (u : Value) (i : Nat) (S Q : List Spn), v = [u, .int .i64 (i : Nat)] ∧ i = a + S.length ∧ S.length + Q.length = A.length ∧ 1 ≤ S.length ∧ oy S ∧ (S ++ Q).Perm A ∧ St w0 w1 (lh (vS g n cap) (X ++ S ++ Q ++ Y) :: R)
section
variable {w0 w : World} {R : List Asn} {g n cap : Nat} {l : List Spn}
theorem bei {a b : Nat} {X A Y : List Spn} (S : St w0 w (lh (vS g n cap) (X ++ A ++ Y) :: R)) (hn : n < 100000) (ha : X.length = a) (hb : a + A.length = b) {K : KV}
  (h : ∀ w' C, oy C → C.Perm A → St w0 w' (lh (vS g n cap) (X ++ C ++ Y) :: R) → K (.tuple #[]) w') : gr P F.an [vS g n cap, .int .i64 (a : Nat), .int .i64 (b : Nat), CF] w K := by
 have hlen := ut S
 simp only [List.length_append] at hlen
 rw [M.d.fcall]
 apply M.d.calls
 unfold M.d
 simp only [kz, wr1 (show a < 1000000 by omega)]
 by_cases hA : A = []
 ·subst hA
  simp only [List.length_nil] at hb
  refine ⟨fun v w1 => v = [undef, .int .i64 ((a + 1 : Nat) : Int)] ∧ w1 = w, fun _ _ => 0, ⟨rfl, rfl⟩, ?_⟩
  rintro v w1 ⟨rfl, rfl⟩
  unfold M.d.j0
  have g1 : gv [undef, Value.int .i64 ((a + 1 : Nat) : Int)] 1 = .int .i64 ((a + 1 : Nat) : Int) := rfl
  have hlt : ¬ ((a + 1 : Nat) : Int) < (b : Int) := by omega
  simp only [ib, g1, lw, hlt, decide_false, Eng.cond_false]
  exact h w1 [] List.Pairwise.nil (List.Perm.refl _) S
 have hAl : 0 < A.length := List.length_pos_iff.2 hA
 refine ⟨bmn w0 g n cap a b X A Y R, fun v _ => b - ms v 1, ⟨_, a + 1, [A[0]], A.drop 1, rfl, rfl, by simp; omega, by simp, by simp, ?_, ?_⟩, ?_⟩
 ·rw [List.singleton_append, show A[0] :: A.drop 1 = A from by rw [← List.drop_eq_getElem_cons hAl, List.drop_zero]]
 ·have e : X ++ [A[0]] ++ A.drop 1 ++ Y = X ++ A ++ Y := by
   rw [List.append_assoc X, List.singleton_append, show A[0] :: A.drop 1 = A from by rw [← List.drop_eq_getElem_cons hAl, List.drop_zero]]
  rw [e]; exact S
 rintro v w1 ⟨u, i, S0, Q, rfl, hi, hl0, h1, hS, hp, T1⟩
 have g1 : gv [u, Value.int .i64 (i : Nat)] 1 = .int .i64 (i : Nat) := rfl
 unfold M.d.j0
 simp only [ib, g1, lw]
 by_cases hib : i < b
 ·have hib' : (i : Int) < b := by omega
  have hQ : 0 < Q.length := by omega
  obtain ⟨x, Q', rfl⟩ := List.exists_cons_of_length_pos hQ
  simp only [hib', decide_true, Eng.cond_true]
  refine ⟨bpp w0 g n cap a X (Q' ++ Y) S0 x R, fun v _ => ms v 0, ⟨i, S0, [], rfl, hi, ha, by simpa using hS, by simp, by simp, by simpa using T1⟩, ?_⟩
  rintro v w2 ⟨j, S1, S2, rfl, hj, _, hs12, hle, hp12, T2⟩
  have hl12 := hp12.length_eq
  rw [List.length_append] at hl12
  simp only [List.length_cons] at hl0
  have done : ∀ v w3, oy (S1 ++ x :: S2) → St w0 w3 (lh (vS g n cap) (X ++ (S1 ++ x :: S2) ++ (Q' ++ Y)) :: R) → bmn w0 g n cap a b X A Y R [v, .int .i64 (IntKind.i64.wrap ((i : Int) + 1))] w3 ∧ b - ms [v, .int .i64 (IntKind.i64.wrap ((i : Int) + 1))] 1 < b - ms [u, .int .i64 (i : Nat)] 1 := by
   intro v w3 hasc T3
   rw [wr1 (by omega)]
   refine ⟨⟨v, i + 1, S1 ++ x :: S2, Q', rfl, by simp; omega, by simp; omega, by simp; omega, hasc, ?_, by simpa using T3⟩, by simp [ms, gv]; omega⟩
   refine List.Perm.trans ?_ hp
   rw [show S0 ++ x :: Q' = (S0 ++ [x]) ++ Q' from by simp]
   refine List.Perm.append_right _ ?_
   refine List.Perm.trans List.perm_middle ?_
   refine List.Perm.trans (List.Perm.cons x hp12) ?_
   exact (List.perm_append_comm (l₁ := S0) (l₂ := [x])).symm
  have g0 : gv [Value.int .i64 (j : Nat)] 0 = .int .i64 (j : Nat) := rfl
  unfold M.d.j3
  simp only [ib, g0]
  have T3 := T2.jt ((Fr.refl _ w2).dr 1)
  by_cases hja : a < j
  ·have hS1 : 0 < S1.length := by omega
   obtain ⟨S1', y, rfl⟩ : ∃ S1' y, S1 = S1' ++ [y] := ⟨S1.dropLast, S1.getLast (List.ne_nil_of_length_pos hS1), (List.dropLast_concat_getLast _).symm⟩
   have hja' : (a : Int) < (j : Int) := by omega
   simp only [List.length_append, List.length_singleton] at hj hl12
   have ej : j - 1 = X.length + S1'.length := by omega
   have eL : X ++ (S1' ++ [y] ++ x :: S2) ++ (Q' ++ Y) = (X ++ S1') ++ y :: ([] ++ x :: (S2 ++ (Q' ++ Y))) := by simp
   have eL2 : X ++ (S1' ++ x :: (y :: S2)) ++ (Q' ++ Y) = (X ++ S1') ++ x :: ([] ++ y :: (S2 ++ (Q' ++ Y))) := by simp
   have j1 : j < (X ++ (S1' ++ [y] ++ x :: S2) ++ (Q' ++ Y)).length := by simp; omega
   have j2 : j - 1 < (X ++ (S1' ++ [y] ++ x :: S2) ++ (Q' ++ Y)).length := by omega
   have r1 : (X ++ (S1' ++ [y] ++ x :: S2) ++ (Q' ++ Y))[j] = x := by
    have hjj : j = (X ++ S1' ++ [y]).length := by simp; omega
    have e : X ++ (S1' ++ [y] ++ x :: S2) ++ (Q' ++ Y) = (X ++ S1' ++ [y]) ++ x :: (S2 ++ (Q' ++ Y)) := by simp
    simp only [e, hjj]
    simp
   have r2 : (X ++ (S1' ++ [y] ++ x :: S2) ++ (Q' ++ Y))[j - 1] = y := by
    have hjj : j - 1 = (X ++ S1').length := by simp; omega
    have e : X ++ (S1' ++ [y] ++ x :: S2) ++ (Q' ++ Y) = (X ++ S1') ++ y :: (x :: S2 ++ (Q' ++ Y)) := by simp
    simp only [e, hjj]
    simp
   have d1 := amx T3 j1
   have d2 := amx T3 j2
   rw [r1] at d1
   rw [r2] at d2
   have i1 := fun w K => vm (g := g) (cap := cap) (show j < n by omega) w K
   have i2 := fun w K => vm (g := g) (cap := cap) (show j - 1 < n by omega) w K
   have hw := ayu (x := j) (by omega) (by omega)
   have b1 : (j : Int) < n := by omega
   have b2 : ((j - 1 : Nat) : Int) < n := by omega
   simp [hja, hja', hw, i1, i2, b1, b2, d1, d2]
   refine anb T3 x y fun w4 T4 => ?_
   by_cases hc : leS y x
   ·have hlt : ¬ xv x y < 0 := fun hh => vu.1 hh hc
    simp [hlt]
    refine done _ _ ?_ T4
    have h12 := List.pairwise_append.1 hs12
    refine List.pairwise_append.2 ⟨h12.1, List.pairwise_cons.2 ⟨hle, h12.2.1⟩, fun c hcm q hq => ?_⟩
    rcases List.mem_cons.1 hq with rfl | hq
    ·rcases List.mem_append.1 hcm with hcm | hcm
     ·exact ((List.pairwise_append.1 h12.1).2.2 c hcm y (by simp)).trans hc
     ·rw [List.mem_singleton.1 hcm]; exact hc
    ·exact h12.2.2 c hcm q hq
   ·have hlt : xv x y < 0 := vu.2 hc
    simp [hlt]
    unfold M.d.j4
    have T5 := T4.jt ((Fr.refl _ w4).dr 1)
    have d1 := amx T5 j1
    have d2 := amx T5 j2
    rw [r1] at d1
    rw [r2] at d2
    simp [hw, i1, i2, b1, b2, d1, d2]
    refine aaa T5 j1 y fun w6 T6 => ?_
    refine aaa T6 (by simpa using j2) x fun w7 T7 => ?_
    have e : ((X ++ (S1' ++ [y] ++ x :: S2) ++ (Q' ++ Y)).set j y).set (j - 1) x = X ++ (S1' ++ x :: (y :: S2)) ++ (Q' ++ Y) := by
     have := axd (X ++ S1') [] (S2 ++ (Q' ++ Y)) y x (l := X ++ (S1' ++ [y] ++ x :: S2) ++ (Q' ++ Y)) (i := j - 1) (j := j) eL (by simp; omega) (by simp; omega) j2 j1
     unfold azg at this
     rw [r1, r2] at this
     rw [eL2, ← this, List.set_comm _ _ (by omega)]
    rw [e] at T7
    refine ⟨⟨j - 1, S1', y :: S2, rfl, by omega, ha, by simpa using hs12, fun z hz => ?_, by simpa using hp12, T7⟩, by simp [ms, gv]; omega⟩
    rcases List.mem_cons.1 hz with rfl | hz
    ·exact leS.of hc
    ·exact hle z hz
  ·have hja' : ¬ (a : Int) < (j : Int) := by omega
   have hS1 : S1 = [] := List.length_eq_zero_iff.1 (by omega)
   subst hS1
   simp [hja, hja']
   have := done (.int .i64 (j : Nat)) _ (List.pairwise_cons.2 ⟨hle, by simpa using hs12⟩) T3
   simpa using this
 ·have hib' : ¬ (i : Int) < b := by omega
  have hQ : Q = [] := List.length_eq_zero_iff.1 (by omega)
  subst hQ
  simp only [hib', decide_false, Eng.cond_false]
  exact h w1 S0 hS (by simpa using hp) (by simpa using T1)
end
set_option maxRecDepth 100000
theorem akn {P Q R : List Spn} {x y : Spn} {L : List Spn} {i j : Nat} (hL : L = P ++ x :: (Q ++ y :: R)) (hi : i = P.length) (hj : j = P.length + 1 + Q.length) :
  ∃ (h1 : i < L.length) (h2 : j < L.length), L[i] = x ∧ L[j] = y ∧ (L.set i y).set j x = P ++ y :: (Q ++ x :: R) ∧ (L.set j x).set i y = P ++ y :: (Q ++ x :: R) := by
 have h1 : i < L.length := by rw [hL]; simp; omega
 have h2 : j < L.length := by rw [hL]; simp; omega
 have e1 : L[i] = x := by simp only [hL, hi]; simp
 have e2 : L[j] = y := by
  have e : P ++ x :: (Q ++ y :: R) = (P ++ x :: Q) ++ y :: R := by simp
  have ej : j = (P ++ x :: Q).length := by simp; omega
  simp only [hL, e, ej]
  simp
 have h3 := axd P Q R x y hL hi hj h1 h2
 unfold azg at h3
 rw [e1, e2] at h3
 exact ⟨h1, h2, e1, e2, h3, by rw [List.set_comm _ _ (by omega)]; exact h3⟩
def bpf (w0 : World) (g n cap : Nat) (X A Mi B Y : List Spn) (R : List Asn) : KL := fun v w1 => ∃ (i : Nat), v = [.int .i64 (i : Nat)] ∧ i ≤ A.length ∧ St w0 w1 (lh (vS g n cap) (X ++ (B.take i ++ A.drop i) ++ Mi ++ (A.take i ++ B.drop i) ++ Y) :: R)
section
variable {w0 w : World} {R : List Asn} {g n cap : Nat} {X A Mi B Y U V : List Spn}
theorem vr {l : List Spn} (S : St w0 w (lh (vS g n cap) l :: R)) {i : Nat} (hi : i < l.length) {x : Spn} (e : l[i] = x) (K : KV) : ldN P 8 g (i * 8) w K = K (ko x) w := by rw [← e]; exact amx S hi K
theorem atr {a b k : Nat} (S : St w0 w (lh (vS g n cap) (X ++ A ++ Mi ++ B ++ Y) :: R)) (hn : n < 100000) (ha : X.length = a) (hA : A.length = k) (hB : B.length = k) (hb : b = a + k + Mi.length) {K : KV}
  (h : ∀ w', St w0 w' (lh (vS g n cap) (X ++ B ++ Mi ++ A ++ Y) :: R) → K (.tuple #[]) w') : gr P F.am [vS g n cap, .int .i64 (a : Nat), .int .i64 (b : Nat), .int .i64 (k : Nat), CF] w K := by
 have hlen := ut S
 simp only [List.length_append] at hlen
 rw [M.ad.fcall]
 apply M.ad.calls
 unfold M.ad
 refine ⟨bpf w0 g n cap X A Mi B Y R, fun v _ => k - ms v 0, ⟨0, rfl, Nat.zero_le _, by simpa using S⟩, ?_⟩
 rintro v w1 ⟨i, rfl, hi, T1⟩
 have g0 : gv [Value.int .i64 (i : Nat)] 0 = .int .i64 (i : Nat) := rfl
 simp only [ib, g0, lw]
 by_cases hik : i < k
 ·have hik' : (i : Int) < k := by omega
  simp only [hik', decide_true, Eng.cond_true]
  unfold M.ad.j1
  have hA' : A.drop i = A[i] :: A.drop (i + 1) := List.drop_eq_getElem_cons (by omega)
  have hB' : B.drop i = B[i] :: B.drop (i + 1) := List.drop_eq_getElem_cons (by omega)
  have eL : X ++ (B.take i ++ A.drop i) ++ Mi ++ (A.take i ++ B.drop i) ++ Y = (X ++ B.take i) ++ A[i] :: ((A.drop (i + 1) ++ Mi ++ A.take i) ++ B[i] :: (B.drop (i + 1) ++ Y)) := by rw [hA', hB']; simp only [List.append_assoc, List.cons_append]
  have eR : (X ++ B.take i) ++ B[i] :: ((A.drop (i + 1) ++ Mi ++ A.take i) ++ A[i] :: (B.drop (i + 1) ++ Y)) = X ++ (B.take (i + 1) ++ A.drop (i + 1)) ++ Mi ++ (A.take (i + 1) ++ B.drop (i + 1)) ++ Y := by
   rw [List.take_add_one, List.take_add_one, List.getElem?_eq_getElem (show i < A.length by omega), List.getElem?_eq_getElem (show i < B.length by omega)]
   simp only [Option.toList_some, List.append_assoc, List.cons_append, List.nil_append]
  rw [eL] at T1
  have T2 := T1.jt ((Fr.refl _ w1).dr 1)
  obtain ⟨h1, h2, e1, e2, e3, _⟩ := akn (L := (X ++ B.take i) ++ A[i] :: ((A.drop (i + 1) ++ Mi ++ A.take i) ++ B[i] :: (B.drop (i + 1) ++ Y))) (i := a + i) (j := b + i) rfl (by simp; omega) (by simp; omega)
  have d1 := vr T2 h1 e1
  have d2 := vr T2 h2 e2
  have i1 := fun w K => vm (g := g) (cap := cap) (show a + i < n by omega) w K
  have i2 := fun w K => vm (g := g) (cap := cap) (show b + i < n by omega) w K
  have w1' := wra (x := a) (y := i) (by omega)
  have w2' := wra (x := b) (y := i) (by omega)
  have b1 : ((a + i : Nat) : Int) < n := by omega
  have b2 : ((b + i : Nat) : Int) < n := by omega
  simp [-Int.natCast_add, g0, w1', w2', i1, i2, b1, b2, d1, d2]
  refine aaa T2 h1 B[i] fun w3 T3 => ?_
  refine aaa T3 (by rw [List.length_set]; exact h2) A[i] fun w4 T4 => ?_
  rw [e3, eR] at T4
  simp only [kz, wr1 (show i < 1000000 by omega)]
  exact ⟨⟨i + 1, rfl, by omega, T4⟩, by simp [ms, gv]; omega⟩
 ·have hik' : ¬ (i : Int) < k := by omega
  have hik2 : i = k := by omega
  simp only [hik', decide_false, Eng.cond_false]
  refine h w1 ?_
  subst hik2
  have q1 : B.take i = B := List.take_of_length_le (by omega)
  have q2 : A.drop i = [] := List.drop_of_length_le (by omega)
  have q3 : A.take i = A := List.take_of_length_le (by omega)
  have q4 : B.drop i = [] := List.drop_of_length_le (by omega)
  rw [q1, q2, q3, q4] at T1
  simpa using T1
def bqc (w0 : World) (g n cap m : Nat) (G : List Spn) (R : List Asn) : KL := fun v w1 => ∃ (i j : Nat) (X U V Y : List Spn), v = [.int .i64 (i : Nat), .int .i64 (j : Nat)] ∧ U.length = i ∧ V.length = j ∧ X.length + i = m ∧ 0 < i ∧ 0 < j ∧ G = X ++ V ++ U ++ Y ∧ St w0 w1 (lh (vS g n cap) (X ++ U ++ V ++ Y) :: R)
theorem bnu {a m b : Nat} (S : St w0 w (lh (vS g n cap) (X ++ U ++ V ++ Y) :: R)) (hn : n < 100000) (ha : X.length = a) (hm : a + U.length = m) (hb : m + V.length = b) (hU : U ≠ []) (hV : V ≠ []) {K : KV}
  (h : ∀ w', St w0 w' (lh (vS g n cap) (X ++ V ++ U ++ Y) :: R) → K (.tuple #[]) w') : gr P F.bk [vS g n cap, .int .i64 (a : Nat), .int .i64 (m : Nat), .int .i64 (b : Nat), CF] w K := by
 have hlen := ut S
 simp only [List.length_append] at hlen
 have hU' := List.length_pos_iff.2 hU
 have hV' := List.length_pos_iff.2 hV
 rw [M.ah.fcall]
 apply M.ah.calls
 unfold M.ah
 simp only [lz, wrm (show a ≤ m by omega) (show m < 1000000 by omega), wrm (show m ≤ b by omega) (show b < 1000000 by omega), ib]
 generalize hG : X ++ V ++ U ++ Y = G at h
 refine ⟨bqc w0 g n cap m G R, fun v _ => ms v 0 + ms v 1, ⟨m - a, b - m, X, U, V, Y, rfl, by omega, by omega, by omega, by omega, by omega, hG.symm, S⟩, ?_⟩
 clear hG S ha hm hb hU hV hU' hV' hlen
 rintro v w1 ⟨i, j, X, U, V, Y, rfl, hU, hV, hX, hi, hj, hG, T1⟩
 have hlen := ut T1
 simp only [List.length_append] at hlen
 have g0 : gv [Value.int .i64 (i : Nat), .int .i64 (j : Nat)] 0 = .int .i64 (i : Nat) := rfl
 have g1 : gv [Value.int .i64 (i : Nat), .int .i64 (j : Nat)] 1 = .int .i64 (j : Nat) := rfl
 have wmi := wrm (show i ≤ m by omega) (show m < 1000000 by omega)
 simp only [g0, g1, ajv]
 by_cases hij : i = j
 ·subst hij
  simp only [ne_eq, not_true_eq_false, decide_false, Eng.cond_false, lz, wmi]
  have T2 : St w0 w1 (lh (vS g n cap) (X ++ U ++ [] ++ V ++ Y) :: R) := by simpa using T1
  refine atr (a := m - i) (b := m) (k := i) T2 hn (by omega) hU (by omega) (by simp; omega) fun w2 T3 => ?_
  refine h w2 ?_
  rw [hG]
  simpa using T3
 ·have hij' : ¬ (i : Int) = j := by omega
  simp only [ne_eq, hij', not_false_eq_true, decide_true, Eng.cond_true]
  unfold M.ah.j2
  simp only [g0, g1, si, lz, kz, wmi]
  by_cases hgt : j < i
  ·have hgt' : (j : Int) < i := by omega
   simp only [hgt', decide_true, Eng.cond_true]
   have eU : U = U.take j ++ U.drop j := (List.take_append_drop j U).symm
   have T2 : St w0 w1 (lh (vS g n cap) (X ++ U.take j ++ U.drop j ++ V ++ Y) :: R) := by
    rw [show X ++ U.take j ++ U.drop j = X ++ U from by rw [List.append_assoc, List.take_append_drop]]
    exact T1
   refine atr T2 hn (show X.length = m - i by omega) (by rw [List.length_take]; omega) hV (by rw [List.length_drop]; omega) fun w2 T3 => ?_
   simp only [wrm (show j ≤ i by omega) (show i < 1000000 by omega)]
   refine ⟨⟨i - j, j, X ++ V, U.drop j, U.take j, Y, rfl, by rw [List.length_drop]; omega, by rw [List.length_take]; omega, by rw [List.length_append]; omega, by omega, hj, ?_, by simpa using T3⟩, by simp [ms, gv]; omega⟩
   rw [hG]
   conv => lhs; rw [eU]
   simp
  ·have hgt' : ¬ (j : Int) < i := by omega
   simp only [hgt', decide_false, Eng.cond_false]
   have eV : V = V.take (j - i) ++ V.drop (j - i) := (List.take_append_drop _ V).symm
   have T2 : St w0 w1 (lh (vS g n cap) (X ++ U ++ V.take (j - i) ++ V.drop (j - i) ++ Y) :: R) := by
    rw [show X ++ U ++ V.take (j - i) ++ V.drop (j - i) = X ++ U ++ V from by rw [List.append_assoc, List.take_append_drop]]
    exact T1
   simp only [wra (show m + j < 1000000 by omega), wrm (show i ≤ m + j by omega) (show m + j < 1000000 by omega)]
   refine atr T2 hn (show X.length = m - i by omega) hU (by rw [List.length_drop]; omega) (by rw [List.length_take]; omega) fun w2 T3 => ?_
   simp only [wrm (show i ≤ j by omega) (show j < 1000000 by omega)]
   refine ⟨⟨i, j - i, X, V.drop (j - i), V.take (j - i), U ++ Y, rfl, by rw [List.length_drop]; omega, by rw [List.length_take]; omega, hX, hi, by omega, ?_, by simpa using T3⟩, by simp [ms, gv]; omega⟩
   rw [hG]
   conv => lhs; rw [eV]
   simp
end
section
variable {w : World} {K : KV}
theorem hf1 {x : Nat} (h : x < 1000000) (w : World) (K : KV) : cvT P T.c T.ba (.int .i64 (x : Nat)) w K = K (.int .u64 (x : Nat)) w := by rw [pj (ks := .i64) (kd := .u64) (by kernel_rfl) (by kernel_rfl), ace (by omega)]
theorem hf3 {x : Nat} (h : x < 1000000) (w : World) (K : KV) : cvT P T.ba T.c (.int .u64 (x : Nat)) w K = K (.int .i64 (x : Nat)) w := by rw [pj (ks := .u64) (kd := .i64) (by kernel_rfl) (by kernel_rfl), alx (by omega)]
theorem hf2 {x : Nat} (h : x < 1000000) {t : TypeId} {rx ry : Operand} (w : World) (K : KV) : ij P .shr t rx ry (.int .u64 (x : Nat)) (.int .u64 1) w K = K (.int .u64 ((x / 2 : Nat) : Int)) w := by
 rw [aco (by omega)]
 have e : min (1 : Int).toNat IntKind.u64.bits = 1 := by decide
 rw [e, aje, Nat.pow_one]
end
def S1I (w0 : World) (m : Nat) (B : List Spn) (x : Spn) (L : List Asn) : KL := fun v w1 => ∃ (u : Value) (p q : Nat), v = [u, .int .i64 ((m + p : Nat) : Int), .int .i64 ((m + q : Nat) : Int)] ∧ p ≤ q ∧ q ≤ B.length ∧ (p = 0 ∨ ∃ h : p - 1 < B.length, leS B[p - 1] x) ∧ (q = B.length ∨ ∃ h : q < B.length, leS x B[q]) ∧ St w0 w1 L
def S4I (w0 : World) (g n cap a : Nat) (X B Y : List Spn) (x : Spn) (p : Nat) (R : List Asn) : KL := fun v w1 => ∃ (t : Nat), v = [.int .i64 ((a + t : Nat) : Int)] ∧ t ≤ p ∧ St w0 w1 (lh (vS g n cap) (X ++ (B.take t ++ x :: B.drop t) ++ Y) :: R)
def S3I (w0 : World) (s0 r0 N a m : Nat) (A B : List Spn) (L : List Asn) : KL := fun v w1 => ∃ (u : Value) (s r : Nat), v = [u, .int .i64 (s : Nat), .int .i64 (r : Nat)] ∧ s0 ≤ s ∧ s ≤ r ∧ r ≤ r0 ∧ (s = s0 ∨ ∃ (h1 : s - 1 - a < A.length) (h2 : N - s - m < B.length), leS A[s - 1 - a] B[N - s - m]) ∧ (r = r0 ∨ ∃ (h1 : N - 1 - r - m < B.length) (h2 : r - a < A.length), leS B[N - 1 - r - m] A[r - a]) ∧ St w0 w1 L
section
variable {w0 w : World} {R : List Asn} {g n cap : Nat} {X A B Y : List Spn}
theorem aot {X B Y : List Spn} {m i : Nat} (hX : X.length = m) (hi : i < B.length) : ∃ h : m + i < (X ++ B ++ Y).length, (X ++ B ++ Y)[m + i] = B[i] := by
 refine ⟨by simp; omega, ?_⟩
 have h1 : m + i < (X ++ B).length := by simp; omega
 rw [List.getElem_append_left h1, List.getElem_append_right (by omega)]
 simp only [hX, Nat.add_sub_cancel_left]
theorem bld {a m b : Nat} {x : Spn} (S : St w0 w (lh (vS g n cap) (X ++ [x] ++ B ++ Y) :: R)) (hn : n < 100000) (ha : X.length = a) (hm : a + 1 = m) (hb : m + B.length = b) (hB : oy B) {K : KV}
  (h : ∀ w' C, oy C → C.Perm (x :: B) → St w0 w' (lh (vS g n cap) (X ++ C ++ Y) :: R) → K (.tuple #[]) w') : gr P F.k [vS g n cap, .int .i64 (a : Nat), .int .i64 (m : Nat), .int .i64 (b : Nat), CF] w K := by
 have hlen := ut S
 simp only [List.length_append, List.length_singleton] at hlen
 rw [M.a.fcall]
 apply M.a.calls
 unfold M.a
 have e1 : ((m - a : Nat) : Int) = 1 := by omega
 simp only [lz, wrm (show a ≤ m by omega) (show m < 1000000 by omega), ib, ur, e1, decide_true, Eng.cond_true]
 refine ⟨S1I w0 m B x (lh (vS g n cap) (X ++ [x] ++ B ++ Y) :: R), fun v _ => ms v 2 - ms v 1, ⟨undef, 0, B.length, by simp [hb], Nat.zero_le _, Nat.le_refl _, .inl rfl, .inl rfl, S⟩, ?_⟩
 rintro v w1 ⟨u, p, q, rfl, hpq, hq, h1, h2, T1⟩
 have g1 : gv [u, Value.int .i64 ((m + p : Nat) : Int), .int .i64 ((m + q : Nat) : Int)] 1 = .int .i64 ((m + p : Nat) : Int) := rfl
 have g2 : gv [u, Value.int .i64 ((m + p : Nat) : Int), .int .i64 ((m + q : Nat) : Int)] 2 = .int .i64 ((m + q : Nat) : Int) := rfl
 simp only [g1, g2, lw]
 by_cases hlt : p < q
 ·have hlt' : ((m + p : Nat) : Int) < ((m + q : Nat) : Int) := by omega
  simp only [hlt', decide_true, Eng.cond_true]
  unfold M.a.j3
  have es : m + p + (m + q) = 2 * m + (p + q) := by omega
  have eh : (m + p + (m + q)) / 2 = m + (p + q) / 2 := by omega
  have hc : (p + q) / 2 < B.length := by omega
  have w1' := wra (x := m + p) (y := m + q) (by omega)
  simp only [g1, g2, kz, w1', hf1 (show m + p + (m + q) < 1000000 by omega), hf2 (show m + p + (m + q) < 1000000 by omega), hf3 (show (m + p + (m + q)) / 2 < 1000000 by omega)]
  rw [eh]
  generalize hh : (p + q) / 2 = c at *
  have T2 := T1.jt ((Fr.refl _ w1).dr 1)
  obtain ⟨k1, q1⟩ := aot (X := X ++ [x]) (B := B) (Y := Y) (m := m) (by simp; omega) hc
  obtain ⟨k2, q2⟩ := aot (X := X) (B := [x]) (Y := B ++ Y) (m := a) (i := 0) ha (by simp)
  have eL : X ++ [x] ++ (B ++ Y) = X ++ [x] ++ B ++ Y := by simp
  simp only [eL, Nat.add_zero, List.getElem_cons_zero] at k2 q2
  have d1 := vr T2 k1 q1
  have d2 := vr T2 k2 q2
  have i1 := fun w K => vm (g := g) (cap := cap) (show m + c < n by omega) w K
  have i2 := fun w K => vm (g := g) (cap := cap) (show a < n by omega) w K
  have b1 : ((m + c : Nat) : Int) < n := by omega
  have b2 : (a : Int) < n := by omega
  simp [-Int.natCast_add, i1, i2, b1, b2, d1, d2]
  refine anb T2 B[c] x fun w3 T3 => ?_
  by_cases hle : leS x B[c]
  ·have hno : ¬ xv B[c] x < 0 := fun hh => vu.1 hh hle
   simp [hno, -Int.natCast_add]
   refine ⟨⟨_, p, c, rfl, by omega, by omega, h1, .inr ⟨hc, hle⟩, by simpa using T3⟩, by simp [ms, gv]; omega⟩
  ·have hyes : xv B[c] x < 0 := vu.2 hle
   simp [hyes, -Int.natCast_add]
   rw [wr1 (by omega)]
   refine ⟨⟨_, c + 1, q, rfl, by omega, hq, .inr ⟨by omega, ?_⟩, h2, by simpa using T3⟩, by simp [ms, gv]; omega⟩
   simp only [Nat.add_sub_cancel]
   exact leS.of hle
 ·have hlt' : ¬ ((m + p : Nat) : Int) < ((m + q : Nat) : Int) := by omega
  have hpe : p = q := by omega
  subst hpe
  simp only [hlt', decide_false, Eng.cond_false]
  have T1' : St w0 w1 (lh (vS g n cap) (X ++ (B.take 0 ++ x :: B.drop 0) ++ Y) :: R) := by simpa using T1
  refine ⟨S4I w0 g n cap a X B Y x p R, fun v _ => m + p - ms v 0, ⟨0, by simp, Nat.zero_le _, T1'⟩, ?_⟩
  rintro v w2 ⟨t, rfl, ht, T2⟩
  have g0 : gv [Value.int .i64 ((a + t : Nat) : Int)] 0 = .int .i64 ((a + t : Nat) : Int) := rfl
  have g1' : gv [u, Value.int .i64 ((m + p : Nat) : Int), .int .i64 ((m + p : Nat) : Int)] 1 = .int .i64 ((m + p : Nat) : Int) := rfl
  have gu : gv [u, Value.int .i64 ((m + p : Nat) : Int), .int .i64 ((m + p : Nat) : Int)] 0 = u := rfl
  have g2' : gv [u, Value.int .i64 ((m + p : Nat) : Int), .int .i64 ((m + p : Nat) : Int)] 2 = .int .i64 ((m + p : Nat) : Int) := rfl
  unfold M.a.j5
  simp only [ib, g0, gu, g1', g2', lz, ayu (show 1 ≤ m + p by omega) (show m + p < 1000000 by omega), lw]
  by_cases htp : t < p
  ·have htp' : ((a + t : Nat) : Int) < ((m + p - 1 : Nat) : Int) := by omega
   simp only [htp', decide_true, Eng.cond_true]
   unfold M.a.j6
   have hd : B.drop t = B[t] :: B.drop (t + 1) := List.drop_eq_getElem_cons (by omega)
   have eL : X ++ (B.take t ++ x :: B.drop t) ++ Y = (X ++ B.take t) ++ x :: ([] ++ B[t] :: (B.drop (t + 1) ++ Y)) := by rw [hd]; simp only [List.append_assoc, List.cons_append, List.nil_append]
   have eR : (X ++ B.take t) ++ B[t] :: ([] ++ x :: (B.drop (t + 1) ++ Y)) = X ++ (B.take (t + 1) ++ x :: B.drop (t + 1)) ++ Y := by
    rw [List.take_add_one, List.getElem?_eq_getElem (show t < B.length by omega)]
    simp only [Option.toList_some, List.append_assoc, List.cons_append, List.nil_append]
   rw [eL] at T2
   have T3 := T2.jt ((Fr.refl _ w2).dr 1)
   obtain ⟨h1', h2', e1', e2', e3', _⟩ := akn (L := (X ++ B.take t) ++ x :: ([] ++ B[t] :: (B.drop (t + 1) ++ Y))) (i := a + t) (j := a + t + 1) rfl (by simp; omega) (by simp; omega)
   have d1 := vr T3 h1' e1'
   have d2 := vr T3 h2' e2'
   have i1 := fun w K => vm (g := g) (cap := cap) (show a + t < n by omega) w K
   have i2 := fun w K => vm (g := g) (cap := cap) (show a + t + 1 < n by omega) w K
   have hw := wr1 (x := a + t) (by omega)
   have b1 : ((a + t : Nat) : Int) < n := by omega
   have b2 : ((a + t + 1 : Nat) : Int) < n := by omega
   simp [-Int.natCast_add, g0, hw, i1, i2, b1, b2, d1, d2]
   refine aaa T3 h1' B[t] fun w4 T4 => ?_
   refine aaa T4 (by rw [List.length_set]; exact h2') x fun w5 T5 => ?_
   rw [e3', eR] at T5
   refine ⟨⟨t + 1, rfl, by omega, T5⟩, by simp [ms, gv]; omega⟩
  ·have htp' : ¬ ((a + t : Nat) : Int) < ((m + p - 1 : Nat) : Int) := by omega
   have hte : t = p := by omega
   subst hte
   simp only [htp', decide_false, Eng.cond_false]
   exact h w2 _ (aky hB hq h1 h2) (aku B x t) T2
end
def S2I (w0 : World) (a : Nat) (A : List Spn) (y : Spn) (L : List Asn) : KL := fun v w1 => ∃ (u : Value) (p q : Nat), v = [u, .int .i64 ((a + p : Nat) : Int), .int .i64 ((a + q : Nat) : Int)] ∧ p ≤ q ∧ q ≤ A.length ∧ (p = 0 ∨ ∃ h : p - 1 < A.length, leS A[p - 1] y) ∧ (q = A.length ∨ ∃ h : q < A.length, leS y A[q]) ∧ St w0 w1 L
def S5I (w0 : World) (g n cap a : Nat) (X A Y : List Spn) (y : Spn) (p : Nat) (R : List Asn) : KL := fun v w1 => ∃ (t : Nat), v = [.int .i64 ((a + t : Nat) : Int)] ∧ p ≤ t ∧ t ≤ A.length ∧ St w0 w1 (lh (vS g n cap) (X ++ (A.take t ++ y :: A.drop t) ++ Y) :: R)
section
variable {w0 w : World} {R : List Asn} {g n cap : Nat} {X A B Y : List Spn}
theorem bks {a m b : Nat} {y : Spn} (S : St w0 w (lh (vS g n cap) (X ++ A ++ [y] ++ Y) :: R)) (hn : n < 100000) (ha : X.length = a) (hm : a + A.length = m) (hb : m + 1 = b) (hA : oy A) (hne : A.length ≠ 1) {K : KV}
  (h : ∀ w' C, oy C → C.Perm (y :: A) → St w0 w' (lh (vS g n cap) (X ++ C ++ Y) :: R) → K (.tuple #[]) w') : gr P F.k [vS g n cap, .int .i64 (a : Nat), .int .i64 (m : Nat), .int .i64 (b : Nat), CF] w K := by
 have hlen := ut S
 simp only [List.length_append, List.length_singleton] at hlen
 rw [M.a.fcall]
 apply M.a.calls
 unfold M.a
 have e0 : ¬ ((m - a : Nat) : Int) = 1 := by omega
 have e1 : ((b - m : Nat) : Int) = 1 := by omega
 simp only [lz, wrm (show a ≤ m by omega) (show m < 1000000 by omega), ib, ur, e0, decide_false, Eng.cond_false]
 unfold M.a.j0
 simp only [lz, wrm (show m ≤ b by omega) (show b < 1000000 by omega), ib, ur, e1, decide_true, Eng.cond_true]
 refine ⟨S2I w0 a A y (lh (vS g n cap) (X ++ A ++ [y] ++ Y) :: R), fun v _ => ms v 2 - ms v 1, ⟨undef, 0, A.length, by simp [hm], Nat.zero_le _, Nat.le_refl _, .inl rfl, .inl rfl, S⟩, ?_⟩
 rintro v w1 ⟨u, p, q, rfl, hpq, hq, h1, h2, T1⟩
 have g1 : gv [u, Value.int .i64 ((a + p : Nat) : Int), .int .i64 ((a + q : Nat) : Int)] 1 = .int .i64 ((a + p : Nat) : Int) := rfl
 have g2 : gv [u, Value.int .i64 ((a + p : Nat) : Int), .int .i64 ((a + q : Nat) : Int)] 2 = .int .i64 ((a + q : Nat) : Int) := rfl
 simp only [g1, g2, lw]
 by_cases hlt : p < q
 ·have hlt' : ((a + p : Nat) : Int) < ((a + q : Nat) : Int) := by omega
  simp only [hlt', decide_true, Eng.cond_true]
  unfold M.a.j11
  have eh : (a + p + (a + q)) / 2 = a + (p + q) / 2 := by omega
  have hc : (p + q) / 2 < A.length := by omega
  have w1' := wra (x := a + p) (y := a + q) (by omega)
  simp only [g1, g2, kz, w1', hf1 (show a + p + (a + q) < 1000000 by omega), hf2 (show a + p + (a + q) < 1000000 by omega), hf3 (show (a + p + (a + q)) / 2 < 1000000 by omega)]
  rw [eh]
  generalize hh : (p + q) / 2 = c at *
  have T2 := T1.jt ((Fr.refl _ w1).dr 1)
  obtain ⟨k1, q1⟩ := aot (X := X) (B := A) (Y := [y] ++ Y) (m := a) ha hc
  obtain ⟨k2, q2⟩ := aot (X := X ++ A) (B := [y]) (Y := Y) (m := m) (i := 0) (by simp; omega) (by simp)
  have eL : X ++ A ++ ([y] ++ Y) = X ++ A ++ [y] ++ Y := by simp
  simp only [eL] at k1 q1
  simp only [Nat.add_zero, List.getElem_cons_zero] at k2 q2
  have d1 := vr T2 k1 q1
  have d2 := vr T2 k2 q2
  have i1 := fun w K => vm (g := g) (cap := cap) (show a + c < n by omega) w K
  have i2 := fun w K => vm (g := g) (cap := cap) (show m < n by omega) w K
  have b1 : ((a + c : Nat) : Int) < n := by omega
  have b2 : (m : Int) < n := by omega
  simp [-Int.natCast_add, i1, i2, b1, b2, d1, d2]
  refine anb T2 y A[c] fun w3 T3 => ?_
  by_cases hle : leS A[c] y
  ·have hno : ¬ xv y A[c] < 0 := fun hh => vu.1 hh hle
   simp [hno, -Int.natCast_add]
   rw [wr1 (by omega)]
   refine ⟨⟨_, c + 1, q, rfl, by omega, hq, .inr ⟨by omega, ?_⟩, h2, by simpa using T3⟩, by simp [ms, gv]; omega⟩
   simp only [Nat.add_sub_cancel]
   exact hle
  ·have hyes : xv y A[c] < 0 := vu.2 hle
   simp [hyes, -Int.natCast_add]
   refine ⟨⟨_, p, c, rfl, by omega, by omega, h1, .inr ⟨hc, leS.of hle⟩, by simpa using T3⟩, by simp [ms, gv]; omega⟩
 ·have hlt' : ¬ ((a + p : Nat) : Int) < ((a + q : Nat) : Int) := by omega
  have hpe : p = q := by omega
  subst hpe
  simp only [hlt', decide_false, Eng.cond_false]
  unfold M.a.j9
  simp only [ib]
  have T1' : St w0 w1 (lh (vS g n cap) (X ++ (A.take A.length ++ y :: A.drop A.length) ++ Y) :: R) := by simpa using T1
  refine ⟨S5I w0 g n cap a X A Y y p R, fun v _ => ms v 0, ⟨A.length, by rw [hm], hq, Nat.le_refl _, T1'⟩, ?_⟩
  rintro v w2 ⟨t, rfl, ht, htA, T2⟩
  have g0 : gv [Value.int .i64 ((a + t : Nat) : Int)] 0 = .int .i64 ((a + t : Nat) : Int) := rfl
  have g1' : gv [u, Value.int .i64 ((a + p : Nat) : Int), .int .i64 ((a + p : Nat) : Int)] 1 = .int .i64 ((a + p : Nat) : Int) := rfl
  have gu : gv [u, Value.int .i64 ((a + p : Nat) : Int), .int .i64 ((a + p : Nat) : Int)] 0 = u := rfl
  have g2' : gv [u, Value.int .i64 ((a + p : Nat) : Int), .int .i64 ((a + p : Nat) : Int)] 2 = .int .i64 ((a + p : Nat) : Int) := rfl
  simp only [g0, gu, g1', g2', si]
  by_cases htp : p < t
  ·have htp' : ((a + p : Nat) : Int) < ((a + t : Nat) : Int) := by omega
   simp only [htp', decide_true, Eng.cond_true]
   unfold M.a.j14
   obtain ⟨t, rfl⟩ : ∃ t', t = t' + 1 := ⟨t - 1, by omega⟩
   have hd : A.drop t = A[t] :: A.drop (t + 1) := List.drop_eq_getElem_cons (by omega)
   have eL : X ++ (A.take (t + 1) ++ y :: A.drop (t + 1)) ++ Y = (X ++ A.take t) ++ A[t] :: ([] ++ y :: (A.drop (t + 1) ++ Y)) := by
    rw [List.take_add_one, List.getElem?_eq_getElem (show t < A.length by omega)]
    simp only [Option.toList_some, List.append_assoc, List.cons_append, List.nil_append]
   have eR : (X ++ A.take t) ++ y :: ([] ++ A[t] :: (A.drop (t + 1) ++ Y)) = X ++ (A.take t ++ y :: A.drop t) ++ Y := by rw [hd]; simp only [List.append_assoc, List.cons_append, List.nil_append]
   rw [eL] at T2
   have T3 := T2.jt ((Fr.refl _ w2).dr 1)
   obtain ⟨h1', h2', e1', e2', _, e3'⟩ := akn (L := (X ++ A.take t) ++ A[t] :: ([] ++ y :: (A.drop (t + 1) ++ Y))) (i := a + t) (j := a + (t + 1)) rfl (by simp; omega) (by simp; omega)
   have d1 := vr T3 h1' e1'
   have d2 := vr T3 h2' e2'
   have i1 := fun w K => vm (g := g) (cap := cap) (show a + t < n by omega) w K
   have i2 := fun w K => vm (g := g) (cap := cap) (show a + (t + 1) < n by omega) w K
   have hw : IntKind.i64.wrap (((a + (t + 1) : Nat) : Int) - 1) = ((a + t : Nat) : Int) := by rw [ayu (by omega) (by omega)]; congr 1
   have b1 : ((a + t : Nat) : Int) < n := by omega
   have b2 : ((a + (t + 1) : Nat) : Int) < n := by omega
   simp [-Int.natCast_add, g0, hw, i1, i2, b1, b2, d1, d2]
   refine aaa T3 h2' A[t] fun w4 T4 => ?_
   refine aaa T4 (by rw [List.length_set]; exact h1') y fun w5 T5 => ?_
   rw [e3', eR] at T5
   refine ⟨⟨t, rfl, by omega, by omega, T5⟩, by simp [ms, gv]; omega⟩
  ·have htp' : ¬ ((a + p : Nat) : Int) < ((a + t : Nat) : Int) := by omega
   have hte : t = p := by omega
   subst hte
   simp only [htp', decide_false, Eng.cond_false]
   exact h w2 _ (aky hA hq h1 h2) (aku A y t) T2
set_option maxHeartbeats 1000000 in
theorem bbu : ∀ (d : Nat) {w : World} {X A B Y : List Spn} {a m b : Nat} (_ : St w0 w (lh (vS g n cap) (X ++ A ++ B ++ Y) :: R)) (_ : A.length + B.length ≤ d) (_ : n < 100000) (_ : X.length = a) (_ : a + A.length = m) (_ : m + B.length = b) (_ : 0 < A.length) (_ : 0 < B.length) (_ : oy A) (_ : oy B) {K : KV}
  (_ : ∀ w' C, oy C → C.Perm (A ++ B) → St w0 w' (lh (vS g n cap) (X ++ C ++ Y) :: R) → K (.tuple #[]) w'), gr P F.k [vS g n cap, .int .i64 (a : Nat), .int .i64 (m : Nat), .int .i64 (b : Nat), CF] w K := by
 intro d
 induction d with
 | zero => intro w X A B Y a m b S hd hn ha hm hb hA0 hB0; omega
 | succ d ih =>
 intro w X A B Y a m b S hd hn ha hm hb hA0 hB0 hA hB K h
 have hlen := ut S
 simp only [List.length_append] at hlen
 by_cases hA1 : A.length = 1
 ·obtain ⟨x, rfl⟩ := List.length_eq_one_iff.1 hA1
  exact bld S hn ha hm hb hB fun w' C c1 c2 S' => h w' C c1 (by simpa using c2) S'
 by_cases hB1 : B.length = 1
 ·obtain ⟨y, rfl⟩ := List.length_eq_one_iff.1 hB1
  exact bks S hn ha hm hb hA hA1 fun w' C c1 c2 S' => h w' C c1 (c2.trans (List.perm_append_comm (l₁ := [y]) (l₂ := A))) S'
 rw [M.a.fcall]
 apply M.a.calls
 unfold M.a
 have e0 : ¬ ((m - a : Nat) : Int) = 1 := by omega
 have e1 : ¬ ((b - m : Nat) : Int) = 1 := by omega
 simp only [lz, wrm (show a ≤ m by omega) (show m < 1000000 by omega), ib, ur, e0, decide_false, Eng.cond_false]
 unfold M.a.j0
 simp only [lz, wrm (show m ≤ b by omega) (show b < 1000000 by omega), ib, ur, e1, decide_false, Eng.cond_false]
 unfold M.a.j8
 simp only [kz, wra (show a + b < 1000000 by omega), hf1 (show a + b < 1000000 by omega), hf2 (show a + b < 1000000 by omega), hf3 (show (a + b) / 2 < 1000000 by omega), ib, si]
 generalize hmid : (a + b) / 2 = mid
 simp only [wra (show mid + m < 1000000 by omega)]
 generalize hN : mid + m = N
 -- behind the choice of the search's bounds
 have main : ∀ (s0 r0 : Nat), s0 ≤ r0 → a ≤ s0 → r0 ≤ m → r0 ≤ mid → N ≤ s0 + b → (s0 = a ∨ s0 + b = N) → (r0 = mid ∨ r0 = m) → M.a.j16 (.int .i64 (N : Nat)) [.int .i64 (s0 : Nat), .int .i64 (r0 : Nat)] (vS g n cap) CF (.int .i64 (m : Nat)) (.int .i64 (a : Nat)) (.int .i64 (mid : Nat)) (.int .i64 (b : Nat)) w K := by
  intro s0 r0 hsr has hrm hrmid hNs hs0 hr0
  unfold M.a.j16
  have gs0 : gv [Value.int .i64 (s0 : Nat), .int .i64 (r0 : Nat)] 0 = .int .i64 (s0 : Nat) := rfl
  have gs1 : gv [Value.int .i64 (s0 : Nat), .int .i64 (r0 : Nat)] 1 = .int .i64 (r0 : Nat) := rfl
  simp only [lz, ayu (show 1 ≤ N by omega) (show N < 1000000 by omega), ib, gs0, gs1]
  refine ⟨S3I w0 s0 r0 N a m A B (lh (vS g n cap) (X ++ A ++ B ++ Y) :: R), fun v _ => ms v 2 - ms v 1, ⟨_, s0, r0, rfl, Nat.le_refl _, hsr, Nat.le_refl _, .inl rfl, .inl rfl, S⟩, ?_⟩
  rintro v w1 ⟨u, s, r, rfl, q1, q2, q3, c1, c2, T1⟩
  have g1 : gv [u, Value.int .i64 (s : Nat), .int .i64 (r : Nat)] 1 = .int .i64 (s : Nat) := rfl
  have g2 : gv [u, Value.int .i64 (s : Nat), .int .i64 (r : Nat)] 2 = .int .i64 (r : Nat) := rfl
  simp only [g1, g2, lw]
  by_cases hlt : s < r
  ·have hlt' : (s : Int) < (r : Int) := by omega
   simp only [hlt', decide_true, Eng.cond_true]
   unfold M.a.j19
   simp only [g1, g2, kz, wra (show s + r < 1000000 by omega), hf1 (show s + r < 1000000 by omega), hf2 (show s + r < 1000000 by omega), hf3 (show (s + r) / 2 < 1000000 by omega)]
   generalize hcc : (s + r) / 2 = c
   have T2 := T1.jt ((Fr.refl _ w1).dr 1)
   have hcA : c - a < A.length := by omega
   have hcB : N - 1 - c - m < B.length := by omega
   obtain ⟨k1, x1⟩ := aot (X := X) (B := A) (Y := B ++ Y) (m := a) ha hcA
   obtain ⟨k2, x2⟩ := aot (X := X ++ A) (B := B) (Y := Y) (m := m) (by simp; omega) hcB
   have eL : X ++ A ++ (B ++ Y) = X ++ A ++ B ++ Y := by simp
   have ec : a + (c - a) = c := by omega
   have ep : m + (N - 1 - c - m) = N - 1 - c := by omega
   simp only [eL, ec] at k1 x1
   simp only [ep] at k2 x2
   have d1 := vr T2 k1 x1
   have d2 := vr T2 k2 x2
   have i1 := fun w K => vm (g := g) (cap := cap) (show c < n by omega) w K
   have i2 := fun w K => vm (g := g) (cap := cap) (show N - 1 - c < n by omega) w K
   have hw := wrm (show c ≤ N - 1 by omega) (show N - 1 < 1000000 by omega)
   have b1 : (c : Int) < n := by omega
   have b2 : ((N - 1 - c : Nat) : Int) < n := by omega
   simp [-Int.natCast_add, hw, i1, i2, b1, b2, d1, d2]
   refine anb T2 B[N - 1 - c - m] A[c - a] fun w3 T3 => ?_
   by_cases hle : leS A[c - a] B[N - 1 - c - m]
   ·have hno : ¬ xv B[N - 1 - c - m] A[c - a] < 0 := fun hh => vu.1 hh hle
    simp [hno, -Int.natCast_add]
    rw [wr1 (by omega)]
    refine ⟨⟨_, c + 1, r, rfl, by omega, by omega, q3, .inr ?_, c2, by simpa using T3⟩, by simp [ms, gv]; omega⟩
    have e1 : c + 1 - 1 - a = c - a := by omega
    have e2 : N - (c + 1) - m = N - 1 - c - m := by omega
    simp only [e1, e2]
    exact ⟨hcA, hcB, hle⟩
   ·have hyes : xv B[N - 1 - c - m] A[c - a] < 0 := vu.2 hle
    simp [hyes, -Int.natCast_add]
    exact ⟨⟨_, s, c, rfl, q1, by omega, by omega, c1, .inr ⟨hcB, hcA, leS.of hle⟩, by simpa using T3⟩, by simp [ms, gv]; omega⟩
  ·have hlt' : ¬ (s : Int) < (r : Int) := by omega
   have hse : r = s := by omega
   subst hse
   simp only [hlt', decide_false, Eng.cond_false]
   unfold M.a.j17
   have he := wrm (show r ≤ N by omega) (show N < 1000000 by omega)
   have g1' : gv [u, Value.int .i64 (r : Nat), .int .i64 (r : Nat)] 1 = .int .i64 (r : Nat) := rfl
   have gu : gv [u, Value.int .i64 (r : Nat), .int .i64 (r : Nat)] 0 = u := rfl
   have g2' : gv [u, Value.int .i64 (r : Nat), .int .i64 (r : Nat)] 2 = .int .i64 (r : Nat) := rfl
   simp only [gu, g1', g2', lz, he, ib, lw]
   -- the ii
   have htA : r - a ≤ A.length := by omega
   have htB : mid - r ≤ B.length := by omega
   have f1 : r - a = 0 ∨ mid - r = B.length ∨ ∃ (h1 : r - a - 1 < A.length) (h2 : mid - r < B.length), leS A[r - a - 1] B[mid - r] := by
    rcases c1 with hh | ⟨k1, k2, hh⟩
    ·rcases hs0 with h0 | h0
     ·exact .inl (by omega)
     ·exact .inr (.inl (by omega))
    ·have e1 : r - 1 - a = r - a - 1 := by omega
     have e2 : N - r - m = mid - r := by omega
     simp only [e1, e2] at k1 k2 hh
     exact .inr (.inr ⟨k1, k2, hh⟩)
   have f2 : mid - r = 0 ∨ r - a = A.length ∨ ∃ (h1 : mid - r - 1 < B.length) (h2 : r - a < A.length), leS B[mid - r - 1] A[r - a] := by
    rcases c2 with hh | ⟨k1, k2, hh⟩
    ·rcases hr0 with h0 | h0
     ·exact .inl (by omega)
     ·exact .inr (.inl (by omega))
    ·have e1 : N - 1 - r - m = mid - r - 1 := by omega
     simp only [e1] at k1 hh
     exact .inr (.inr ⟨k1, k2, hh⟩)
   have lA1 : (A.take (r - a)).length = r - a := by rw [List.length_take]; omega
   have lA2 : (A.drop (r - a)).length = m - r := by rw [List.length_drop]; omega
   have lB1 : (B.take (mid - r)).length = mid - r := by rw [List.length_take]; omega
   have lB2 : (B.drop (mid - r)).length = b - (N - r) := by rw [List.length_drop]; omega
   have hA1' := hA.sublist (List.take_sublist (r - a) A)
   have hA2' := hA.sublist (List.drop_sublist (r - a) A)
   have hB1' := hB.sublist (List.take_sublist (mid - r) B)
   have hB2' := hB.sublist (List.drop_sublist (mid - r) B)
   have fin : ∀ (C1 : List Spn) w2, oy C1 → C1.Perm (A.take (r - a) ++ B.take (mid - r)) → St w0 w2 (lh (vS g n cap) (X ++ C1 ++ A.drop (r - a) ++ B.drop (mid - r) ++ Y) :: R) →
     M.a.j21 (.int .i64 (mid : Nat)) (.int .i64 ((N - r : Nat) : Int)) (.int .i64 (b : Nat)) (vS g n cap) CF w2 K := by
    intro C1 w2 z1 z2 T2
    have hl1 := z2.length_eq
    rw [List.length_append, lA1, lB1] at hl1
    have mf : ∀ (C2 : List Spn) w3, oy C2 → C2.Perm (A.drop (r - a) ++ B.drop (mid - r)) → St w0 w3 (lh (vS g n cap) (X ++ C1 ++ C2 ++ Y) :: R) → K (.tuple #[]) w3 := fun C2 w3 y1 y2 T3 => by
     obtain ⟨r1, r2⟩ := akf hA hB htA htB f1 f2 z1 z2 y1 y2
     exact h w3 (C1 ++ C2) r1 r2 (by simpa using T3)
    unfold M.a.j21
    by_cases u1 : mid < N - r
    ·have u1' : (mid : Int) < ((N - r : Nat) : Int) := by omega
     by_cases u2 : N - r < b
     ·have u2' : ((N - r : Nat) : Int) < (b : Int) := by omega
      simp [u1', u2', -Int.natCast_add]
      have T3 : St w0 w2 (lh (vS g n cap) ((X ++ C1) ++ A.drop (r - a) ++ B.drop (mid - r) ++ Y) :: R) := T2
      refine ih T3 (by omega) hn (by rw [List.length_append]; omega) (by omega) (by omega) (by omega) (by omega) hA2' hB2' fun w3 C2 y1 y2 T4 => ?_
      exact mf C2 w3 y1 y2 T4
     ·have u2' : ¬ ((N - r : Nat) : Int) < (b : Int) := by omega
      simp [u1', u2', -Int.natCast_add]
      have e : B.drop (mid - r) = [] := List.length_eq_zero_iff.1 (by omega)
      rw [e] at T2 mf
      exact mf (A.drop (r - a)) w2 hA2' (by simp) (by simpa using T2)
    ·have u1' : ¬ (mid : Int) < ((N - r : Nat) : Int) := by omega
     simp [u1', -Int.natCast_add]
     have e : A.drop (r - a) = [] := List.length_eq_zero_iff.1 (by omega)
     rw [e] at T2 mf
     exact mf (B.drop (mid - r)) w2 hB2' (by simp) (by simpa using T2)
   have mid1 : ∀ w2, St w0 w2 (lh (vS g n cap) (X ++ A.take (r - a) ++ B.take (mid - r) ++ (A.drop (r - a) ++ B.drop (mid - r) ++ Y)) :: R) →
     M.a.j20 (.int .i64 (a : Nat)) [u, .int .i64 (r : Nat), .int .i64 (r : Nat)] (.int .i64 (mid : Nat)) (vS g n cap) CF (.int .i64 ((N - r : Nat) : Int)) (.int .i64 (b : Nat)) w2 K := by
    intro w2 T2
    unfold M.a.j20
    simp only [g1']
    by_cases u1 : a < r
    ·have u1' : (a : Int) < (r : Int) := by omega
     by_cases u2 : r < mid
     ·have u2' : (r : Int) < (mid : Int) := by omega
      simp [u1', u2', u1, u2]
      refine ih T2 (by omega) hn ha (by omega) (by omega) (by omega) (by omega) hA1' hB1' fun w3 C1 y1 y2 T4 => ?_
      exact fin C1 w3 y1 y2 (by simp only [List.append_assoc] at T4 ⊢; exact T4)
     ·have u2' : ¬ (r : Int) < (mid : Int) := by omega
      simp [u1', u2', u1, u2]
      have e : B.take (mid - r) = [] := List.length_eq_zero_iff.1 (by omega)
      rw [e] at T2 fin
      exact fin (A.take (r - a)) w2 hA1' (by simp) (by simp only [List.append_nil, List.nil_append, List.append_assoc] at T2 ⊢; exact T2)
    ·have u1' : ¬ (a : Int) < (r : Int) := by omega
     simp [u1', u1]
     have e : A.take (r - a) = [] := List.length_eq_zero_iff.1 (by omega)
     rw [e] at T2 fin
     exact fin (B.take (mid - r)) w2 hB1' (by simp) (by simp only [List.append_nil, List.nil_append, List.append_assoc] at T2 ⊢; exact T2)
   have eA : A = A.take (r - a) ++ A.drop (r - a) := (List.take_append_drop _ A).symm
   have eB : B = B.take (mid - r) ++ B.drop (mid - r) := (List.take_append_drop _ B).symm
   have T2 : St w0 w1 (lh (vS g n cap) ((X ++ A.take (r - a)) ++ A.drop (r - a) ++ B.take (mid - r) ++ (B.drop (mid - r) ++ Y)) :: R) := by
    have e : (X ++ A.take (r - a)) ++ A.drop (r - a) ++ B.take (mid - r) ++ (B.drop (mid - r) ++ Y) = X ++ A ++ B ++ Y := by
     have e : (X ++ A.take (r - a)) ++ A.drop (r - a) ++ B.take (mid - r) ++ (B.drop (mid - r) ++ Y) = X ++ (A.take (r - a) ++ A.drop (r - a)) ++ (B.take (mid - r) ++ B.drop (mid - r)) ++ Y := by simp only [List.append_assoc]
     rw [e, List.take_append_drop, List.take_append_drop]
    rw [e]; exact T1
   by_cases u1 : r < m
   ·have u1' : (r : Int) < (m : Int) := by omega
    by_cases u2 : m < N - r
    ·have u2' : (m : Int) < ((N - r : Nat) : Int) := by omega
     simp [u1', u2', u1, -Int.natCast_add]
     refine bnu T2 hn (by rw [List.length_append]; omega) (by omega) (by omega) (fun e => by rw [e] at lA2; simp at lA2; omega) (fun e => by rw [e] at lB1; simp at lB1; omega) fun w2 T3 => ?_
     exact mid1 w2 (by simp only [List.append_assoc] at T3 ⊢; exact T3)
    ·have u2' : ¬ (m : Int) < ((N - r : Nat) : Int) := by omega
     simp [u1', u2', u1, -Int.natCast_add]
     have e : B.take (mid - r) = [] := List.length_eq_zero_iff.1 (by omega)
     rw [e] at T2 mid1
     exact mid1 w1 (by simp only [List.append_nil, List.nil_append, List.append_assoc] at T2 ⊢; exact T2)
   ·have u1' : ¬ (r : Int) < (m : Int) := by omega
    simp [u1', u1, -Int.natCast_add]
    have e : A.drop (r - a) = [] := List.length_eq_zero_iff.1 (by omega)
    rw [e] at T2 mid1
    exact mid1 w1 (by simp only [List.append_nil, List.nil_append, List.append_assoc] at T2 ⊢; exact T2)
 by_cases hgt : mid < m
 ·have hgt' : (mid : Int) < (m : Int) := by omega
  simp only [hgt', decide_true, Eng.cond_true, lz, wrm (show b ≤ N by omega) (show N < 1000000 by omega)]
  exact main (N - b) mid (by omega) (by omega) (by omega) (Nat.le_refl _) (by omega) (.inr (by omega)) (.inl rfl)
 ·have hgt' : ¬ (mid : Int) < (m : Int) := by omega
  simp only [hgt', decide_false, Eng.cond_false]
  exact main a m (by omega) (Nat.le_refl _) (Nat.le_refl _) (by omega) (by omega) (.inl rfl) (.inr rfl)
end
def Blk (k : Nat) (Ls : List (List Spn)) : Prop := ∀ s ∈ Ls, s.length = k ∧ oy s
theorem afs {k : Nat} : ∀ {Ls : List (List Spn)}, Blk k Ls → Ls.flatten.length = Ls.length * k
 | [], _ => by simp
 | s :: r, h => by
  rw [List.flatten_cons, List.length_append, (h s (by simp)).1, afs (Ls := r) fun x hx => h x (List.mem_cons_of_mem _ hx), List.length_cons, Nat.add_mul]
  omega
theorem atj {k : Nat} {Ls : List (List Spn)} (h : Blk k Ls) {s : List Spn} (h1 : s.length = k) (h2 : oy s) : Blk k (Ls ++ [s]) := fun x hx => by
 rcases List.mem_append.1 hx with hx | hx
 ·exact h x hx
 ·rw [List.mem_singleton.1 hx]; exact ⟨h1, h2⟩
def bpv (w0 : World) (g n cap : Nat) (l : List Spn) (R : List Asn) : KL := fun v w1 => ∃ (a : Nat) (Ps : List (List Spn)) (Q : List Spn), v = [.int .i64 (a : Nat), .int .i64 ((a + 20 : Nat) : Int)] ∧ a = Ps.length * 20 ∧ Blk 20 Ps ∧ (Ps.flatten ++ Q).Perm l ∧ St w0 w1 (lh (vS g n cap) (Ps.flatten ++ Q) :: R)
def bpd (w0 : World) (g n cap : Nat) (l : List Spn) (R : List Asn) : KL := fun v w1 => ∃ (u0 u1 u2 : Value) (k : Nat) (Ls : List (List Spn)) (z : List Spn), v = [u0, u1, u2, .int .i64 (k : Nat)] ∧ 20 ≤ k ∧ Blk k Ls ∧ z.length < k ∧ oy z ∧ (Ls.flatten ++ z).Perm l ∧ St w0 w1 (lh (vS g n cap) (Ls.flatten ++ z) :: R)
def bpr (w0 : World) (g n cap k : Nat) (l : List Spn) (R : List Asn) : KL := fun v w1 => ∃ (a : Nat) (Ps Ls : List (List Spn)) (z : List Spn), v = [.int .i64 (a : Nat), .int .i64 ((a + 2 * k : Nat) : Int)] ∧ a = Ps.length * (2 * k) ∧ a ≤ n ∧ Blk (2 * k) Ps ∧ Blk k Ls ∧ z.length < k ∧ oy z ∧ (Ps.flatten ++ (Ls.flatten ++ z)).Perm l ∧ St w0 w1 (lh (vS g n cap) (Ps.flatten ++ (Ls.flatten ++ z)) :: R)
section
variable {w0 w : World} {R : List Asn} {g n cap : Nat} {l : List Spn}
theorem bbo (S : St w0 w (lh (vS g n cap) l :: R)) (hn : n < 100000) {k : Nat} (hk : k < n) (hk20 : 20 ≤ k) {Ls : List (List Spn)} {z : List Spn} (e : l = Ls.flatten ++ z) (hL : Blk k Ls) (hz : z.length < k) (hza : oy z) {u0 u1 u2 : Value} {K : KV} {K3 : KL}
  (h : ∀ w' y0 y1 y2 Ls z, Blk (2 * k) Ls → z.length < 2 * k → oy z → (Ls.flatten ++ z).Perm l → St w0 w' (lh (vS g n cap) (Ls.flatten ++ z) :: R) → K3 [y0, y1, y2, .int .i64 ((2 * k : Nat) : Int)] w') : M.c.j4 [u0, u1, u2, .int .i64 (k : Nat)] (.int .i64 (n : Nat)) (vS g n cap) CF K3 w K := by
 have hlen := ut S
 unfold M.c.j4
 have g3 : gv [u0, u1, u2, Value.int .i64 (k : Nat)] 3 = .int .i64 (k : Nat) := rfl
 have wm : IntKind.i64.wrap (2 * (k : Int)) = ((2 * k : Nat) : Int) := by rw [ig]; omega
 have wm' : IntKind.i64.wrap ((k : Int) * 2) = ((2 * k : Nat) : Int) := by rw [ig]; omega
 simp only [g3, vx, wm, ib]
 refine ⟨bpr w0 g n cap k l R, fun v _ => n + 2 * k - ms v 1, ⟨0, [], Ls, z, by simp, by simp, Nat.zero_le _, fun s hs => by simp at hs, hL, hz, hza, by rw [e]; simp, by rw [List.flatten_nil, List.nil_append, ← e]; exact S⟩, ?_⟩
 rintro v w1 ⟨a, Ps, Ls, z, rfl, ha, han, hP, hL, hz, hza, hp, T1⟩
 have hlen2 := ut T1
 have lP := afs hP
 have lL := afs hL
 simp only [List.length_append, lP, lL] at hlen2
 have g0 : gv [Value.int .i64 (a : Nat), .int .i64 ((a + 2 * k : Nat) : Int)] 0 = .int .i64 (a : Nat) := rfl
 have g1 : gv [Value.int .i64 (a : Nat), .int .i64 ((a + 2 * k : Nat) : Int)] 1 = .int .i64 ((a + 2 * k : Nat) : Int) := rfl
 simp only [g1, acu]
 by_cases hb : a + 2 * k ≤ n
 ·have hb' : ((a + 2 * k : Nat) : Int) ≤ n := by omega
  simp only [hb', decide_true, Eng.cond_true]
  unfold M.c.j7
  simp only [g0, g1, g3, kz, wra (show a + k < 1000000 by omega)]
  obtain ⟨s, t, Ls', rfl⟩ : ∃ s t Ls', Ls = s :: t :: Ls' := by
   match Ls with
   | [] => simp at hlen2; omega
   | [s] => simp at hlen2; omega
   | s :: t :: r => exact ⟨s, t, r, rfl⟩
  obtain ⟨s1, s2⟩ := hL s (by simp)
  obtain ⟨t1, t2⟩ := hL t (by simp)
  have eL : Ps.flatten ++ ((s :: t :: Ls').flatten ++ z) = Ps.flatten ++ s ++ t ++ (Ls'.flatten ++ z) := by simp
  rw [eL] at T1 hp
  refine bbu (g := g) (n := n) (cap := cap) _ T1 (Nat.le_refl _) hn (by omega) (by omega) (by omega) (by omega) (by omega) s2 t2 fun w2 C c1 c2 T2 => ?_
  have wb : IntKind.i64.wrap (((a + 2 * k : Nat) : Int) + ((2 * k : Nat) : Int)) = ((a + 2 * k + 2 * k : Nat) : Int) := wra (by omega)
  simp only [vx, wm, kz, wb]
  have hCl := c2.length_eq
  rw [List.length_append] at hCl
  refine ⟨⟨a + 2 * k, Ps ++ [C], Ls', z, rfl, by rw [List.length_append, List.length_singleton, Nat.add_mul, ha]; omega, by omega, atj hP (by omega) c1, fun x hx => hL x (by simp [hx]), hz, hza, ?_, by simpa using T2⟩, by simp [ms, gv]; omega⟩
  refine List.Perm.trans ?_ hp
  have e1 : (Ps ++ [C]).flatten ++ (Ls'.flatten ++ z) = Ps.flatten ++ C ++ (Ls'.flatten ++ z) := by simp
  have e2 : Ps.flatten ++ s ++ t ++ (Ls'.flatten ++ z) = Ps.flatten ++ (s ++ t) ++ (Ls'.flatten ++ z) := by simp
  rw [e1, e2]
  exact List.Perm.append_right _ (List.Perm.append_left _ c2)
 ·have hb' : ¬ ((a + 2 * k : Nat) : Int) ≤ n := by omega
  simp only [hb', decide_false, Eng.cond_false]
  unfold M.c.j5
  simp only [ib, g0, g3, kz, wra (show a + k < 1000000 by omega), lw]
  by_cases hm : a + k < n
  ·have hm' : ((a + k : Nat) : Int) < n := by omega
   simp only [hm', decide_true, Eng.cond_true]
   obtain ⟨s, rfl⟩ : ∃ s, Ls = [s] := by
    match Ls with
    | [] => simp at hlen2; omega
    | [s] => exact ⟨s, rfl⟩
    | s :: t :: r => simp only [List.length_cons, Nat.add_mul] at hlen2; omega
   obtain ⟨s1, s2⟩ := hL s (by simp)
   simp only [List.length_singleton, Nat.one_mul] at hlen2
   have eL : Ps.flatten ++ ([s].flatten ++ z) = Ps.flatten ++ s ++ z ++ [] := by simp
   rw [eL] at T1 hp
   refine bbu (g := g) (n := n) (cap := cap) _ T1 (Nat.le_refl _) hn (by omega) (by omega) (by omega) (by omega) (by omega) s2 hza fun w2 C c1 c2 T2 => ?_
   simp only [vx, wm']
   have hCl := c2.length_eq
   rw [List.length_append] at hCl
   refine h w2 _ _ _ Ps C hP (by omega) c1 ?_ (by simpa using T2)
   refine List.Perm.trans ?_ hp
   have e2 : Ps.flatten ++ s ++ z ++ [] = Ps.flatten ++ (s ++ z) := by simp
   rw [e2]
   exact List.Perm.append_left _ c2
  ·have hm' : ¬ ((a + k : Nat) : Int) < n := by omega
   simp only [hm', decide_false, Eng.cond_false, vx, wm']
   match Ls, hL, lL, hlen2, hp, T1 with
   | [], hL, lL, hlen2, hp, T1 => exact h w1 _ _ _ Ps z hP (by omega) hza (by simpa using hp) (by simpa using T1)
   | [s], hL, lL, hlen2, hp, T1 =>
    obtain ⟨s1, s2⟩ := hL s (by simp)
    simp only [List.length_singleton, Nat.one_mul] at hlen2
    have hz0 : z = [] := List.length_eq_zero_iff.1 (by omega)
    subst hz0
    exact h w1 _ _ _ Ps s hP (by omega) s2 (by simpa using hp) (by simpa using T1)
   | s :: t :: r, hL, lL, hlen2, hp, T1 => simp only [List.length_cons, Nat.add_mul] at hlen2; omega
theorem bca (S : St w0 w (lh (vS g n cap) l :: R)) (hn : n < 100000) {K : KV}
  (h : ∀ w' l', oy l' → l'.Perm l → St w0 w' (lh (vS g n cap) l' :: R) → K (.tuple #[]) w') : gr P F.bj [vS g n cap, .int .i64 (n : Nat), CF] w K := by
 rw [M.c.fcall]
 apply M.c.calls
 unfold M.c
 simp only [ib]
 refine ⟨bpv w0 g n cap l R, fun v _ => n + 20 - ms v 1, ⟨0, [], l, by simp, rfl, fun s hs => by simp at hs, by simp, by simpa using S⟩, ?_⟩
 rintro v w1 ⟨a, Ps, Q, rfl, ha, hP, hp, T1⟩
 have hlen2 := ut T1
 have lP := afs hP
 simp only [List.length_append, lP] at hlen2
 have g0 : gv [Value.int .i64 (a : Nat), .int .i64 ((a + 20 : Nat) : Int)] 0 = .int .i64 (a : Nat) := rfl
 have g1 : gv [Value.int .i64 (a : Nat), .int .i64 ((a + 20 : Nat) : Int)] 1 = .int .i64 ((a + 20 : Nat) : Int) := rfl
 unfold M.c.j1
 simp only [ib, g0, g1, acu]
 by_cases hb : a + 20 ≤ n
 ·have hb' : ((a + 20 : Nat) : Int) ≤ n := by omega
  simp only [hb', decide_true, Eng.cond_true]
  have eQ : Ps.flatten ++ Q = Ps.flatten ++ Q.take 20 ++ Q.drop 20 := by rw [List.append_assoc, List.take_append_drop]
  rw [eQ] at T1 hp
  have lQ : (Q.take 20).length = 20 := by rw [List.length_take]; omega
  refine bei (a := a) (b := a + 20) T1 hn (by omega) (by omega) fun w2 C c1 c2 T2 => ?_
  have hw : IntKind.i64.wrap (((a + 20 : Nat) : Int) + 20) = ((a + 20 + 20 : Nat) : Int) := by rw [ig]; omega
  simp only [kz, hw]
  have hCl := c2.length_eq
  refine ⟨⟨a + 20, Ps ++ [C], Q.drop 20, rfl, by rw [List.length_append, List.length_singleton, Nat.add_mul, ha], atj hP (by omega) c1, ?_, by simpa using T2⟩, by simp [ms, gv]; omega⟩
  refine List.Perm.trans ?_ hp
  have e1 : (Ps ++ [C]).flatten ++ Q.drop 20 = Ps.flatten ++ C ++ Q.drop 20 := by simp
  rw [e1]
  exact List.Perm.append_right _ (List.Perm.append_left _ c2)
 ·have hb' : ¬ ((a + 20 : Nat) : Int) ≤ n := by omega
  simp only [hb', decide_false, Eng.cond_false]
  unfold M.c.j0
  have T1' : St w0 w1 (lh (vS g n cap) (Ps.flatten ++ Q ++ []) :: R) := by simpa using T1
  simp only [g0, g1]
  refine bei (a := a) (b := n) T1' hn (by omega) (by omega) fun w2 C c1 c2 T2 => ?_
  have hCl := c2.length_eq
  refine ⟨bpd w0 g n cap l R, fun v _ => n - ms v 3, ⟨_, _, _, 20, Ps, C, rfl, Nat.le_refl _, hP, by omega, c1, (List.Perm.append_left _ c2).trans hp, by simpa using T2⟩, ?_⟩
  rintro v w3 ⟨u0, u1, u2, k, Ls, z, rfl, hk20, hL, hz, hza, hp3, T3⟩
  have g3 : gv [u0, u1, u2, Value.int .i64 (k : Nat)] 3 = .int .i64 (k : Nat) := rfl
  simp only [ib, g3, lw]
  by_cases hkn : k < n
  ·have hkn' : (k : Int) < n := by omega
   simp only [hkn', decide_true, Eng.cond_true]
   refine bbo T3 hn hkn hk20 rfl hL hz hza fun w4 y0 y1 y2 Ls' z' b1 b2 b3 b4 T4 => ?_
   exact ⟨⟨y0, y1, y2, 2 * k, Ls', z', rfl, by omega, b1, b2, b3, b4.trans hp3, T4⟩, by simp [ms, gv]; omega⟩
  ·have hkn' : ¬ (k : Int) < n := by omega
   simp only [hkn', decide_false, Eng.cond_false]
   have hlen3 := ut T3
   have lL := afs hL
   simp only [List.length_append, lL] at hlen3
   refine h w3 _ ?_ hp3 T3
   match Ls, hL, hlen3 with
   | [], _, _ => simpa using hza
   | [s], hL, hlen3 =>
    obtain ⟨s1, s2⟩ := hL s (by simp)
    simp only [List.length_singleton, Nat.one_mul] at hlen3
    have hz0 : z = [] := List.length_eq_zero_iff.1 (by omega)
    subst hz0
    simpa using s2
   | s :: t :: r, hL, hlen3 => simp only [List.length_cons, Nat.add_mul] at hlen3; omega
theorem aoz {v : Value} (S : St w0 w R) (hs : SlS w v l) (hlen : l.length ≤ 1000000) {K : KV} (h : ∀ w' v', St w0 w' (lh v' l :: R) → K v' w') : gr P F.h [v] w K := by
 rw [M.j.fcall]
 apply M.j.calls
 unfold M.j
 simp only [ib]
 have hs' := hs
 obtain ⟨a, cap, rfl, _⟩ := hs'
 cases a with
 | none =>
  simp
  have hz : l = [] := by
   obtain ⟨a', cap', hv, _, _, h3⟩ := hs
   cases l with
   | nil => rfl
   | cons x l =>
    obtain ⟨b, o, ha, _⟩ := h3 0 x rfl
    injection hv with h1 _ _
    rw [← h1] at ha; cases ha
  subst hz
  exact h w _ (Eng.pw S)
 | some a =>
  simp
  have S1 : St w0 (w.alloc (.cells #[] T.e)) (lh (.slice (some ⟨w.heap.size, 0, none⟩) 0 0) [] :: R) := St.su (l := ([] : List Spn)) S lk rfl (by simp)
  refine Go.Eng.qj et.b lk og S1 (hs.fr ((Fr.refl (fun _ => False) w).alloc _) fun _ _ _ h => h) (by simp; omega) (by decide) fun w2 v2 S2 => ?_
  exact h w2 v2 S2
theorem bio {v : Value} (S : St w0 w R) (hs : SlS w v l) (hne : l ≠ []) (hlen : l.length < 100000) {K : KV} (h : ∀ w' v' l', oy l' → l'.Perm l → St w0 w' (lh v' l' :: R) → K v' w') : gr P F.fo [v] w K := by
 rw [M.fe.fcall]
 apply M.fe.calls
 unfold M.fe
 refine aoz S hs (by omega) fun w1 v1 S1 => ?_
 obtain ⟨b, cap, cur, rfl, _⟩ := S1.aoo (k := 0) (List.length_pos_iff.2 hne)
 rw [M.an.fcall]
 apply M.an.calls
 unfold M.an
 have hl : ∀ w' K, biT P .len #[T.b] T.c [false] [vS b l.length cap] w' K = K (.int .i64 l.length) w' := fun w' K => (S1.row lk : SlS w1 _ l).jb (by kernel_rfl) [false]
 rw [hl]
 refine bca S1 hlen fun w2 l' c1 c2 S2 => ?_
 exact h w2 _ l' c1 c2 S2
end
abbrev TC := Int × Nat × Nat
abbrev trB (tb mr : Nat) (b : Bal) : Asn := iq tb #[.map (some mr), .int .u64 b.n, .int .u64 b.jl] T.ar
def tcA (es : List EnS) (c : TC) : Asn := qm [trB c.2.1 c.2.2 (bOf es c.1), jy c.2.2 .u64 (qf (nh es c.1))]
def mmE (cs : List TC) : MP := cs.map fun c => (c.1, jx c.2.1)
abbrev lr (es : List EnS) (cs : List TC) : Asn := qm (cs.map (tcA es))
def nw (q hb : Nat) (es : List EnS) (L : Lg) (dn : Bool) : Asn where
 ok w B := ∃ p r cs, cs.map (·.1) = mq es ∧ Rs [lc q hb p r dn, jy r .u64 (mmE cs), lr es cs, nb p hb L] w B
 ke := by
  rintro w w' B S ⟨p, r, cs, h1, h2⟩ hf hn
  exact ⟨p, r, cs, h1, h2.ke hf hn⟩
theorem asf : ∀ {m : MP} {k : Int} {v : Value}, (kj m).Nodup → (k, v) ∈ m → mn m k = some v
 | [], _, _, _, h => by simp at h
 | (y, u) :: m, k, v, hn, h => by
  show (if y = k then some u else mn m k) = some v
  simp only [kj, List.map_cons, List.nodup_cons] at hn
  rcases List.mem_cons.1 h with h | h
  ·cases h; simp
  ·by_cases hy : y = k
   ·exact absurd (List.mem_map.2 ⟨_, h, hy.symm⟩) hn.1
   ·rw [if_neg hy]; exact asf hn.2 h
theorem anv (cs : List TC) : kj (mmE cs) = cs.map (·.1) := by unfold kj mmE; rw [List.map_map]; rfl
theorem ajl {cs : List TC} {t : Int} (h : t ∉ cs.map (·.1)) : mn (mmE cs) t = none := (ahe _ _).2 (by rw [anv]; exact h)
theorem ajd {cs : List TC} (hn : (cs.map (·.1)).Nodup) {j : Nat} (hj : j < cs.length) : mn (mmE cs) cs[j].1 = some (jx cs[j].2.1) :=
 asf (by rw [anv]; exact hn) (List.mem_map.2 ⟨cs[j], List.getElem_mem hj, rfl⟩)
section
variable {w0 w : World} {R : List Asn} {q hb p r : Nat} {es : List EnS} {L : Lg} {dn : Bool} {cs : List TC} {x : Spn} {b : Bal}
theorem amc (S : St w0 w (nw q hb es L dn :: R)) : ∃ p r cs, cs.map (·.1) = mq es ∧ St w0 w (lc q hb p r dn :: jy r .u64 (mmE cs) :: lr es cs :: nb p hb L :: R) := by
 obtain ⟨B, ⟨p, r, cs, h1, h2⟩, _, cl⟩ := S.open
 exact ⟨p, r, cs, h1, cl w [lc q hb p r dn, jy r .u64 (mmE cs), lr es cs, nb p hb L] (Fr.refl _ _) (h2.mono fun b hb => .inl hb)⟩
theorem aqm (h : cs.map (·.1) = mq es) (S : St w0 w (lc q hb p r dn :: jy r .u64 (mmE cs) :: lr es cs :: nb p hb L :: R)) : St w0 w (nw q hb es L dn :: R) := by
 obtain ⟨U, h4, _, g⟩ := St.acb (L := [lc q hb p r dn, jy r .u64 (mmE cs), lr es cs, nb p hb L]) (R := R) S
 exact g w [nw q hb es L dn] (Fr.refl _ _) ⟨U, ⟨p, r, cs, h, h4⟩, fun b hb => .inl hb, trivial⟩
theorem avn (b : Bal) {c : TC} (h : x.iu ≠ c.1) : tcA (es ++ [(b, x)]) c = tcA es c := by
 unfold tcA
 rw [agr, if_neg h, bet b x h]
theorem amk {j : Nat} (hj : j < cs.length) (S : St w0 w (lr es cs :: R)) : St w0 w (trB cs[j].2.1 cs[j].2.2 (bOf es cs[j].1) :: jy cs[j].2.2 .u64 (qf (nh es cs[j].1)) :: qm ((cs.map (tcA es)).eraseIdx j) :: R) := by
 have S1 := St.alj (j := j) (by simpa using hj) S
 rw [List.getElem_map] at S1
 exact St.all.1 S1
theorem bkx {j : Nat} (hj : j < cs.length) (hn : (cs.map (·.1)).Nodup) (hx : cs[j].1 = x.iu) (S : St w0 w (trB cs[j].2.1 cs[j].2.2 (bOf (es ++ [(b, x)]) x.iu) :: jy cs[j].2.2 .u64 (qf (nh es x.iu ++ [x])) :: qm ((cs.map (tcA es)).eraseIdx j) :: R)) : St w0 w (lr (es ++ [(b, x)]) cs :: R) := by
 have S1 : St w0 w (tcA (es ++ [(b, x)]) cs[j] :: qm ((cs.map (tcA es)).eraseIdx j) :: R) := by
  refine St.all.2 ?_
  rw [hx, agr, if_pos rfl]
  exact S
 have S2 := St.ani (j := j) (by simpa using hj) S1
 have e : (cs.map (tcA es)).set j (tcA (es ++ [(b, x)]) cs[j]) = cs.map (tcA (es ++ [(b, x)])) := by
  refine List.ext_getElem (by simp) fun i h1 h2 => ?_
  simp only [List.getElem_set, List.getElem_map]
  split
  ·rename_i h; subst h; rfl
  ·rename_i h
   have hi : i < cs.length := by simpa using h2
   have hne : x.iu ≠ cs[i].1 := fun e => by
    have hp := List.pairwise_iff_getElem.1 (List.nodup_iff_pairwise_ne.1 hn)
    simp only [List.length_map, List.getElem_map] at hp
    rcases Nat.lt_or_gt_of_ne h with h' | h'
    ·exact hp j i hj hi h' (hx.trans e)
    ·exact hp i j hi hj h' (hx.trans e).symm
   exact (avn b hne).symm
 rw [e] at S2
 exact S2
theorem agh (hc : cs.map (·.1) = mq es) {t : Int} (ht : t ∈ mq es) : ∃ (j : Nat) (hj : j < cs.length), cs[j].1 = t := by
 rw [← hc] at ht
 obtain ⟨j, hj, h⟩ := List.mem_iff_getElem.1 ht
 exact ⟨j, by simpa using hj, by simpa using h⟩
end
def wz : Spn := ⟨0, 0, 0, 0, 0, ⟨#[]⟩, ⟨#[]⟩, false⟩
theorem aue (l : List Spn) (k : Int) : ∃ s, (mn (qf l) k).getD (.agg #[.int .u64 0, .int .u64 0, .int .u64 0, .int .u64 0, .int .u64 0, .string ⟨#[]⟩, .string ⟨#[]⟩, .bool false]) = ko s := by
 unfold qf
 rw [atg (fun s : Spn => s.id) ko]
 cases l.find? fun s => decide (s.id = k) with
 | none => exact ⟨wz, rfl⟩
 | some s => exact ⟨s, rfl⟩
section
variable {w0 w : World} {R : List Asn} {q hb p r : Nat} {es : List EnS} {L : Lg} {dn : Bool} {cs : List TC}
theorem bkg (S : St w0 w (lc q hb p r dn :: jy r .u64 (mmE cs) :: lr es cs :: R)) (hc : cs.map (·.1) = mq es) (x : Spn) {K : KV} (h : ∀ w', Fz w w' → K (.bool (un es x)) w') : gr P F.aq [jx q, ko x] w K := by
 have hq := S.blk
 have hr := (sy S.swap).1
 rw [M.bx.fcall]
 apply M.bx.calls
 unfold M.bx jx
 refine St.tt (St.ji w) fun b w1 S1 => ?_
 have S1' : St w w1 (spB b x :: []) := S1
 have S2 := S1'.jt ((Fr.refl _ w1).dr 1)
 have f2 := S2.fr
 have c2 : ic (dr w1 1) q 2 = some (.map (some r)) := by rw [ie (f2.heap hq fun h => h)]; rfl
 have x0 : ic (dr w1 1) b 0 = some (.int .u64 x.iu) := by rw [S2.cell]; rfl
 have l2 := fun K => aba mt.l (hr.uw (f2.ke r hr.lt fun h => h)) x.iu K
 by_cases ht : x.iu ∈ mq es
 ·obtain ⟨j, hj, hjt⟩ := agh hc ht
  have hn : (cs.map (·.1)).Nodup := by rw [hc]; exact abm es
  have hg := ajd hn hj
  rw [hjt] at hg
  have Sc := amk hj S.up2
  have hb := Sc.blk
  have hm := (sy Sc.swap).1
  rw [hjt] at hm
  generalize cs[j].2.1 = tb at *
  generalize cs[j].2.2 = mr at *
  simp [c2, x0, l2, hg, jx]
  unfold M.bx.j0
  have S3 := S2.jt ((Fr.refl _ (dr w1 1)).dr 1)
  simp only [qw]
  generalize dr (dr w1 1) 1 = w3 at *
  have f3 := S3.fr
  have d0 : ic w3 tb 0 = some (.map (some mr)) := by rw [ie (f3.heap hb fun h => h)]; rfl
  have x1 : ic w3 b 1 = some (.int .u64 x.id) := by rw [S3.cell]; rfl
  have l3 := fun K => ajf mt.t (hm.uw (f3.ke mr hm.lt fun h => h)) x.id K
  have S4 : St w (w3.alloc (.cells (ja wz).toArray T.e)) (spB w3.heap.size wz :: spB b x :: []) := S3.mkB (ja wz).toArray T.e
  have e4 : w3.alloc (.cells (ja wz).toArray T.e) = w3.alloc (.cells #[.int .u64 0, .int .u64 0, .int .u64 0, .int .u64 0, .int .u64 0, .string ⟨#[]⟩, .string ⟨#[]⟩, .bool false] T.e) := rfl
  rw [e4] at S4
  have f4 := S4.fr
  have d0' : ic (w3.alloc (.cells #[.int .u64 0, .int .u64 0, .int .u64 0, .int .u64 0, .int .u64 0, .string ⟨#[]⟩, .string ⟨#[]⟩, .bool false] T.e)) tb 0 = some (.map (some mr)) := by rw [ie (f4.heap hb fun h => h)]; rfl
  have x1' : ic (w3.alloc (.cells #[.int .u64 0, .int .u64 0, .int .u64 0, .int .u64 0, .int .u64 0, .string ⟨#[]⟩, .string ⟨#[]⟩, .bool false] T.e)) b 1 = some (.int .u64 x.id) := by rw [S4.swap.cell]; rfl
  have l4 := fun K => ajf mt.t (hm.uw (f4.ke mr hm.lt fun h => h)) x.id K
  have hhas := ary es x
  obtain ⟨s, hs⟩ := aue (nh es x.iu) x.id
  rw [hs, hhas] at l3 l4
  simp [d0, x1, l3, d0', x1', l4]
  rw [ym]
  refine St.put (vs := ja s) (cs' := (ja s).toArray) S4 (og s) (by simp [ja]) rfl fun w5 S5 => ?_
  exact h w5 S5.fr
 ·have hg := ajl (cs := cs) (t := x.iu) (by rw [hc]; exact ht)
  have hh : un es x = false := by
   rw [aoq, agv ht]; rfl
  rw [hh] at h
  simp [c2, x0, l2, hg]
  exact h _ S2.fr
end
section
variable {w0 w : World} {R : List Asn} {q hb p r tb mr xb bb : Nat} {es : List EnS} {L : Lg} {dn : Bool} {cs : List TC} {x : Spn} {b bt : Bal} {l : List Spn}
theorem adk (S : St w0 w (trB tb mr b :: R)) : ic w tb 0 = some (.map (some mr)) ∧ ∀ K, ldN P 2 tb 1 w K = K (kt b) w :=
 ⟨by rw [S.cell]; rfl, fun K => S.ldA [.int .u64 b.n, .int .u64 b.jl] rfl rfl K⟩
theorem ta (S : St w0 w (spB xb x :: R)) : ic w xb 0 = some (.int .u64 x.iu) ∧ ic w xb 1 = some (.int .u64 x.id) ∧ ∀ K, ldN P 8 xb 0 w K = K (ko x) w :=
 ⟨by rw [S.cell]; rfl, by rw [S.cell]; rfl, fun K => S.ldA (n := 8) (i := 0) (ja x) rfl rfl K⟩
theorem bbt (h : mn (qf l) x.id = none) : tu (qf l) x.id (ko x) = qf (l ++ [x]) := by
 rw [aqz h]
 unfold qf
 simp
theorem axp (S : St w0 w (trB tb mr bt :: jy mr .u64 (qf l) :: spB xb x :: baB bb b :: R)) {K : KV}
  (h1 : (mn (qf l) x.id).isSome = true → ∀ w', St w0 w' (trB tb mr bt :: jy mr .u64 (qf l) :: R) → K (.tuple #[]) w')
  (h2 : (mn (qf l) x.id).isSome = false → ∀ w', St w0 w' (trB tb mr (qu ir [bt, b]) :: jy mr .u64 (qf (l ++ [x])) :: R) → K (.tuple #[]) w') :
  M.bw.j0 [jx tb] (.pointer (some ⟨xb, 0, none⟩)) (.pointer (some ⟨bb, 0, none⟩)) w K := by
 unfold M.bw.j0 jx
 simp only [qw]
 have S1 := S.jt ((Fr.refl _ w).dr 1)
 generalize dr w 1 = w1 at *
 obtain ⟨c0, _⟩ := adk S1
 obtain ⟨_, x1, _⟩ := ta S1.up2
 have l1 := fun K => ajf mt.t (sy S1.swap).1 x.id K
 have S2 : St w0 (w1.alloc (.cells #[.int .u64 0, .int .u64 0, .int .u64 0, .int .u64 0, .int .u64 0, .string ⟨#[]⟩, .string ⟨#[]⟩, .bool false] T.e)) (spB w1.heap.size wz :: _) := S1.mkB (ja wz).toArray T.e
 obtain ⟨c0', _⟩ := adk S2.swap
 obtain ⟨_, x1', _⟩ := ta S2.up3
 have l1' := fun K => ajf mt.t (sy S2.up2).1 x.id K
 obtain ⟨s, hs⟩ := aue l x.id
 rw [hs] at l1 l1'
 have g0 : gv [Value.pointer (some ⟨tb, 0, none⟩)] 0 = .pointer (some ⟨tb, 0, none⟩) := rfl
 cases hh : (mn (qf l) x.id).isSome with
 | true =>
  rw [hh] at l1 l1'
  simp [c0, x1, l1, c0', x1', l1']
  rw [ym]
  refine St.put (vs := ja s) (cs' := (ja s).toArray) S2 (og s) (by simp [ja]) rfl fun w5 S5 => ?_
  have S6 := (S5.drop.up2.drop).up2.drop
  exact h1 hh w5 S6
 | false =>
  rw [hh] at l1 l1'
  simp [c0, x1, l1, c0', x1', l1']
  rw [ym]
  refine St.put (vs := ja s) (cs' := (ja s).toArray) S2 (og s) (by simp [ja]) rfl fun w5 S5 => ?_
  have S6 := S5.drop.jt ((Fr.refl _ w5).dr 1)
  generalize dr w5 1 = w6 at *
  obtain ⟨d0, _⟩ := adk S6
  obtain ⟨_, y1, yl⟩ := ta S6.up2
  simp [d0, y1, yl]
  refine aqw mt.t (sy S6.swap).1 x.id _ _ fun ob hob => ?_
  have S7 := atm S6.swap hob
  rw [bbt (by simpa using hh)] at S7
  generalize World.setObj w6 mr ob = w7 at *
  have S8 := S7.swap.jt ((Fr.refl _ w7).dr 1)
  generalize dr w7 1 = w8 at *
  obtain ⟨_, e1⟩ := adk S8
  obtain ⟨_, _, bl⟩ := pm S8.up3
  have S9 : St w0 (w8.alloc (.cells #[.int .u64 bt.n, .int .u64 bt.jl, .int .u64 b.n, .int .u64 b.jl] T.d)) (nq T.d 2 xz (.slice (some ⟨w8.heap.size, 0, none⟩) 2 2) [bt, b] :: _) := St.su (l := [bt, b]) S8 zr rfl (by simp [maxLen])
  simp [e1, bl]
  unfold kt
  simp
  refine bnp S9 (fun w' L' S' => (S'.perm List.perm_middle).row zr) (by simp) fun w9 S10 => ?_
  have S11 : St w0 w9 (trB tb mr bt :: jy mr .u64 (qf (l ++ [x])) :: spB xb x :: baB bb b :: R) := S10.drop
  generalize qu ir [bt, b] = bm at *
  unfold kt
  simp
  refine St.put (i := 1) (vs := [.int .u64 bm.n, .int .u64 bm.jl]) (cs' := #[.map (some mr), .int .u64 bm.n, .int .u64 bm.jl]) S11 (by simp [kq]) (by simp) rfl fun w12 S12 => ?_
  exact h2 hh w12 (S12.up2.drop.up2.drop)
theorem axi (S : St w0 w (lc q hb p r dn :: jy r .u64 (mmE cs) :: lr es cs :: R)) (hc : cs.map (·.1) = mq es) (hr : ∀ e ∈ es, e.1.rng) (b : Bal) (x : Spn) {K : KV}
  (h : ∀ w' cs', cs'.map (·.1) = mq (na b es x) → St w0 w' (lc q hb p r dn :: jy r .u64 (mmE cs') :: lr (na b es x) cs' :: R) → K (.tuple #[]) w') : gr P F.cv [jx q, kt b, ko x] w K := by
 rw [M.bw.fcall]
 apply M.bw.calls
 unfold M.bw
 refine St.tt S fun bb w1 S1 => ?_
 have S1' : St w0 w1 (baB bb b :: lc q hb p r dn :: jy r .u64 (mmE cs) :: lr es cs :: R) := S1
 refine St.tt S1' fun xb w2 S2 => ?_
 have S2' : St w0 w2 (spB xb x :: baB bb b :: lc q hb p r dn :: jy r .u64 (mmE cs) :: lr es cs :: R) := S2
 simp only [qw]
 have S3 := S2'.jt ((Fr.refl _ w2).dr 1)
 generalize dr w2 1 = w3 at *
 obtain ⟨x0, _, _⟩ := ta S3
 obtain ⟨_, _, c2, _⟩ := ub S3.up2
 have l1 := fun K => aba mt.l (sy S3.up3).1 x.iu K
 by_cases ht : x.iu ∈ mq es
 ·obtain ⟨j, hj, hjt⟩ := agh hc ht
  have hn : (cs.map (·.1)).Nodup := by rw [hc]; exact abm es
  have hg := ajd hn hj
  rw [hjt] at hg
  unfold jx at hg
  unfold jx
  simp [c2, x0, l1, hg]
  have S4 : St w0 w3 (lr es cs :: spB xb x :: baB bb b :: lc q hb p r dn :: jy r .u64 (mmE cs) :: R) := S3.up4
  have S5 := amk hj S4
  rw [hjt] at S5
  have S6 : St w0 w3 (trB cs[j].2.1 cs[j].2.2 (bOf es x.iu) :: jy cs[j].2.2 .u64 (qf (nh es x.iu)) :: spB xb x :: baB bb b :: qm ((cs.map (tcA es)).eraseIdx j) :: lc q hb p r dn :: jy r .u64 (mmE cs) :: R) := S5.perm (List.Perm.cons _ (List.Perm.cons _ (List.perm_middle (l₁ := [spB xb x, baB bb b])).symm))
  have hh := ary es x
  refine axp S6 (fun hs w4 S7 => ?_) (fun hs w4 S7 => ?_)
  ·rw [hh] at hs
   have e : na b es x = es := by unfold na; rw [if_pos hs]
   rw [e] at h
   refine h w4 cs hc ?_
   have S8 : St w0 w4 (tcA es cs[j] :: qm ((cs.map (tcA es)).eraseIdx j) :: lc q hb p r dn :: jy r .u64 (mmE cs) :: R) := by
    refine St.all.2 ?_
    rw [hjt]
    exact S7
   have S9 := St.ani (j := j) (by simpa using hj) S8
   have e2 : (cs.map (tcA es)).set j (tcA es cs[j]) = cs.map (tcA es) := by
    rw [← List.getElem_map (tcA es) (h := by simpa using hj), List.set_getElem_self]
   rw [e2] at S9
   exact St.dn2 S9
  ·rw [hh] at hs
   have e : na b es x = es ++ [(b, x)] := by unfold na; rw [if_neg (by simp [hs])]
   rw [e] at h
   rw [← atl hr b x] at S7
   have S8 := bkx hj hn hjt S7
   refine h w4 cs ?_ (St.dn2 S8)
   rw [alb, hc]
   unfold yz
   rw [if_pos ht]
 ·have hg := ajl (cs := cs) (t := x.iu) (by rw [hc]; exact ht)
  unfold jx
  simp [c2, x0, l1, hg]
  rw [amj]
  have S4 := axa S3
  generalize w3.heap.size = mr at *
  generalize w3.alloc _ = w4 at *
  simp
  have S5 : St w0 (w4.alloc (.cells #[.map (some mr), .int .u64 0, .int .u64 0] T.ar)) (trB w4.heap.size mr ir :: _) := S4.mkB #[.map (some mr), .int .u64 0, .int .u64 0] T.ar
  generalize w4.heap.size = tb at *
  generalize w4.alloc _ = w5 at *
  have S6 := S5.jt ((Fr.refl _ w5).dr 1)
  generalize dr w5 1 = w6 at *
  obtain ⟨y0, _, _⟩ := ta S6.up2
  obtain ⟨_, _, d2, _⟩ := ub S6.up4
  simp [y0, d2]
  have S7 : St w0 w6 (jy r .u64 (mmE cs) :: trB tb mr ir :: jy mr .u64 [] :: spB xb x :: baB bb b :: lc q hb p r dn :: lr es cs :: R) := up5 S6
  refine aqw mt.l (sy S7).1 x.iu _ _ fun ob hob => ?_
  have S8 := atm S7 hob
  generalize World.setObj w6 r ob = w8 at *
  have em : tu (mmE cs) x.iu (.pointer (some ⟨tb, 0, none⟩)) = mmE (cs ++ [(x.iu, tb, mr)]) := by
   rw [aqz hg]
   unfold mmE
   simp [jx]
  rw [em] at S8
  have S9 : St w0 w8 (trB tb mr ir :: jy mr .u64 (qf []) :: spB xb x :: baB bb b :: jy r .u64 (mmE (cs ++ [(x.iu, tb, mr)])) :: lc q hb p r dn :: lr es cs :: R) := St.dn4 S8
  refine axp S9 (fun hs => by simp [qf, mn] at hs) (fun _ w9 S10 => ?_)
  have hs : un es x = false := by rw [aoq, agv ht]; rfl
  have e : na b es x = es ++ [(b, x)] := by unfold na; rw [if_neg (by simp [hs])]
  rw [e] at h
  have hb0 : bOf es x.iu = ir := by unfold bOf; rw [arh ht]; rfl
  have hb1 := atl hr b x
  rw [hb0] at hb1
  rw [← hb1] at S10
  refine h w9 (cs ++ [(x.iu, tb, mr)]) ?_ ?_
  ·rw [alb, List.map_append, hc]
   unfold yz
   rw [if_neg ht]
   rfl
  ·have S11 : St w0 w9 (tcA (es ++ [(b, x)]) (x.iu, tb, mr) :: jy r .u64 (mmE (cs ++ [(x.iu, tb, mr)])) :: lc q hb p r dn :: lr es cs :: R) := by
    refine St.all.2 ?_
    show St w0 w9 (trB tb mr (bOf (es ++ [(b, x)]) x.iu) :: jy mr .u64 (qf (nh (es ++ [(b, x)]) x.iu)) :: _)
    rw [agr, if_pos rfl, agv ht]
    exact S10
   have S12 : St w0 w9 (lr es cs :: tcA (es ++ [(b, x)]) (x.iu, tb, mr) :: lc q hb p r dn :: jy r .u64 (mmE (cs ++ [(x.iu, tb, mr)])) :: R) := (S11.up3).perm (List.Perm.cons _ (List.Perm.cons _ (List.Perm.swap _ _ _)))
   have ec : cs.map (tcA (es ++ [(b, x)])) = cs.map (tcA es) := by
    refine List.map_congr_left fun c hcm => avn b fun he => ht ?_
    rw [← hc, he]
    exact List.mem_map_of_mem hcm
   have S13 := St.all.1 S12
   have S14 : St w0 w9 (lr (es ++ [(b, x)]) (cs ++ [(x.iu, tb, mr)]) :: lc q hb p r dn :: jy r .u64 (mmE (cs ++ [(x.iu, tb, mr)])) :: R) := by
    refine St.all.2 ?_
    rw [List.map_append, ec, List.append_assoc]
    exact S13
   exact St.dn2 S14
end
end Go.Proofs.YtfnhoaemapheoaaGreat
set_option maxRecDepth 100000
namespace Go.Proofs.YtfnhoaemapheoaaGreat.KeyT
open Go.Eng Go.Sort Go.Proofs.YtfnhoaemapheoaaGreat.Suint64
def KI (w W : World) (U : Nat → Prop) (r : Nat) (m : MP) (J : List Int → Asn) : KL := fun x w1 => ∃ (done : List Int) (U1 : Nat → Prop), x.length = 1 ∧ yi w1 W.heap.size r .u64 m done ∧ (J done.reverse).ok w1 U1 ∧ (∀ b, U1 b → w.heap.size ≤ b ∧ b < w1.heap.size ∧ b ≠ W.heap.size) ∧ Fr (fun b => w.heap.size ≤ b) W w1
theorem aap {w : World} {it r : Nat} {k : IntKind} {m : MP} {done : List Int} (h : yi w it r k m done) : done.Nodup ∧ ∀ x ∈ done, x ∈ kj m := by
 obtain ⟨es, clk, since, c0, jr, _, _, _, _, _, _, _, _, _, h1, h2⟩ := h
 exact ⟨h1, h2⟩
theorem akp {w : World} {r Bm : Nat} {m : MP} {e : TypeId} (hm : pt w r .u64 m) (hn : (kj m).Nodup) (hB : w.heap[Bm]? = some (.cells #[.map (some r)] e (0, 0))) (hl : m.length < 60000) :
  agn P F.a [.pointer (some ⟨Bm, 0, none⟩)] adl (fun xs => xs.Perm (kj m)) 60000 w := by
 intro l J W U K hf hJ hU hround hend
 apply M.i.calls
 unfold M.i
 have hBm : W.heap[Bm]? = some (.cells #[.map (some r)] e (0, 0)) := hf.heap hB fun h => h
 have c0 := ie hBm 0
 simp only [List.size_toArray, List.getElem?_toArray, List.getElem?_cons_zero] at c0
 have hm' : pt W r .u64 m := hm.uw (hf.ke r hm.lt fun h => h)
 have hrw := hm.lt
 simp [c0]
 refine ash mt.l hm' fun w1 hi f1 => ?_
 have hWs := hf.size
 have hWlt := (hi.lt).1
 refine ⟨KI w W U r m J, fun _ w1 => uf w1 W.heap.size m.length, ⟨[], U, rfl, hi, (J []).ke hJ f1 fun _ _ h => h, fun b hb => ?_, f1.mono fun _ _ h => h.elim⟩, ?_⟩
 ·have := hU b hb
  have := f1.size
  exact ⟨by omega, by omega, by omega⟩
 rintro x w2 ⟨done, U1, hx1, hi2, hJ2, hU2, f2⟩
 unfold M.i.j0
 refine avm hi2 hn T.bn (fun hall => ?_) fun y v w3 hy hyd hc3 f3 hlt => ?_
 ·have e0 : ∀ w K, exT P (.tuple #[.bool false]) 0 w K = K (.bool false) w := fun _ _ => rfl
  simp [e0]
  obtain ⟨h1, h2⟩ := aap hi2
  refine hend _ w2 done.reverse U1 ?_ hJ2 f2
  refine (List.reverse_perm done).trans ?_
  refine (List.perm_ext_iff_of_nodup h1 hn).2 fun z => ⟨h2 z, fun hz => ?_⟩
  obtain ⟨p, hp, rfl⟩ := List.mem_map.1 hz
  exact hall p hp
 ·simp
  rw [auv hc3]
  simp
  have hnit : ∀ b, U1 b → ¬ b = W.heap.size := fun b hb => (hU2 b hb).2.2
  have hJ3 := (J done.reverse).ke hJ2 f3 hnit
  have hlen : done.length < m.length := by
   obtain ⟨h1, h2⟩ := aap hi2
   have := uu (l := y :: done) (l' := kj m) (List.nodup_cons.2 ⟨hyd, h1⟩) fun z hz => by
    rcases List.mem_cons.1 hz with rfl | hz
    ·exact List.mem_map_of_mem hy
    ·exact h2 z hz
   simp only [kj, List.length_map, List.length_cons] at this
   omega
  have hs3 := f3.size
  refine hround done.reverse y w3 U1 _ hJ3 (fun b hb => ⟨(hU2 b hb).1, by have := (hU2 b hb).2.1; omega⟩) (by simp; omega) fun w4 U4 hJ4 hU4 f4 => ?_
  simp
  have hit : ¬ U1 W.heap.size := fun h => hnit _ h rfl
  have hr1 : ¬ U1 r := fun h => by have := (hU2 r h).1; omega
  have hi3 : yi w3 W.heap.size r .u64 m (y :: done) := hc3.1
  have hi4 := hi3.ke (f4.ke _ hi3.lt.1 hit) (f4.ke _ hi3.lt.2 hr1)
  refine ⟨⟨y :: done, U4, rfl, hi4, by simpa using hJ4, fun b hb => ?_, ?_⟩, ?_⟩
  ·rcases hU4 b hb with h | h
   ·have := hU2 b h
    have := f4.size
    exact ⟨by omega, by omega, by omega⟩
   ·have := hi3.lt.1
    have := f2.size
    exact ⟨by omega, by omega, by omega⟩
  ·refine (f2.lq f3 fun b hb he => by omega).lq f4 fun b hb he => (hU2 b he).1
  ·have : uf w4 W.heap.size m.length = uf w3 W.heap.size m.length := by
    unfold uf
    rw [f4.ke _ hi3.lt.1 hit]
   rw [this]; exact hlt
theorem anw {w : World} {r : Nat} {m : MP} (hm : pt w r .u64 m) (hn : (kj m).Nodup) (hl : m.length < 60000) {K : KV}
  (h : ∀ w' v, OwN w' w.heap.size v (mo (kj m)) → Fz w w' → K v w') :
  gr P F.z [.map (some r)] w fun t w => gr P F.bn [t] w K := by
 rw [M.t.fcall]
 apply M.t.calls
 unfold M.t
 rw [xm, aim]
 show gr P F.bn _ _ K
 rw [M.cv.fcall]
 have f1 : Fz w (w.alloc (.cells #[.map (some r)] T.l)) := (Fr.refl _ w).alloc _
 have hB : (w.alloc (.cells #[.map (some r)] T.l)).heap[w.heap.size]? = some (.cells #[.map (some r)] T.l (0, 0)) := by rw [iw, if_pos rfl]
 have hsz : w.heap.size ≤ (w.alloc (.cells #[.map (some r)] T.l)).heap.size := by simp
 refine aid (ks := kj m) FN.a.at (by kernel_rfl) (by kernel_rfl) (by simpa [kj] using hl) (akp (hm.uw (f1.ke r hm.lt fun h => h)) hn hB hl) fun w2 v o2 f2 => ?_
 exact h w2 v (o2.mono hsz) (f1.trans f2)
end Go.Proofs.YtfnhoaemapheoaaGreat.KeyT
set_option maxRecDepth 100000
namespace Go.Proofs.YtfnhoaemapheoaaGreat
open Go.Eng Go.Proofs.YtfnhoaemapheoaaGreat.Sint
theorem bje : auw P T.b T.e ko ja 8 80 where
 et := et.b
 by5 := by decide
 ld := fun b i w K => kr
 st := fun b i a n c w K => kr
 bs := fun x w K => kr
 len := lk
 one := og
 ne := by decide
theorem bnm : bjl P T.e ko ja 8 wz where
 al := fun w K => kr
 sv := fun b x w K => ym b 0 x w K
 lv := fun b x w K h => by
  have e : ldT P T.e (.pointer (some ⟨b, 0, none⟩)) w K = ldN P 8 b 0 w K := by simp
  rw [e]
  exact po (ja x) 8 rfl h K
theorem awy {g : FuncId} {gn : Func} (hg : P.funcs[g]? = some gn) (hgn : (gn.name == "runtime.NumGoroutine") = false) (hgb : gn.body.isNone = false) {cap : List Value} {w : World} {Out : List Spn → Prop} (hs : agn P g cap ko Out 60000 w) {K : KV}
  (h : ∀ w' v xs, Out xs → Ow w' w.heap.size T.e 8 ja v xs → Fz w w' → K v w') : ku P F.bd [.func (.func g) #[] cap.toArray] w K := by
 apply M.ce.calls
 unfold M.ce
 have hf : ∀ (args : List Value) (w : World) (K : KV), gr P F.g args w K = ku P F.g args w K := fun args w K => aek FN.g.at (by kernel_rfl) (by kernel_rfl) args w K
 rw [hf]
 exact acz (tQ := T.bk) (bcf bje bnm) bje.ld FN.g.at (by kernel_rfl) (by kernel_rfl) (by kernel_rfl) hg hgn hgb hs h
def VsI (w W : World) (r : Nat) (l : List Spn) (J : List Spn → Asn) : KL := fun x w1 => ∃ (ps : List Spn) (U1 : Nat → Prop), x.length = 0 ∧ yi w1 W.heap.size r .u64 (qf l) (ps.map Spn.id).reverse ∧ (∀ s ∈ ps, s ∈ l) ∧ (J ps).ok w1 U1 ∧ (∀ b, U1 b → w.heap.size ≤ b ∧ b < w1.heap.size ∧ b ≠ W.heap.size) ∧ Fr (fun b => w.heap.size ≤ b) W w1
theorem bey (l : List Spn) : kj (qf l) = l.map Spn.id := by unfold kj qf; rw [List.map_map]; rfl
theorem bhu {w : World} {r Bm : Nat} {l : List Spn} {e : TypeId} (hm : pt w r .u64 (qf l)) (hn : (l.map Spn.id).Nodup) (hB : w.heap[Bm]? = some (.cells #[.map (some r)] e (0, 0))) (hl : l.length < 60000) :
  agn P F.b [.pointer (some ⟨Bm, 0, none⟩)] ko (fun xs => xs.Perm l) 60000 w := by
 intro lp J W U K hf hJ hU hround hend
 apply M.o.calls
 unfold M.o
 have hnk : (kj (qf l)).Nodup := by rw [bey]; exact hn
 have hBm : W.heap[Bm]? = some (.cells #[.map (some r)] e (0, 0)) := hf.heap hB fun h => h
 have c0 := ie hBm 0
 simp only [List.size_toArray, List.getElem?_toArray, List.getElem?_cons_zero] at c0
 have hm' : pt W r .u64 (qf l) := hm.uw (hf.ke r hm.lt fun h => h)
 have hrw := hm.lt
 simp [c0]
 refine ash mt.t hm' fun w1 hi f1 => ?_
 have hWs := hf.size
 have hWlt := (hi.lt).1
 refine ⟨VsI w W r l J, fun _ w1 => uf w1 W.heap.size (qf l).length, ⟨[], U, rfl, hi, by simp, (J []).ke hJ f1 fun _ _ h => h, fun b hb => ?_, f1.mono fun _ _ h => h.elim⟩, ?_⟩
 ·have := hU b hb
  have := f1.size
  exact ⟨by omega, by omega, by omega⟩
 rintro x w2 ⟨ps, U1, hx1, hi2, hps, hJ2, hU2, f2⟩
 obtain ⟨hd1, hd2⟩ := KeyT.aap hi2
 replace hd1 := (List.reverse_perm (ps.map Spn.id)).nodup_iff.1 hd1
 refine avm hi2 hnk T.bn (fun hall => ?_) fun y v w3 hy hyd hc3 f3 hlt => ?_
 ·have e0 : ∀ w K, exT P (.tuple #[.bool false]) 0 w K = K (.bool false) w := fun _ _ => rfl
  simp [e0]
  refine hend _ w2 ps U1 ?_ hJ2 f2
  have n1 : ps.Nodup := by
   rw [List.nodup_iff_pairwise_ne, List.pairwise_map] at hd1
   exact List.nodup_iff_pairwise_ne.2 (hd1.imp fun h e => h (by rw [e]))
  have n2 : l.Nodup := by
   have := hn
   rw [List.nodup_iff_pairwise_ne, List.pairwise_map] at this
   exact List.nodup_iff_pairwise_ne.2 (this.imp fun h e => h (by rw [e]))
  refine (List.perm_ext_iff_of_nodup n1 n2).2 fun z => ⟨hps z, fun hz => ?_⟩
  have hz' := hall (z.id, ko z) (List.mem_map.2 ⟨z, hz, rfl⟩)
  rw [List.mem_reverse] at hz'
  obtain ⟨z', hz1, hz2⟩ := List.mem_map.1 hz'
  have : z' = z := yw hn (hps z' hz1) hz hz2
  rw [← this]; exact hz1
 ·obtain ⟨s, hs, he⟩ := List.mem_map.1 hy
  cases he
  simp
  unfold M.o.j1
  rw [auv hc3]
  simp
  have hnit : ∀ b, U1 b → ¬ b = W.heap.size := fun b hb => (hU2 b hb).2.2
  have hJ3 := (J ps).ke hJ2 f3 hnit
  have hlen : ps.length < l.length := by
   have := uu (l := s.id :: ps.map Spn.id) (l' := l.map Spn.id) (List.nodup_cons.2 ⟨by simpa using hyd, hd1⟩) fun z hz => by
    rcases List.mem_cons.1 hz with rfl | hz
    ·exact List.mem_map_of_mem hs
    ·obtain ⟨z', hz1, rfl⟩ := List.mem_map.1 hz
     exact List.mem_map_of_mem (hps z' hz1)
   simp only [List.length_map, List.length_cons] at this
   omega
  have hs3 := f3.size
  -- the span's own block
  have Sx : St w3 (w3.alloc (.cells #[.int .u64 0, .int .u64 0, .int .u64 0, .int .u64 0, .int .u64 0, .string ⟨#[]⟩, .string ⟨#[]⟩, .bool false] T.e)) (spB w3.heap.size wz :: []) := (St.ji w3).mkB (ja wz).toArray T.e
  rw [ym]
  refine St.put (vs := ja s) (cs' := (ja s).toArray) Sx (og s) (by simp [ja]) rfl fun w4 S4 => ?_
  obtain ⟨_, _, sl⟩ := ta S4
  have f4 := S4.fr
  simp [sl]
  have hJ4 := (J ps).ke hJ3 f4 fun _ _ h => h
  have hs4 := f4.size
  refine hround ps s w4 U1 _ hJ4 (fun b hb => ⟨(hU2 b hb).1, by have := (hU2 b hb).2.1; omega⟩) (by omega) fun w5 U5 hJ5 hU5 f5 => ?_
  simp
  have hit : ¬ U1 W.heap.size := fun h => hnit _ h rfl
  have hr1 : ¬ U1 r := fun h => by have := (hU2 r h).1; omega
  have hi3 : yi w3 W.heap.size r .u64 (qf l) (s.id :: (ps.map Spn.id).reverse) := hc3.1
  have hi4 := hi3.ke (f4.ke _ hi3.lt.1 fun h => h) (f4.ke _ hi3.lt.2 fun h => h)
  have hi5 := hi4.ke (f5.ke _ hi4.lt.1 hit) (f5.ke _ hi4.lt.2 hr1)
  refine ⟨⟨ps ++ [s], U5, rfl, by simpa using hi5, fun z hz => ?_, hJ5, fun b hb => ?_, ?_⟩, ?_⟩
  ·rcases List.mem_append.1 hz with hz | hz
   ·exact hps z hz
   ·rw [List.mem_singleton.1 hz]; exact hs
  ·have := hi4.lt.1
   have := hi3.lt.1
   have := f5.size
   have := f2.size
   rcases hU5 b hb with h | h
   ·have := hU2 b h
    exact ⟨by omega, by omega, by omega⟩
   ·exact ⟨by omega, by omega, by omega⟩
  ·refine ((f2.lq f3 fun b hb he => by omega).lq f4 fun b hb he => he.elim).lq f5 fun b hb he => (hU2 b he).1
  ·have : uf w5 W.heap.size (qf l).length = uf w3 W.heap.size (qf l).length := by
    unfold uf
    rw [f5.ke _ hi4.lt.1 hit, f4.ke _ hi3.lt.1 fun h => h]
   rw [this]; exact hlt
theorem blf {w : World} {r : Nat} {l : List Spn} (hm : pt w r .u64 (qf l)) (hn : (l.map Spn.id).Nodup) (hl : l.length < 60000) {K : KV}
  (h : ∀ w' v xs, xs.Perm l → Ow w' w.heap.size T.e 8 ja v xs → Fz w w' → K v w') :
  gr P F.ah [.map (some r)] w fun t w => gr P F.bd [t] w K := by
 rw [M.aa.fcall]
 apply M.aa.calls
 unfold M.aa
 rw [xm, aim]
 show gr P F.bd _ _ K
 rw [M.ce.fcall]
 have f1 : Fz w (w.alloc (.cells #[.map (some r)] T.t)) := (Fr.refl _ w).alloc _
 have hB : (w.alloc (.cells #[.map (some r)] T.t)).heap[w.heap.size]? = some (.cells #[.map (some r)] T.t (0, 0)) := by rw [iw, if_pos rfl]
 have hsz : w.heap.size ≤ (w.alloc (.cells #[.map (some r)] T.t)).heap.size := by simp
 refine awy FN.b.at (by kernel_rfl) (by kernel_rfl) (bhu (hm.uw (f1.ke r hm.lt fun h => h)) hn hB hl) fun w2 v xs hx o2 f2 => ?_
 exact h w2 v xs hx (o2.mono hsz) (f1.trans f2)
set_option maxRecDepth 100000
theorem beu {es : List EnS} (h : yb es) (t : Int) : ((nh es t).map Spn.id).Nodup := by
 unfold nh
 rw [List.nodup_iff_pairwise_ne, List.map_map, List.pairwise_map]
 refine (List.Pairwise.filter _ h).imp_of_mem fun {a b} ha hb hab he => hab ⟨?_, he⟩
 have h1 := (List.mem_filter.1 ha).2
 have h2 := (List.mem_filter.1 hb).2
 simp only [isE, decide_eq_true_eq] at h1 h2
 rw [h1, h2]
theorem afn (es : List EnS) (t : Int) : (nh es t).length ≤ es.length := by
 unfold nh
 rw [List.length_map]
 exact List.length_filter_le _ _
theorem bmw {es : List EnS} {t : Int} (h : t ∈ mq es) : nh es t ≠ [] := by
 obtain ⟨e, he, ht⟩ := ajc.1 h
 intro hn
 have : e.2 ∈ nh es t := ajh.2 ⟨e.1, he, ht⟩
 rw [hn] at this
 simp at this
theorem ann (es : List EnS) : (mq es).length ≤ es.length := by
 have h : ∀ (es : List EnS) (l : List Int), (es.foldl (fun l e => yz l e.2.iu) l).length ≤ l.length + es.length := by
  intro es
  induction es with
  | nil => simp
  | cons a r ih =>
   intro l
   rw [List.foldl_cons]
   have h1 := ih (yz l a.2.iu)
   have h2 : (yz l a.2.iu).length ≤ l.length + 1 := by unfold yz; split <;> simp
   simp only [List.length_cons]; omega
 simpa [mq] using h es []
section
variable {w0 w : World} {R : List Asn} {q hb : Nat} {es : List EnS} {L : Lg} {dn : Bool}
theorem aea (S : St w0 w (nw q hb es L dn :: R)) (hu : yb es) (hl : es.length < 60000) (t : Int) {K : KV}
  (h : ∀ w' v' l', oy l' → l'.Perm (nh es t) → St w0 w' (rdA 8 ja v' l' :: nw q hb es L dn :: R) → K v' w') : gr P F.bl [jx q, .int .u64 t] w K := by
 obtain ⟨p, r, cs, hc, S1⟩ := amc S
 rw [M.bu.fcall]
 apply M.bu.calls
 unfold M.bu jx
 obtain ⟨_, _, c2, _⟩ := ub S1
 have l1 := fun K => aba mt.l (sy S1.swap).1 t K
 by_cases ht : t ∈ mq es
 ·obtain ⟨j, hj, hjt⟩ := agh hc ht
  have hn : (cs.map (·.1)).Nodup := by rw [hc]; exact abm es
  have hg := ajd hn hj
  rw [hjt] at hg
  have Sc := amk hj S1.up2
  have hb := Sc.blk
  have hm := (sy Sc.swap).1
  rw [hjt] at hm
  generalize cs[j].2.1 = tb at *
  generalize cs[j].2.2 = mr at *
  have d0 : ic w tb 0 = some (.map (some mr)) := by rw [ie hb]; rfl
  simp [c2, l1, hg, jx]
  unfold M.bu.j0
  simp [c2, l1, hg, jx, d0]
  refine blf hm (beu hu t) (by have := afn es t; omega) fun w2 v xs hx o2 f2 => ?_
  have hxl := hx.length_eq
  have hne : xs ≠ [] := fun e => bmw ht (by rw [e] at hx; exact hx.symm.eq_nil)
  have S2 := S.jt f2
  refine bio S2 (o2.sl lk) hne (by have := afn es t; omega) fun w3 v3 l3 g1 g2 S3 => ?_
  refine h w3 v3 l3 g1 (g2.trans hx) ?_
  obtain ⟨B, ⟨k1, k2⟩, hB, cl⟩ := S3.open
  exact cl w3 [rdA 8 ja v3 l3] (Fr.refl _ _) (Rs.one (B := B) ⟨k1.sl lk, k2⟩ fun x hx => .inl hx)
 ·have hg := ajl (cs := cs) (t := t) (by rw [hc]; exact ht)
  simp [c2, l1, hg]
  refine h w _ [] List.Pairwise.nil (by rw [agv ht]) ?_
  exact S.add (Fr.refl _ w) (B := fun _ => False) ⟨Sl.nil, fun b hb => by simp [Value.ownBlock] at hb⟩ fun b hb => hb.elim
theorem alk (S : St w0 w (nw q hb es L dn :: R)) (t : Int) {K : KV} (h : ∀ w', St w0 w' (nw q hb es L dn :: R) → K (kt (bOf es t)) w') : gr P F.cg [jx q, .int .u64 t] w K := by
 obtain ⟨p, r, cs, hc, S1⟩ := amc S
 rw [M.bq.fcall]
 apply M.bq.calls
 unfold M.bq jx
 simp
 have S2 := aeh S1
 generalize w.heap.size = rb at *
 generalize w.alloc _ = w2 at *
 obtain ⟨_, _, c2, _⟩ := ub S2.swap
 have l1 := fun K => aba mt.l (sy S2.up2).1 t K
 have hres : ∀ w' K, pp P T.d (.pointer (some ⟨rb, 0, none⟩)) w' K = ldN P 2 rb 0 w' K := fun w' K => kr
 have fin : ∀ y, (∀ w', St w0 w' (nw q hb es L dn :: R) → K (kt y) w') → stT P T.d (.pointer (some ⟨rb, 0, none⟩)) (kt y) w2 fun _ w => pp P T.d (.pointer (some ⟨rb, 0, none⟩)) w fun r0 w' => w' = w ∧ K r0 w := fun y hy => by
  refine acd (y := y) S2 fun w5 S5 => ?_
  obtain ⟨_, _, b2⟩ := pm S5
  rw [hres, b2]
  exact ⟨rfl, hy w5 (aqm hc S5.drop)⟩
 by_cases ht : t ∈ mq es
 ·obtain ⟨j, hj, hjt⟩ := agh hc ht
  have hn : (cs.map (·.1)).Nodup := by rw [hc]; exact abm es
  have hg := ajd hn hj
  rw [hjt] at hg
  have Sc := amk hj S2.up3
  have hb := Sc.blk
  rw [hjt] at Sc
  obtain ⟨_, d1⟩ := adk Sc
  generalize cs[j].2.1 = tb at *
  have := fin _ h
  simp [c2, l1, hg, jx]
  unfold M.bq.j0
  simp [c2, l1, hg, jx, d1]
  exact this
 ·have hg := ajl (cs := cs) (t := t) (by rw [hc]; exact ht)
  have e : bOf es t = ir := by unfold bOf; rw [arh ht]; rfl
  rw [e] at h
  have := fin _ h
  simp [c2, l1, hg]
  unfold kt ir at this
  simp at this
  exact this
theorem ayy (S : St w0 w (nw q hb es L dn :: R)) (hl : es.length < 60000) {K : KV} (h : ∀ w' v', St w0 w' (rdA 1 pi v' (Suint64.mo (mq es)) :: nw q hb es L dn :: R) → K v' w') : gr P F.cx [jx q] w K := by
 obtain ⟨p, r, cs, hc, S1⟩ := amc S
 rw [M.bp.fcall]
 apply M.bp.calls
 unfold M.bp jx
 simp
 unfold M.bp.j0
 obtain ⟨_, _, c2, _⟩ := ub S1
 simp [c2]
 obtain ⟨hmp, hn⟩ := sy S1.swap
 have hk : kj (mmE cs) = mq es := by rw [anv, hc]
 have hlen : (mmE cs).length < 60000 := by
  have h1 := congrArg List.length hk
  have h2 := ann es
  simp only [kj, List.length_map] at h1
  omega
 refine KeyT.anw hmp hn hlen fun w2 v2 o2 f2 => ?_
 rw [hk] at o2
 have o3 : OwU w2 w.heap.size v2 (Suint64.mo (mq es)) := o2
 exact h w2 v2 (S.add f2 (B := fun x => v2.ownBlock = some x) ⟨o3.sl pu, fun b hb => hb⟩ fun b hb => o3.lt hb)
end
def bqb (w0 : World) (g n cap : Nat) (pf : Spn → Bool) (l : List Spn) (R : List Asn) : KL := fun v w1 => ∃ (i j : Nat) (l' : List Spn), v = [.int .i64 (i : Nat), .int .i64 (j : Nat)] ∧ i < j ∧ j ≤ n ∧ l'.take i = (l.take j).filter (fun x => !pf x) ∧ l'.drop j = l.drop j ∧ St w0 w1 (lh (vS g n cap) l' :: R)
section
variable {w0 w : World} {R : List Asn} {v fv : Value} {l : List Spn} {pf : Spn → Bool} {g n cap : Nat}
theorem bmg (S : St w0 w (lh v l :: R)) : St w0 w (rdA 8 ja v l :: R) := by
 obtain ⟨B, ⟨k1, k2⟩, hB, cl⟩ := S.open
 exact cl w [rdA 8 ja v l] (Fr.refl _ _) (Rs.one (B := B) ⟨k1.sl lk, k2⟩ fun x hx => .inl hx)
theorem anm.mono (h : anm w0 R fv pf) (X : List Asn) : anm w0 (X ++ R) fv pf := fun w' L x K S' hK => h w' (L ++ X) x K (by rw [List.append_assoc]; exact S') hK
theorem bjo (S : St w0 w (lh v l :: R)) (hf : anm w0 R fv pf) (hl : l.length ≤ 100000) {K : KV}
  (h : ∀ w' v', St w0 w' (rdA 8 ja v' (l.filter fun x => !pf x) :: R) → K v' w') : gr P F.az [v, fv] w K := by
 rw [M.f.fcall]
 apply M.f.calls
 unfold M.f
 refine bfd S (fun w' L S' => (S'.perm List.perm_middle).row lk) (hf.mono [lh v l]) (by omega) (fun hno w1 S1 => ?_) fun i hi hpi hpre w1 S1 => ?_
 ·simp
  have e : (l.filter fun x => !pf x) = l := List.filter_eq_self.2 fun x hx => by rw [hno x hx]; rfl
  have := h w1 v
  rw [e] at this
  exact this (bmg S1)
 ·have hne : ¬ ((i : Int) = -1) := by omega
  simp [hne]
  unfold M.f.j0
  obtain ⟨g, cap, cur, rfl, _, n1, _⟩ := S1.aoo (k := i) hi
  clear S
  obtain ⟨n, hn⟩ : ∃ n, l.length = n := ⟨_, rfl⟩
  rw [hn] at S1 ⊢
  simp only [ib, kz, wr1 (show i < 1000000 by omega)]
  have hlenT : ∀ w' K, biT P .len #[T.b] T.c [false] [vS g n cap] w' K = K (.int .i64 n) w' := fun w' K => by simp
  have t0 : l.take i = (l.take (i + 1)).filter fun x => !pf x := by
   rw [List.take_add_one, List.getElem?_eq_getElem hi, List.filter_append]
   have e1 : (l.take i).filter (fun x => !pf x) = l.take i := List.filter_eq_self.2 fun x hx => by
    obtain ⟨k, hk, rfl⟩ := List.mem_iff_getElem.1 hx
    rw [List.length_take] at hk
    rw [List.getElem_take, hpre k (by omega) (by omega)]; rfl
   rw [e1]
   simp [hpi]
  refine ⟨bqb w0 g n cap pf l R, fun v _ => n - ms v 1, ⟨i, i + 1, l, rfl, by omega, by omega, t0, rfl, S1⟩, ?_⟩
  clear t0 S1
  rintro v w2 ⟨i, j, l', rfl, hij, hjn, ht, hd, S2⟩
  have hl' := ut S2
  have g0 : gv [Value.int .i64 (i : Nat), .int .i64 (j : Nat)] 0 = .int .i64 (i : Nat) := rfl
  have g1 : gv [Value.int .i64 (i : Nat), .int .i64 (j : Nat)] 1 = .int .i64 (j : Nat) := rfl
  unfold M.f.j2
  simp only [ib, hlenT, g0, g1, lw]
  by_cases hj : j < n
  ·have hj' : (j : Int) < (n : Int) := by omega
   simp only [hj', decide_true, Eng.cond_true]
   unfold M.f.j3
   simp only [ib, g0, g1]
   have hjl : j < l.length := by omega
   have hjl' : j < l'.length := by omega
   have ej : l'[j] = l[j] := by
    have e1 := List.drop_eq_getElem_cons hjl'
    have e2 := List.drop_eq_getElem_cons hjl
    rw [e1, e2] at hd
    exact (List.cons.inj hd).1
   have ed : l'.drop (j + 1) = l.drop (j + 1) := by
    have e1 := List.drop_eq_getElem_cons hjl'
    have e2 := List.drop_eq_getElem_cons hjl
    rw [e1, e2] at hd
    exact (List.cons.inj hd).2
   have ef : (l.take (j + 1)).filter (fun x => !pf x) = (l.take j).filter (fun x => !pf x) ++ (if pf l[j] = true then [] else [l[j]]) := by
    rw [List.take_add_one, List.getElem?_eq_getElem hjl, List.filter_append]
    congr 1
    cases hp : pf l[j] <;> simp [hp]
   have i1 := fun w K => vm (g := g) (cap := cap) hj w K
   have i2 := fun w K => vm (g := g) (cap := cap) (show i < n by omega) w K
   have d1 := vr S2 hjl' ej
   simp [i1, d1, hj]
   have S3 : St w0 (w2.alloc (.cells #[.int .u64 0, .int .u64 0, .int .u64 0, .int .u64 0, .int .u64 0, .string ⟨#[]⟩, .string ⟨#[]⟩, .bool false] T.e)) (spB w2.heap.size wz :: _) := S2.mkB (ja wz).toArray T.e
   generalize w2.heap.size = sb at *
   generalize w2.alloc _ = w3 at *
   rw [ym]
   refine St.put (vs := ja l[j]) (cs' := (ja l[j]).toArray) S3 (og _) (by simp [ja]) rfl fun w4 S4 => ?_
   obtain ⟨_, _, sl⟩ := ta S4
   simp [sl]
   refine hf w4 [spB sb l[j], lh (vS g n cap) l'] l[j] _ S4 fun w5 f5 => ?_
   have S5 := S4.jt f5
   obtain ⟨_, _, sl5⟩ := ta S5
   cases hp : pf l[j] with
   | true =>
    rw [hp] at ef
    simp only [if_true, List.append_nil] at ef
    simp
    rw [wr1 (by omega)]
    exact ⟨⟨i, j + 1, l', rfl, by omega, by omega, by rw [ef]; exact ht, ed, S5.drop⟩, by simp [ms, gv]; omega⟩
   | false =>
    rw [hp] at ef
    simp only [Bool.false_eq_true, if_false] at ef
    have hi2 : (i : Int) < n := by omega
    simp [sl5, i2, hi2]
    refine aaa S5.drop (show i < l'.length by omega) l[j] fun w6 S6 => ?_
    rw [wr1 (show i < 1000000 by omega), wr1 (show j < 1000000 by omega)]
    refine ⟨⟨i + 1, j + 1, l'.set i l[j], rfl, by omega, by omega, ?_, ?_, S6⟩, by simp [ms, gv]; omega⟩
    ·rw [ef, ← ht, List.take_add_one, List.getElem?_set_self (by omega), List.take_set_of_le (Nat.le_refl i)]
     rfl
    ·rw [List.drop_set_of_lt (by omega)]
     exact ed
  ·have hj' : ¬ (j : Int) < (n : Int) := by omega
   have hje : j = n := by omega
   simp only [hj', decide_false, Eng.cond_false]
   have gx : gv [Value.int .i64 (j : Nat), .int .i64 (i : Nat)] 1 = .int .i64 (i : Nat) := rfl
   have hin : i < n := by omega
   have e1 : ∀ w' K, slT P T.b (vS g n cap) (some (.int .i64 (i : Nat))) none none w' K = K (.slice (some ⟨g, i * 8, none⟩) (n - i) (cap - i)) w' := fun w' K => by
    rw [bop (by kernel_rfl) (by omega) (by omega), show szE P T.b = 8 from by kernel_rfl]
    have : ¬ cap = i := by omega
    simp [this]
   have e2 : ∀ w' K, slT P T.b (vS g n cap) none (some (.int .i64 (i : Nat))) none w' K = K (vS g i cap) w' := fun w' K => by
    rw [bjf (by kernel_rfl) (by omega) (by omega)]
    simp
   simp only [gx, e1]
   refine bha (by' := 80) et.b (by kernel_rfl) lk S2 hin fun w3 S3 => ?_
   rw [e2]
   refine h w3 _ ?_
   rw [ht, hje, List.take_of_length_le (by omega)] at S3
   exact S3
end
abbrev osL (q hb p r : Nat) (es : List EnS) (cs : List TC) (lv : Value) (vs : List SV) (jc : List (List Int)) (L : Lg) (D : Dk) (R : List Asn) : List Asn :=
 lc q hb p r false :: jy r .u64 (mmE cs) :: lr es cs :: Eng.me T.f 1 rh lv vs :: qm (qq vs jc) :: nb p hb L :: iy hb D :: R
def OsI (w0 : World) (q hb p r : Nat) (lv : Value) (vs : List SV) (ms : List WrM) (L : Lg) (D : Dk) (R : List Asn) : KL := fun x w1 => ∃ (i : Nat) (cs : List TC), gv x 9 = .int .i64 (i : Nat) ∧ i ≤ ms.length ∧ cs.map (·.1) = mq (jk (ms.take i)) ∧ St w0 w1 (osL q hb p r (jk (ms.take i)) cs lv vs (ms.map pz) L D R)
def OsJ (w0 : World) (q hb p r : Nat) (es : List EnS) (b : Bal) (l : List Spn) (X : List Asn) : KL := fun x w1 => ∃ (j : Nat) (cs : List TC), x = [.int .i64 (j : Nat)] ∧ j ≤ l.length ∧ cs.map (·.1) = mq ((l.take j).foldl (na b) es) ∧ St w0 w1 (lc q hb p r false :: jy r .u64 (mmE cs) :: lr ((l.take j).foldl (na b) es) cs :: X)
section
variable {w0 w : World} {R : List Asn} {q hb p r : Nat} {L : Lg} {D D' : Dk} {G : Nat} {s f : Int} {im : Int} {Q' : List Prt} {ms : List WrM}
theorem axw {es : List EnS} (h : wo es) : ∀ e ∈ es, e.1.rng := fun e he => (h.rng e he).1
theorem bhy (S : St w0 w (iy hb D :: R)) (hmx : im < 9223372036854775808) (eo : aax D im = ((D', some Q'), 0)) (g : sd s f ⟨im, Q'⟩ G D') (es : (Lg.oh ⟨im, Q'⟩ D').2 = 0) (hr : jq Q' = ms.map pz) (hok : ∀ m ∈ ms, okM m) {K : KV}
  (h : ∀ w' q, St w0 w' (nw q hb (jk ms) ⟨im, Q'⟩ false :: iy hb (Lg.oh ⟨im, Q'⟩ D').1 :: R) → K (.tuple #[jx q, .int .i64 0]) w') : gr P F.dc [.pointer (some ⟨hb, 0, none⟩), .int .i64 im] w K := by
 rw [M.av.fcall]
 apply M.av.calls
 unfold M.av
 refine bmv S hmx (fun w2 hn _ => by rw [eo] at hn; cases hn) fun w2 p qs hs S2 => ?_
 rw [eo] at hs S2
 have hqs : qs = Q' := by simpa using (congrArg (·.1.2) hs).symm
 subst hqs
 simp only at S2
 simp only [jx]
 simp
 unfold M.av.j0
 rw [amj]
 have S3 := axa S2
 have z3 : (w2.alloc (.map #[] 0)).heap.size = w2.heap.size + 1 := jz _ _
 generalize hrr : w2.heap.size = r at *
 generalize w2.alloc (.map #[] 0) = w3 at *
 have e : ki P T.ak #[(0, .pointer (some ⟨hb, 0, none⟩)), (1, .pointer (some ⟨p, 0, none⟩)), (2, .map (some r))] w3 = fun K => K (.agg (aks hb p r false)) w3 := by funext K; simp [aks]
 rw [e]
 refine St.tt S3 fun q w4 S4 => ?_
 have S4c : St w0 w4 (lr [] [] :: iq q (aks hb p r false) T.ak :: jy r .u64 [] :: nb p hb ⟨im, qs⟩ :: iy hb D' :: R) := St.all.2 S4
 have S5 : St w0 w4 (nb p hb ⟨im, qs⟩ :: iy hb D' :: lc q hb p r false :: jy r .u64 (mmE []) :: lr [] [] :: R) := S4c.perm ((List.perm_append_comm (l₁ := [lr [] [], lc q hb p r false, jy r .u64 (mmE [])]) (l₂ := [nb p hb ⟨im, qs⟩, iy hb D'])).append_right R |>.trans (List.Perm.cons _ (List.Perm.cons _ (List.perm_middle (l₁ := [lc q hb p r false, jy r .u64 (mmE [])])).symm)))
 simp
 refine bim S5 g fun w5 rv S6 => ?_
 have hlen := fun w' K => agk S6 w' K
 have hall := atd S6.swap.drop.swap g
 obtain ⟨vs, hvs, S6u⟩ := afh S6
 simp only at hlen S6 hall S6u
 rw [hr] at hlen hvs S6u hall
 rw [List.length_map] at hlen hall hvs
 have S7 : St w0 w5 (osL q hb p r (jk (ms.take 0)) [] rv vs (ms.map pz) ⟨im, qs⟩ D' R) := S6u.perm ((List.perm_append_comm (l₁ := [Eng.me T.f 1 rh rv vs, qm (qq vs (ms.map pz)), nb p hb ⟨im, qs⟩, iy hb D']) (l₂ := [lc q hb p r false, jy r .u64 (mmE []), lr [] []])).append_right R)
 simp [hlen]
 refine ⟨OsI w0 q hb p r rv vs ms ⟨im, qs⟩ D' R, fun x _ => ms.length - Eng.ms x 9, ⟨0, [], rfl, Nat.zero_le _, rfl, S7⟩, ?_⟩
 rintro x w6 ⟨i, cs, e9, hi, hc, S8⟩
 have hm9 : Eng.ms x 9 = i := by unfold Eng.ms; rw [e9]; simp
 unfold M.av.j2
 rw [e9]
 by_cases hil : i < ms.length
 ·have hwi : IntKind.i64.wrap ((i : Int) + 1) = ((i + 1 : Nat) : Int) := by rw [ig]; rfl
  have hili : (i : Int) < (ms.length : Int) := by omega
  simp [hil]
  unfold M.av.j3
  rw [e9]
  obtain ⟨okb, okn, oks, okt, okl⟩ := hok _ (List.getElem_mem hil)
  have hivs : i < vs.length := by omega
  have Srow : St w0 w6 (Eng.me T.f 1 rh rv vs :: lc q hb p r false :: jy r .u64 (mmE cs) :: lr (jk (ms.take i)) cs :: qm (qq vs (ms.map pz)) :: nb p hb ⟨im, qs⟩ :: iy hb D' :: R) := St.up3 S8
  obtain ⟨b, o, cap, hv, _, _, hcc⟩ := (Srow.me vj : Sl w6 1 rh rv vs).at hivs
  have c0 := hcc 0 _ rfl
  simp only [Nat.mul_one, Nat.add_zero] at c0
  have hia : ∀ w' K, iaT P T.m rv (.int .i64 (i : Nat)) w' K = K (.pointer (some ⟨b, o + i, none⟩)) w' := fun w' K => by rw [hv]; simp [hivs]
  simp [hia, c0]
  have hrd : Rdv w0 (osL q hb p r (jk (ms.take i)) cs rv vs (ms.map pz) ⟨im, qs⟩ D' R) (vs[i]).v (nn ms[i].1 ms[i].2) := fun w' L' S' => by
   have S6 : St w0 w' (qm (qq vs (ms.map pz)) :: ((L' ++ [lc q hb p r false, jy r .u64 (mmE cs), lr (jk (ms.take i)) cs, Eng.me T.f 1 rh rv vs]) ++ (nb p hb ⟨im, qs⟩ :: iy hb D' :: R))) := S'.perm (by
    have := List.perm_middle (l₁ := L' ++ [lc q hb p r false, jy r .u64 (mmE cs), lr (jk (ms.take i)) cs, Eng.me T.f 1 rh rv vs]) (a := qm (qq vs (ms.map pz))) (l₂ := nb p hb ⟨im, qs⟩ :: iy hb D' :: R)
    simpa using this)
   have S7 := St.alj (j := i) (L := qq vs (ms.map pz)) (by simp [qq]; omega) S6
   unfold qq at S7
   rw [List.getElem_zipWith] at S7
   have := S7.row ka
   simpa [pz] using this
  refine bfv S8 hrd okb okn oks okt (by omega) fun w7 v5 S9 => ?_
  simp
  have S10 := aeh S9
  generalize w7.heap.size = tb at *
  generalize w7.alloc _ = w8 at *
  refine acd (y := ms[i].1) S10 fun w9 S11 => ?_
  unfold M.av.j5
  have S11r : St w0 w9 (lh v5 ms[i].2 :: baB tb ms[i].1 :: osL q hb p r (jk (ms.take i)) cs rv vs (ms.map pz) ⟨im, qs⟩ D' R) := S11.swap
  have hlv : ∀ w' K, biT P .len #[T.b] T.c [false] [v5] w' K = K (.int .i64 ms[i].2.length) w' := fun w' K => (S11r.row lk).jb (by kernel_rfl) [false]
  simp [hlv]
  have S12 : St w0 w9 (lc q hb p r false :: jy r .u64 (mmE cs) :: lr (jk (ms.take i)) cs :: lh v5 ms[i].2 :: baB tb ms[i].1 :: Eng.me T.f 1 rh rv vs :: qm (qq vs (ms.map pz)) :: nb p hb ⟨im, qs⟩ :: iy hb D' :: R) := S11r.perm ((List.perm_append_comm (l₁ := [lh v5 ms[i].2, baB tb ms[i].1]) (l₂ := [lc q hb p r false, jy r .u64 (mmE cs), lr (jk (ms.take i)) cs])).append_right _)
  have het : wo (jk (ms.take i)) := acx fun m hm => hok m (List.mem_of_mem_take hm)
  refine ⟨OsJ w0 q hb p r (jk (ms.take i)) ms[i].1 ms[i].2 (lh v5 ms[i].2 :: baB tb ms[i].1 :: Eng.me T.f 1 rh rv vs :: qm (qq vs (ms.map pz)) :: nb p hb ⟨im, qs⟩ :: iy hb D' :: R), fun y _ => ms[i].2.length - Eng.ms y 0, ⟨0, cs, rfl, Nat.zero_le _, hc, S12⟩, ?_⟩
  rintro y w10 ⟨j, cs2, rfl, hj, hc2, S13⟩
  by_cases hjl : j < ms[i].2.length
  ·have hwj : IntKind.i64.wrap ((j : Int) + 1) = ((j + 1 : Nat) : Int) := by rw [ig]; rfl
   simp [hjl]
   unfold M.av.j7
   obtain ⟨b2, o2, cap2, hv2, _, _, hc5⟩ := (S13.up3.row lk : SlS w10 v5 ms[i].2).at hjl
   have hia2 : ∀ w' K, iaT P T.b v5 (.int .i64 (j : Nat)) w' K = K (.pointer (some ⟨b2, o2 + j * 8, none⟩)) w' := fun w' K => by rw [hv2]; simp [hjl]
   have hld : ∀ K, ldN P 8 b2 (o2 + j * 8) w10 K = K (ko ms[i].2[j]) w10 := fun K => po (ja ms[i].2[j]) 8 rfl hc5 K
   simp [hia2, hld]
   have S14 : St w0 (w10.alloc (.cells #[.int .u64 0, .int .u64 0, .int .u64 0, .int .u64 0, .int .u64 0, .string ⟨#[]⟩, .string ⟨#[]⟩, .bool false] T.e)) (spB w10.heap.size wz :: _) := S13.mkB (ja wz).toArray T.e
   generalize w10.heap.size = sb at *
   generalize w10.alloc _ = w11 at *
   rw [ym]
   refine St.put (vs := ja ms[i].2[j]) (cs' := (ja ms[i].2[j]).toArray) S14 (og _) (by simp [ja]) rfl fun w12 S15 => ?_
   obtain ⟨_, _, sl⟩ := ta S15
   obtain ⟨_, _, bl⟩ := pm (up5 S15)
   simp [sl, bl]
   have het2 : wo ((ms[i].2.take j).foldl (na ms[i].1) (jk (ms.take i))) := afv okb (fun z hz => oks z (List.mem_of_mem_take hz)) het
   refine axi S15.drop hc2 (axw het2) ms[i].1 ms[i].2[j] fun w13 cs3 hc3 S16 => ?_
   rw [hwj]
   have ef : (ms[i].2.take (j + 1)).foldl (na ms[i].1) (jk (ms.take i)) = na ms[i].1 ((ms[i].2.take j).foldl (na ms[i].1) (jk (ms.take i))) ms[i].2[j] := by
    rw [List.take_add_one, List.getElem?_eq_getElem hjl, List.foldl_append]
    rfl
   refine ⟨⟨j + 1, cs3, rfl, by omega, by rw [ef]; exact hc3, by rw [ef]; exact S16⟩, by simp [Eng.ms, gv]; omega⟩
  ·have hje : j = ms[i].2.length := by omega
   subst hje
   simp
   rw [List.take_length] at hc2 S13
   have ee : jk (ms.take (i + 1)) = ms[i].2.foldl (na ms[i].1) (jk (ms.take i)) := by
    rw [List.take_add_one, List.getElem?_eq_getElem hil]
    exact apf _ _
   rw [hwi]
   refine ⟨⟨i + 1, cs2, rfl, by omega, by rw [ee]; exact hc2, ?_⟩, ?_⟩
   ·rw [ee]
    have S14 := (S13.up4.drop).up3.drop
    exact S14
   ·rw [hm9]; simp [Eng.ms, gv]; omega
 ·have hie : i = ms.length := by omega
  subst hie
  rw [List.take_length] at hc S8
  simp
  unfold M.av.j1
  have S9 : St w0 w6 (nb p hb ⟨im, qs⟩ :: iy hb D' :: lc q hb p r false :: jy r .u64 (mmE cs) :: lr (jk ms) cs :: R) := by
   have T1 := (S8.up3.drop).up3.drop
   exact T1.perm ((List.perm_append_comm (l₁ := [lc q hb p r false, jy r .u64 (mmE cs), lr (jk ms) cs]) (l₂ := [nb p hb ⟨im, qs⟩, iy hb D'])).append_right R)
  refine arf (p := p) S9 (by have := g.vir.len; simp only at this ⊢; omega) fun w7 S10 => ?_
  rw [es]
  simp
  have S11 : St w0 w7 ([lc q hb p r false, jy r .u64 (mmE cs), lr (jk ms) cs, nb p hb ⟨im, qs⟩, iy hb (Lg.oh ⟨im, qs⟩ D').1] ++ R) := S10.perm ((List.perm_append_comm (l₁ := [nb p hb ⟨im, qs⟩, iy hb (Lg.oh ⟨im, qs⟩ D').1]) (l₂ := [lc q hb p r false, jy r .u64 (mmE cs), lr (jk ms) cs])).append_right R)
  exact h w7 q (aqm hc S11)
end
theorem agz (w : World) (K : KV) : taT P .nilIface T.au T.j true w K = K (.tuple #[.agg #[.int .u64 0, .int .u64 0, .int .u64 0, .slice none 0 0], .bool false]) w := kr
theorem ass {w : World} {p : Pk} {ls : List Spn} {lm : List Mem} {lu : List Int} {t : Value} (h : ThR w p ls lm lu t) (hk : ¬ p.ip = 9) (w' : World) (K : KV) : taT P t T.au T.j true w' K = K (.tuple #[.agg #[.int .u64 0, .int .u64 0, .int .u64 0, .slice none 0 0], .bool false]) w' := by
 cases h with
 | om v q hs => exact amv _ _ _
 | ahx v q hs => exact ajx _ _ _
 | ask q => exact aqd _ _ _
 | aaf q => exact ams _ _ _
 | wg q => exact aoa _ _ _
 | xu v q hs => exact absurd q hk
 | aac v q hs => exact xe _ _ _
 | none q => exact agz _ _
theorem aud {w : World} {p : Pk} {ls : List Spn} {lm : List Mem} {lu : List Int} {t : Value} (h : ThR w p ls lm lu t) (hk : p.ip = 9) : ∃ v, t = .iface T.j (.agg #[.int .u64 p.tr, .int .u64 p.b.n, .int .u64 p.b.jl, v]) ∧ SlS w v ls := by
 cases h with
 | xu v q hs => exact ⟨v, rfl, hs⟩
 | om v q hs => omega
 | ahx v q hs => omega
 | ask q => omega
 | aaf q => omega
 | wg q => omega
 | aac v q hs => omega
 | none q => omega
section
variable {w0 w : World} {R : List Asn} {q hb p r : Nat} {es : List EnS} {L : Lg} {dn : Bool} {D : Dk} {cs : List TC}
theorem biq (hc : cs.map (·.1) = mq es) {X : List Asn} : anm w0 (lc q hb p r dn :: jy r .u64 (mmE cs) :: lr es cs :: X) (.func (.func F.aq) #[jx q] #[]) (un es) := by
 intro w' L' x K S' hK
 have e := aup (P := P) FN.aq.at (by kernel_rfl) (by kernel_rfl) [jx q] [] [ko x] w' K
 rw [show (Value.func (.func F.aq) #[jx q] #[]) = .func (.func F.aq) ([jx q] : List Value).toArray ([] : List Value).toArray from rfl, e]
 have f := M.bx.fcall [jx q, ko x] w' K
 have S1 : St w0 w' (lc q hb p r dn :: jy r .u64 (mmE cs) :: lr es cs :: (L' ++ X)) := S'.perm (by
  have := (List.perm_append_comm (l₁ := L') (l₂ := [lc q hb p r dn, jy r .u64 (mmE cs), lr es cs])).append_right X
  simpa using this)
 have g := bkg S1 hc x hK
 rw [f] at g
 exact g
theorem bfz {v : Value} {l : List Int} (S : St w0 w (nq T.g 1 pi v l :: R)) (hl : l.length < 60000) {K : KV} (h : ∀ w', St w0 w' (nq T.g 1 pi v (Suint64.mo l) :: R) → K (.tuple #[]) w') : gr P F.d [v] w K := by
 obtain ⟨B, ⟨h1, h2⟩, hB, cl⟩ := S.open
 rw [M.ey.fcall]
 rcases h1.2 with ⟨rfl, h0⟩ | ⟨g1, cap1, cur, rfl, hb1, _⟩
 ·refine Suint64.zj (h w ?_)
  have hx0 : l = [] := List.length_eq_zero_iff.1 h0
  subst hx0
  rw [show Suint64.mo [] = [] from by simp [Suint64.mo]]
  exact S
 ·have h1' : Suint64.OwN w 0 (.slice (some ⟨g1, 0, none⟩) l.length cap1) l := h1
  obtain ⟨_, hbg, hcm, hrw⟩ := Suint64.Ow.rw h1'
  refine Suint64.aao hrw (by simp) hl fun w2 H2 => ?_
  have hll : (Suint64.mo l).length = l.length := (Suint64.nu l).length_eq
  have o := Suint64.aqk (base := 0) (l := Suint64.mo l) hbg hcm (Suint64.alo H2)
  rw [hll] at o
  refine h w2 (cl w2 [nq T.g 1 pi (.slice (some ⟨g1, 0, none⟩) l.length cap1) (Suint64.mo l)] ((Suint64.aqs H2).mono fun b _ hb => by rw [hb]; exact h2 g1 rfl) (Rs.one (B := B) ⟨o, h2⟩ fun x hx => .inl hx))
def pr (L : Lg) (D : Dk) (b : Bal) (l : List Spn) : (Lg × Dk) × Int := if l = [] then ((L, D), 0) else wrF L D [nn b l]
theorem bah {G : Nat} {s f : Int} {lv : Value} {l : List Spn} {b : Bal} (S : St w0 w (lc q hb p r false :: nb p hb L :: iy hb D :: R)) (hs : ∀ w' L', St w0 w' (L' ++ R) → SlS w' lv l) (hr : ∀ s ∈ l, ly s = 0) (hl : l.length ≤ 60) (hg : sd s f L G D) (hn : f + (jq L.ii).length + 1 ≤ 1000000000000) {K : KV}
  (h : ∀ w', St w0 w' (lc q hb p r (decide ((pr L D b l).2 = 10)) :: nb p hb (pr L D b l).1.1 :: iy hb (pr L D b l).1.2 :: R) → K (.int .i64 (pr L D b l).2) w') : gr P F.bu [jx q, kt b, lv] w K := by
 unfold pr at h
 by_cases he : l = []
 ·rw [if_pos he] at h
  subst he
  exact azo S (hs w [_, _, _] S) fun w' S' => h w' (by simpa using S')
 ·rw [if_neg he] at h
  exact beg S hs he hr hl hg hn fun w' S' => h w' (by simpa using S')
end
abbrev rk (l : List Spn) : List Int := Suint64.mo (l.map Spn.id)
theorem bfp (l : List Int) : (Suint64.mo l).Pairwise fun a b => a ≤ b := by
 have := List.pairwise_mergeSort (le := fun x y : Int => decide (x ≤ y)) (fun a b c h1 h2 => by simp at *; omega) (fun a b => by simp; omega) l
 exact this.imp fun h => by simpa using h
theorem axb : ∀ {l : List Int} {x : Int}, (∀ y ∈ l, x < y) → l.Pairwise (fun a b => a < b) → sm x l = true
 | [], _, _, _ => rfl
 | y :: r, x, h, hp => by
  rw [sm]
  rw [List.pairwise_cons] at hp
  simp only [Bool.and_eq_true, decide_eq_true_eq]
  exact ⟨h y (by simp), axb hp.1 hp.2⟩
theorem bch {s : Spn} (h : ly s = 0) (hr : wt s) : 0 < s.id ∧ 0 < s.iu := by
 unfold ly at h
 split at h
 ·cases h
 ·rename_i hn
  have h1 := hr.id.1
  have h2 := hr.tr.1
  have := not_or.1 hn
  have h3 := not_or.1 this.2
  exact ⟨by omega, by omega⟩
theorem bea {tr : Int} {l : List Spn} (ht : 0 < tr) (hne : l ≠ []) (hl : l.length ≤ 16) (hn : (l.map Spn.id).Nodup) (hk : ∀ s ∈ l, ly s = 0 ∧ wt s) (v' : Value) : tg (vk tr v') [] [] (rk l) = true := by
 have hp := Suint64.nu (l.map Spn.id)
 have hlen := hp.length_eq
 rw [List.length_map] at hlen
 have hpos := List.length_pos_iff.2 hne
 have hlt : (rk l).Pairwise fun a b => a < b := by
  have h1 := bfp (l.map Spn.id)
  have h2 : (rk l).Nodup := hp.nodup_iff.2 hn
  have h3 := List.nodup_iff_pairwise_ne.1 h2
  exact (h1.and h3).imp fun h => by have := h.1; have := h.2; omega
 have hr : sm 0 (rk l) = true := axb (fun y hy => by
  obtain ⟨s, hs, rfl⟩ := List.mem_map.1 (hp.mem_iff.1 hy)
  exact (bch (hk s hs).1 (hk s hs).2).1) hlt
 have hle : (rk l).length = l.length := hlen
 unfold tg aej sj nf
 simp [vk, lx, px, qc, qd, td, mw, hr, ht, hle, iz]
 omega
abbrev ug (ab : Nat) (tr : Int) (b : Bal) (v : Value) : Asn := iq ab #[.int .u64 tr, .int .u64 b.n, .int .u64 b.jl, v] T.j
abbrev akB (kb : Nat) (tr : Int) (v : Value) : Asn := iq kb #[.int .u64 tr, v] T.o
def bpz (w0 : World) (kb : Nat) (tr : Int) (ls : List Spn) (X : List Asn) : KL := fun x w1 => ∃ (i : Nat) (v : Value), x = [.int .i64 (i : Nat)] ∧ i ≤ ls.length ∧ St w0 w1 (akB kb tr v :: nq T.g 1 pi v ((ls.take i).map Spn.id) :: X)
section
variable {w0 w : World} {R : List Asn} {q hb p r ab tb kb : Nat} {es : List EnS} {L : Lg} {dn : Bool} {D : Dk} {cs : List TC} {tr : Int} {b : Bal} {v v3 : Value} {ls fl : List Spn}
theorem abi (S : St w0 w (ug ab tr b v :: R)) : ic w ab 0 = some (.int .u64 tr) ∧ (∀ K, ldN P 2 ab 1 w K = K (kt b) w) ∧ ic w ab 3 = some v :=
 ⟨by rw [S.cell]; rfl, fun K => S.ldA [.int .u64 b.n, .int .u64 b.jl] rfl rfl K, by rw [S.cell]; rfl⟩
theorem akl (S : St w0 w (akB kb tr v :: R)) : ic w kb 0 = some (.int .u64 tr) ∧ ic w kb 1 = some v ∧ ∀ K, ldN P 2 kb 0 w K = K (.agg #[.int .u64 tr, v]) w :=
 ⟨by rw [S.cell]; rfl, by rw [S.cell]; rfl, fun K => S.ldA (n := 2) (i := 0) [.int .u64 tr, v] rfl rfl K⟩
theorem bgw (S : St w0 w (akB kb tr (.slice none 0 0) :: R)) (hs : ∀ w' L, St w0 w' (L ++ R) → SlS w' v ls) (hl : ls.length ≤ 1000) {G : World → Prop} {K : KV}
  (h : ∀ w' v2, St w0 w' (akB kb tr v2 :: nq T.g 1 pi v2 (ls.map Spn.id) :: R) → G w') :
  jh [.int .i64 0] w fun K4 x4 w => ij P .lss T.c (.tmp 71) (.tmp 70) (gv x4 0) (.int .i64 (ls.length : Nat)) w fun t72 w => ia t72 (M.e.j5 v x4 (.pointer (some ⟨kb, 0, none⟩)) K4 w K) (G w) := by
 have S0 : St w0 w (nq T.g 1 pi (.slice none 0 0) ([] : List Int) :: akB kb tr (.slice none 0 0) :: R) := Go.Eng.pw S
 refine ⟨bpz w0 kb tr ls R, fun x _ => ls.length - ms x 0, ⟨0, _, rfl, Nat.zero_le _, S0.swap⟩, ?_⟩
 rintro x w1 ⟨i, va, rfl, hi, S1⟩
 by_cases hil : i < ls.length
 ·have hwi : IntKind.i64.wrap ((i : Int) + 1) = ((i + 1 : Nat) : Int) := by rw [ig]; rfl
  simp [hil]
  unfold M.e.j5
  obtain ⟨b2, o2, cap2, hv2, _, _, hc5⟩ := (hs w1 [_, _] S1).at hil
  have hia2 : ∀ w' K, iaT P T.b v (.int .i64 (i : Nat)) w' K = K (.pointer (some ⟨b2, o2 + i * 8, none⟩)) w' := fun w' K => by rw [hv2]; simp [hil]
  have hld : ∀ K, ldN P 8 b2 (o2 + i * 8) w1 K = K (ko ls[i]) w1 := fun K => po (ja ls[i]) 8 rfl hc5 K
  simp [hia2, hld]
  have S2 : St w0 (w1.alloc (.cells #[.int .u64 0, .int .u64 0, .int .u64 0, .int .u64 0, .int .u64 0, .string ⟨#[]⟩, .string ⟨#[]⟩, .bool false] T.e)) (spB w1.heap.size wz :: _) := S1.mkB (ja wz).toArray T.e
  generalize w1.heap.size = sb at *
  generalize w1.alloc _ = w2 at *
  rw [ym]
  refine St.put (vs := ja ls[i]) (cs' := (ja ls[i]).toArray) S2 (og _) (by simp [ja]) rfl fun w3 S3 => ?_
  obtain ⟨_, x1, _⟩ := ta S3
  obtain ⟨_, k1, _⟩ := akl S3.swap
  simp [x1, k1]
  have S4 : St w0 (w3.alloc (.cells #[.int .u64 ls[i].id] T.g)) (nq T.g 1 pi (.slice (some ⟨w3.heap.size, 0, none⟩) 1 1) [ls[i].id] :: _) := St.su (l := [ls[i].id]) S3 pu rfl (by simp [maxLen])
  have S5 := S4.up3
  refine Go.Eng.qj et.h pu akh S5 (S4.row pu) (by simp; omega) (by decide) fun w5 v5 S6 => ?_
  have S7 : St w0 w5 (akB kb tr va :: nq T.g 1 pi v5 ((ls.take i).map Spn.id ++ [ls[i].id]) :: R) := (S6.swap.drop.swap.drop).swap
  have hst : ∀ w' K, stT P T.h (.pointer (some ⟨kb, 1, none⟩)) v5 w' K = st1 P kb 1 v5 w' K := fun w' K => by
   obtain ⟨a, c, e, _⟩ := (S7.swap.row pu : SlU w5 v5 _)
   rw [e]; simp
  have hv5 : kq v5 = true := by
   obtain ⟨a, c, e, _⟩ := (S7.swap.row pu : SlU w5 v5 _)
   rw [e]; rfl
  simp [hst]
  refine S7.vy hv5 (by simp) fun w8 S8 => ?_
  rw [hwi]
  refine ⟨⟨i + 1, v5, rfl, by omega, ?_⟩, by simp [ms, gv]; omega⟩
  rw [List.take_add_one, List.getElem?_eq_getElem hil, List.map_append]
  exact S8
 ·have hie : i = ls.length := by omega
  subst hie
  rw [List.take_length] at S1
  simp
  exact h w1 va S1
end
def bov (w0 : World) (q hb p r : Nat) (es : List EnS) (b : Bal) (l : List Spn) (X : List Asn) : KL := fun x w1 => ∃ (j : Nat) (cs : List TC), x = [.int .i64 (j : Nat)] ∧ j ≤ l.length ∧ cs.map (·.1) = mq ((l.take j).foldl (na b) es) ∧ St w0 w1 (lc q hb p r false :: jy r .u64 (mmE cs) :: lr ((l.take j).foldl (na b) es) cs :: X)
section
variable {w0 w : World} {R : List Asn} {q hb p r ab tb kb : Nat} {es : List EnS} {L : Lg} {dn : Bool} {D : Dk} {cs : List TC} {tr : Int} {b : Bal} {v v3 : Value} {ls fl : List Spn}
theorem bej (S : St w0 w (lc q hb p r false :: jy r .u64 (mmE cs) :: lr es cs :: ug ab tr b v :: rdA 8 ja v3 fl :: R)) (hc : cs.map (·.1) = mq es) (he : wo es) (hb' : b.rng) (hk : ∀ s ∈ fl, ly s = 0 ∧ wt s) (hl : fl.length ≤ 1000) {G : World → Prop} {K : KV}
  (h : ∀ w' cs', cs'.map (·.1) = mq (fl.foldl (na b) es) → St w0 w' (lc q hb p r false :: jy r .u64 (mmE cs') :: lr (fl.foldl (na b) es) cs' :: ug ab tr b v :: rdA 8 ja v3 fl :: R) → G w') :
  jh [.int .i64 0] w fun K8 x8 w => ij P .lss T.c (.tmp 88) (.tmp 87) (gv x8 0) (.int .i64 (fl.length : Nat)) w fun t89 w => ia t89 (M.e.j9 v3 x8 (.pointer (some ⟨ab, 0, none⟩)) (.pointer (some ⟨q, 0, none⟩)) K8 w K) (G w) := by
 refine ⟨bov w0 q hb p r es b fl (ug ab tr b v :: rdA 8 ja v3 fl :: R), fun x _ => fl.length - ms x 0, ⟨0, cs, rfl, Nat.zero_le _, hc, S⟩, ?_⟩
 rintro x w1 ⟨j, cs2, rfl, hj, hc2, S1⟩
 by_cases hjl : j < fl.length
 ·have hwj : IntKind.i64.wrap ((j : Int) + 1) = ((j + 1 : Nat) : Int) := by rw [ig]; rfl
  simp [hjl]
  unfold M.e.j9
  have S1r : St w0 w1 (rdA 8 ja v3 fl :: lc q hb p r false :: jy r .u64 (mmE cs2) :: lr ((fl.take j).foldl (na b) es) cs2 :: ug ab tr b v :: R) := S1.up4
  obtain ⟨b2, o2, cap2, hv2, _, _, hc5⟩ := (S1r.rd : SlS w1 v3 fl).at hjl
  have hia2 : ∀ w' K, iaT P T.b v3 (.int .i64 (j : Nat)) w' K = K (.pointer (some ⟨b2, o2 + j * 8, none⟩)) w' := fun w' K => by rw [hv2]; simp [hjl]
  have hld : ∀ K, ldN P 8 b2 (o2 + j * 8) w1 K = K (ko fl[j]) w1 := fun K => po (ja fl[j]) 8 rfl hc5 K
  simp [hia2, hld]
  have S2 : St w0 (w1.alloc (.cells #[.int .u64 0, .int .u64 0, .int .u64 0, .int .u64 0, .int .u64 0, .string ⟨#[]⟩, .string ⟨#[]⟩, .bool false] T.e)) (spB w1.heap.size wz :: _) := S1.mkB (ja wz).toArray T.e
  generalize w1.heap.size = sb at *
  generalize w1.alloc _ = w2 at *
  rw [ym]
  refine St.put (vs := ja fl[j]) (cs' := (ja fl[j]).toArray) S2 (og _) (by simp [ja]) rfl fun w3 S3 => ?_
  obtain ⟨_, _, sl⟩ := ta S3
  obtain ⟨_, bl, _⟩ := abi S3.up4
  simp [sl, bl]
  have he2 : wo ((fl.take j).foldl (na b) es) := afv hb' (fun z hz => hk z (List.mem_of_mem_take hz)) he
  refine axi S3.drop hc2 (axw he2) b fl[j] fun w4 cs3 hc3 S4 => ?_
  rw [hwj]
  have ef : (fl.take (j + 1)).foldl (na b) es = na b ((fl.take j).foldl (na b) es) fl[j] := by
   rw [List.take_add_one, List.getElem?_eq_getElem hjl, List.foldl_append]
   rfl
  exact ⟨⟨j + 1, cs3, rfl, by omega, by rw [ef]; exact hc3, by rw [ef]; exact S4⟩, by simp [ms, gv]; omega⟩
 ·have hje : j = fl.length := by omega
  subst hje
  simp
  rw [List.take_length] at hc2 S1
  exact h w1 cs2 hc2 S1
theorem bkl (S : St w0 w (lc q hb p r false :: jy r .u64 (mmE cs) :: lr es cs :: ug ab tr b v :: rdA 8 ja v3 fl :: rdA 8 ja v ls :: iq tb (pkC pkZ).toArray T.a :: R)) (hc : cs.map (·.1) = mq es) (he : wo es) (hb' : b.rng) (htr : 0 < tr) (htu : uo tr) (hne : ls ≠ []) (hn : (ls.map Spn.id).Nodup) (hk : ∀ s ∈ ls, ly s = 0 ∧ wt s) (hl : ls.length ≤ 16) (hkf : ∀ s ∈ fl, ly s = 0 ∧ wt s) (hlf : fl.length ≤ 16) {K : KV}
  (h : ∀ w' cs' v', cs'.map (·.1) = mq (fl.foldl (na b) es) → St w0 w' (rdA 1 pi v' (rk ls) :: rdA 8 ja v3 fl :: lc q hb p r false :: jy r .u64 (mmE cs') :: lr (fl.foldl (na b) es) cs' :: R) → K (.tuple #[pkA (vk tr v'), v3, .int .i64 0]) w') :
  M.e.j2 (.pointer (some ⟨ab, 0, none⟩)) v3 (.pointer (some ⟨q, 0, none⟩)) (.pointer (some ⟨tb, 0, none⟩)) w K := by
 unfold M.e.j2
 obtain ⟨a0, _, a3⟩ := abi S.up3
 simp [a0]
 have S1 : St w0 (w.alloc (.cells #[.int .u64 0, .slice none 0 0] T.o)) (akB w.heap.size 0 (.slice none 0 0) :: _) := S.mkB #[.int .u64 0, .slice none 0 0] T.o
 generalize w.heap.size = kb at *
 generalize w.alloc _ = w1 at *
 refine St.put (vs := [.int .u64 tr, .slice none 0 0]) (cs' := #[.int .u64 tr, .slice none 0 0]) S1 (by simp [kq]) (by simp) rfl fun w2 S2 => ?_
 obtain ⟨_, _, a3'⟩ := abi S2.up4
 have S2r : St w0 w2 (rdA 8 ja v ls :: akB kb tr (.slice none 0 0) :: lc q hb p r false :: jy r .u64 (mmE cs) :: lr es cs :: ug ab tr b v :: rdA 8 ja v3 fl :: iq tb (pkC pkZ).toArray T.a :: R) := up6 S2
 have hlv : ∀ w' K, biT P .len #[T.b] T.c [false] [v] w' K = K (.int .i64 ls.length) w' := fun w' K => (S2r.rd : SlS w2 v ls).jb (by kernel_rfl) [false]
 simp [a3', hlv]
 refine bgw (v := v) (ls := ls) S2 (fun w' L' S' => ?_) (by omega) fun w3 v2 S3 => ?_
 ·have S6 : St w0 w' ((L' ++ [lc q hb p r false, jy r .u64 (mmE cs), lr es cs, ug ab tr b v, rdA 8 ja v3 fl]) ++ (rdA 8 ja v ls :: iq tb (pkC pkZ).toArray T.a :: R)) := by simpa using S'
  exact (S6.perm List.perm_middle).rd
 unfold M.e.j3
 obtain ⟨_, k1, _⟩ := akl S3
 simp [k1]
 have S3r := S3.swap
 refine bfz S3r (by simp; omega) fun w4 S4 => ?_
 have S4v : St w0 w4 (rdA 8 ja v3 fl :: nq T.g 1 pi v2 (rk ls) :: akB kb tr v2 :: lc q hb p r false :: jy r .u64 (mmE cs) :: lr es cs :: ug ab tr b v :: rdA 8 ja v ls :: iq tb (pkC pkZ).toArray T.a :: R) := up6 S4
 have hlf' : ∀ w' K, biT P .len #[T.b] T.c [false] [v3] w' K = K (.int .i64 fl.length) w' := fun w' K => (S4v.rd : SlS w4 v3 fl).jb (by kernel_rfl) [false]
 simp [hlf']
 have S5 : St w0 w4 (lc q hb p r false :: jy r .u64 (mmE cs) :: lr es cs :: ug ab tr b v :: rdA 8 ja v3 fl :: nq T.g 1 pi v2 (rk ls) :: akB kb tr v2 :: rdA 8 ja v ls :: iq tb (pkC pkZ).toArray T.a :: R) := S4.perm ((List.perm_append_comm (l₁ := [nq T.g 1 pi v2 (rk ls), akB kb tr v2]) (l₂ := [lc q hb p r false, jy r .u64 (mmE cs), lr es cs, ug ab tr b v, rdA 8 ja v3 fl])).append_right _)
 refine bej S5 hc he hb' hkf (by omega) fun w5 cs' hc' S6 => ?_
 unfold M.e.j7
 obtain ⟨_, _, kl⟩ := akl (up6 S6)
 simp [kl]
 have S6u : St w0 w5 (nq T.g 1 pi v2 (rk ls) :: lc q hb p r false :: jy r .u64 (mmE cs') :: lr (fl.foldl (na b) es) cs' :: ug ab tr b v :: rdA 8 ja v3 fl :: akB kb tr v2 :: rdA 8 ja v ls :: iq tb (pkC pkZ).toArray T.a :: R) := up5 S6
 have hll : (rk ls).length = ls.length := by rw [(Suint64.nu _).length_eq, List.length_map]
 refine awd (S6u.row pu) (by omega) htu (bea htr hne hl hn hk) fun w6 v6 s6 o6 f6 => ?_
 have hv6 : ∃ bb, v6.ownBlock = some bb ∧ bb < w6.heap.size := by
  have hpos := List.length_pos_iff.2 hne
  obtain ⟨x, hx⟩ := List.exists_mem_of_length_pos (l := rk ls) (by omega)
  exact s6.lt hx
 have S7 : St w0 w6 (rdA 1 pi v6 (rk ls) :: _) := S6u.add f6 (a := rdA 1 pi v6 (rk ls)) (B := fun y => v6.ownBlock = some y) ⟨s6, fun y hy => hy⟩ fun y hy => by
  obtain ⟨bb, h1, h2⟩ := hv6
  rw [h1] at hy
  cases hy
  exact ⟨o6 _ h1, h2⟩
 simp
 have S8 := agb S7
 generalize w6.heap.size = pb at *
 generalize w6.alloc _ = w7 at *
 have one6 := agm (tr := tr) s6
 rw [aii]
 refine als (q := vk tr v6) S8 rfl one6 fun w8 S9 => ?_
 have pl := fun K => xf S9 K
 simp [pl]
 rw [aii]
 have S9t : St w0 w8 (iq tb (pkC pkZ).toArray T.a :: iq pb (pkC (vk tr v6)).toArray T.a :: rdA 1 pi v6 (rk ls) :: nq T.g 1 pi v2 (rk ls) :: lc q hb p r false :: jy r .u64 (mmE cs') :: lr (fl.foldl (na b) es) cs' :: ug ab tr b v :: rdA 8 ja v3 fl :: akB kb tr v2 :: rdA 8 ja v ls :: R) := S9.perm (List.perm_middle (l₁ := [_, _, _, _, _, _, _, _, _, _]))
 refine asm S9t rfl one6 (K := fun r0 w => K (.tuple #[r0, v3, .int .i64 0]) w) fun w9 S10 => ?_
 refine h w9 cs' v6 hc' ?_
 have T1 : St w0 w9 (rdA 1 pi v6 (rk ls) :: nq T.g 1 pi v2 (rk ls) :: lc q hb p r false :: jy r .u64 (mmE cs') :: lr (fl.foldl (na b) es) cs' :: ug ab tr b v :: rdA 8 ja v3 fl :: akB kb tr v2 :: rdA 8 ja v ls :: R) := S10.drop.drop
 have T2 := T1.swap.drop
 -- [rd v6, sto, map, cel, std, rd v3, ak, rd v, R]
 have T3 : St w0 w9 (rdA 8 ja v ls :: akB kb tr v2 :: ug ab tr b v :: rdA 1 pi v6 (rk ls) :: lc q hb p r false :: jy r .u64 (mmE cs') :: lr (fl.foldl (na b) es) cs' :: rdA 8 ja v3 fl :: R) := by
  have U1 : St w0 w9 (ug ab tr b v :: rdA 1 pi v6 (rk ls) :: lc q hb p r false :: jy r .u64 (mmE cs') :: lr (fl.foldl (na b) es) cs' :: rdA 8 ja v3 fl :: akB kb tr v2 :: rdA 8 ja v ls :: R) := T2.up4
  have U2 : St w0 w9 (akB kb tr v2 :: ug ab tr b v :: rdA 1 pi v6 (rk ls) :: lc q hb p r false :: jy r .u64 (mmE cs') :: lr (fl.foldl (na b) es) cs' :: rdA 8 ja v3 fl :: rdA 8 ja v ls :: R) := up6 U1
  exact U2.perm (List.perm_middle (l₁ := [_, _, _, _, _, _, _]))
 have T4 := T3.drop.drop.drop
 have T5 : St w0 w9 (rdA 8 ja v3 fl :: rdA 1 pi v6 (rk ls) :: lc q hb p r false :: jy r .u64 (mmE cs') :: lr (fl.foldl (na b) es) cs' :: R) := T4.up4
 exact T5.swap
end
section
variable {w0 w : World} {R : List Asn} {q hb : Nat} {es : List EnS} {L : Lg} {dn : Bool} {D : Dk} {s f : Int} {p : Pk} {ls : List Spn} {lm : List Mem} {lu : List Int}
theorem baf {tb : Nat} {R1 : List Asn} (S : St w0 w (iq tb (pkC pkZ).toArray T.a :: R1)) {k : Int} {K : KV} (h : ∀ w', St w0 w' R1 → K (.tuple #[pkA pkZ, .slice none 0 0, .int .i64 k]) w') :
  stN P tb 0 [.int .i64 0, .int .u64 0, .int .u64 0, .int .u64 0, .int .u64 0, .int .u64 0, .int .i64 0, .bool false, .slice none 0 0, .slice none 0 0, .slice none 0 0] w fun _ w => pp P T.a (.pointer (some ⟨tb, 0, none⟩)) w fun r0 w' => w' = w ∧ K (.tuple #[r0, .slice none 0 0, .int .i64 k]) w :=
 asm (q := pkZ) S rfl (axy _ _ _ _ _ _) (K := fun r0 w => K (.tuple #[r0, .slice none 0 0, .int .i64 k]) w) fun w' S' => h w' S'.drop
theorem up7 {a b c d e f g i : Asn} (h : St w0 w (a :: b :: c :: d :: e :: f :: g :: i :: R)) : St w0 w (i :: a :: b :: c :: d :: e :: f :: g :: R) := h.perm (List.perm_middle (l₁ := [a, b, c, d, e, f, g]))
theorem up8 {a b c d e f g i j : Asn} (h : St w0 w (a :: b :: c :: d :: e :: f :: g :: i :: j :: R)) : St w0 w (j :: a :: b :: c :: d :: e :: f :: g :: i :: R) := h.perm (List.perm_middle (l₁ := [a, b, c, d, e, f, g, i]))
theorem up9 {a b c d e f g i j k : Asn} (h : St w0 w (a :: b :: c :: d :: e :: f :: g :: i :: j :: k :: R)) : St w0 w (k :: a :: b :: c :: d :: e :: f :: g :: i :: j :: R) := h.perm (List.perm_middle (l₁ := [a, b, c, d, e, f, g, i, j]))
theorem asu (S : St w0 w (nw q hb es L dn :: iy hb D :: R)) (hp : ∀ w' R', St w0 w' (R' ++ R) → ql w' p ls lm lu) (hr : ya p) (hls : ∀ s ∈ ls, wt s) (he : wo es) (hG : dn = false → D.jj = false → ∃ G, sd s f L G D) (hf : f + (jq L.ii).length + 1 ≤ 1000000000000) {K : KV}
  (hno : wrE p ls lm lu = false → ∀ w', St w0 w' (nw q hb es L dn :: iy hb D :: R) → K (.tuple #[pkA pkZ, .slice none 0 0, .int .i64 6]) w')
  (hdn : wrE p ls lm lu = true → (dn || D.jj) = true → ∀ w', St w0 w' (nw q hb es L dn :: iy hb D :: R) → K (.tuple #[pkA pkZ, .slice none 0 0, .int .i64 10]) w')
  (hbad : wrE p ls lm lu = true → dn = false → D.jj = false → (pr L D p.b (kg es ls)).2 ≠ 0 → ∀ w', St w0 w' (nw q hb es (pr L D p.b (kg es ls)).1.1 (decide ((pr L D p.b (kg es ls)).2 = 10)) :: iy hb (pr L D p.b (kg es ls)).1.2 :: R) → K (.tuple #[pkA pkZ, .slice none 0 0, .int .i64 (pr L D p.b (kg es ls)).2]) w')
  (hok : wrE p ls lm lu = true → dn = false → D.jj = false → (pr L D p.b (kg es ls)).2 = 0 → ∀ w' v' v3, St w0 w' (rdA 1 pi v' (rk ls) :: rdA 8 ja v3 (kg es ls) :: nw q hb ((kg es ls).foldl (na p.b) es) (pr L D p.b (kg es ls)).1.1 false :: iy hb (pr L D p.b (kg es ls)).1.2 :: R) → K (.tuple #[pkA (vk p.tr v'), v3, .int .i64 0]) w') :
  gr P F.bh [jx q, pkA p] w K := by
 rw [M.e.fcall]
 apply M.e.calls
 unfold M.e jx
 refine St.tt S fun pb w1 S1 => ?_
 have S1' : St w0 w1 (iq pb (pkC p).toArray T.a :: nw q hb es L dn :: iy hb D :: R) := S1
 simp
 have S2 := agb S1'
 generalize w1.heap.size = tb at *
 generalize w1.alloc _ = w2 at *
 unfold M.e.j0
 simp [fun K => xf S2.swap K]
 have hp2 : ql w2 p ls lm lu := hp w2 (iq tb (pkC pkZ).toArray T.a :: iq pb (pkC p).toArray T.a :: nw q hb es L dn :: iy hb D :: []) S2
 -- what is no write
 have noS : ∀ (t : Value) (w3 : World), wrE p ls lm lu = false → (∀ w' K', taT P t T.au T.j true w' K' = K' (.tuple #[.agg #[.int .u64 0, .int .u64 0, .int .u64 0, .slice none 0 0], .bool false]) w') → St w0 w3 (iq tb (pkC pkZ).toArray T.a :: iq pb (pkC p).toArray T.a :: nw q hb es L dn :: iy hb D :: R) → True := fun _ _ _ _ _ => trivial
 refine bgq hp2 hr (fun hre w3 t ht hown f3 => ?_) (fun hre w3 f3 => ?_)
 ·have S3 := S2.jt f3
  by_cases hk : p.ip = 9
  ·have hae : wrE p ls lm lu = true := by unfold wrE; rw [hre]; simpa using hk
   obtain ⟨_, W⟩ := acv hae
   obtain ⟨v, rfl, hsv⟩ := aud ht hk
   have hv3 : ∃ bb, v.ownBlock = some bb ∧ bb < w3.heap.size := by
    obtain ⟨x, hx⟩ := List.exists_mem_of_ne_nil _ W.ne
    exact hsv.lt hx
   have S3v : St w0 w3 (rdA 8 ja v ls :: _) := S2.add f3 (a := rdA 8 ja v ls) (B := fun y => v.ownBlock = some y) ⟨hsv, fun y hy => hy⟩ fun y hy => by
    obtain ⟨bb, h1, h2⟩ := hv3
    have h3 := hown _ _ _ _ rfl y hy
    rw [h1] at hy
    cases hy
    exact ⟨h3, h2⟩
   obtain ⟨va, vc, hve, _⟩ := id hsv
   simp
   have S4 : St w0 (w3.alloc (.cells #[.int .u64 0, .int .u64 0, .int .u64 0, .slice none 0 0] T.j)) (iq w3.heap.size #[.int .u64 0, .int .u64 0, .int .u64 0, .slice none 0 0] T.j :: _) := S3v.mkB #[.int .u64 0, .int .u64 0, .int .u64 0, .slice none 0 0] T.j
   generalize w3.heap.size = ab at *
   generalize w3.alloc _ = w4 at *
   refine St.put (cs' := #[.int .u64 p.tr, .int .u64 p.b.n, .int .u64 p.b.jl, v]) (vs := [.int .u64 p.tr, .int .u64 p.b.n, .int .u64 p.b.jl, v]) S4 (by rw [hve]; simp [kq]) (by simp) rfl fun w5 S5 => ?_
   have S5' : St w0 w5 (ug ab p.tr p.b v :: rdA 8 ja v ls :: iq tb (pkC pkZ).toArray T.a :: iq pb (pkC p).toArray T.a :: nw q hb es L dn :: iy hb D :: R) := S5
   obtain ⟨lp, r, cs, hc, Su⟩ := amc (St.up4 S5')
   obtain ⟨c0, _, _, c3⟩ := ub Su
   have outDn : (dn || D.jj) = true → stN P tb 0 [.int .i64 0, .int .u64 0, .int .u64 0, .int .u64 0, .int .u64 0, .int .u64 0, .int .i64 0, .bool false, .slice none 0 0, .slice none 0 0, .slice none 0 0] w5 fun _ w => pp P T.a (.pointer (some ⟨tb, 0, none⟩)) w fun r0 w' => w' = w ∧ K (.tuple #[r0, .slice none 0 0, .int .i64 10]) w := fun hd =>
    baf S5'.drop.drop fun w' S' => hdn hae hd w' S'.drop
   cases dn with
   | true =>
    have od := outDn rfl
    simp [c3]
    exact od
   | false =>
    simp [c3, c0]
    refine aok (up5 S5') ?_
    cases hd : D.jj with
    | true =>
     have od := outDn (by simp [hd])
     simp
     exact od
    | false =>
     simp
     obtain ⟨G, hg⟩ := hG rfl hd
     have hbad' := hbad hae rfl hd
     have hok' := hok hae rfl hd
     clear hno hdn hbad hok outDn noS
     unfold M.e.j1
     obtain ⟨_, _, a3⟩ := abi S5'
     simp [a3]
     refine aoz S5' S5'.swap.rd (by have := W.len; omega) fun w6 v2 S6 => ?_
     rw [aim]
     obtain ⟨lp, r, cs, hc, S6u⟩ := amc (up5 S6)
     have S6r : St w0 w6 (lh v2 ls :: lc q hb lp r false :: jy r .u64 (mmE cs) :: lr es cs :: nb lp hb L :: ug ab p.tr p.b v :: rdA 8 ja v ls :: iq tb (pkC pkZ).toArray T.a :: iq pb (pkC p).toArray T.a :: iy hb D :: R) := S6u.up4
     refine bjo S6r (biq hc) (by have := W.len; omega) fun w7 v3 S7 => ?_
     have S7' : St w0 w7 (rdA 8 ja v3 (kg es ls) :: lc q hb lp r false :: jy r .u64 (mmE cs) :: lr es cs :: nb lp hb L :: ug ab p.tr p.b v :: rdA 8 ja v ls :: iq tb (pkC pkZ).toArray T.a :: iq pb (pkC p).toArray T.a :: iy hb D :: R) := S7
     obtain ⟨_, bl, _⟩ := abi (up5 S7')
     simp [bl]
     have S8 : St w0 w7 (lc q hb lp r false :: nb lp hb L :: iy hb D :: rdA 8 ja v3 (kg es ls) :: jy r .u64 (mmE cs) :: lr es cs :: ug ab p.tr p.b v :: rdA 8 ja v ls :: iq tb (pkC pkZ).toArray T.a :: iq pb (pkC p).toArray T.a :: R) := St.up3 (up5 (up9 S7'))
     have hfl : ∀ z ∈ kg es ls, z ∈ ls := fun z hz => (List.mem_filter.1 hz).1
     have hfll : (kg es ls).length ≤ 16 := Nat.le_trans (List.length_filter_le _ _) W.len
     refine bah S8 (fun w' L' S' => (S'.perm List.perm_middle).rd) (fun z hz => (W.ok z (hfl z hz)).1) (by omega) hg hf fun w8 S9 => ?_
     generalize hL' : (pr L D p.b (kg es ls)).1.1 = L' at *
     generalize hD' : (pr L D p.b (kg es ls)).1.2 = D' at *
     generalize hE' : (pr L D p.b (kg es ls)).2 = e' at *
     by_cases h0 : e' = 0
     ·subst h0
      simp
      refine bkl (tr := p.tr) (b := p.b) (v := v) (fl := kg es ls) (ls := ls) (es := es) (cs := cs) (hb := hb) (p := lp) (r := r) (R := nb lp hb L' :: iy hb D' :: iq pb (pkC p).toArray T.a :: R) (S9.perm ?_) hc he hr.b W.tr hr.tr W.ne W.ids (fun z hz => ⟨(W.ok z hz).1, hls z hz⟩) W.len (fun z hz => ⟨(W.ok z (hfl z hz)).1, hls z (hfl z hz)⟩) hfll fun w9 cs' v' hc' T1 => ?_
      ·refine List.Perm.cons _ ?_
       have p1 := (List.perm_append_comm (l₁ := [nb lp hb L', iy hb D', rdA 8 ja v3 (kg es ls)]) (l₂ := [jy r .u64 (mmE cs), lr es cs, ug ab p.tr p.b v])).append_right (rdA 8 ja v ls :: iq tb (pkC pkZ).toArray T.a :: iq pb (pkC p).toArray T.a :: R)
       have p2 := (List.perm_append_comm (l₁ := [nb lp hb L', iy hb D']) (l₂ := [rdA 8 ja v3 (kg es ls), rdA 8 ja v ls, iq tb (pkC pkZ).toArray T.a])).append_right (iq pb (pkC p).toArray T.a :: R)
       exact p1.trans (List.Perm.cons _ (List.Perm.cons _ (List.Perm.cons _ p2)))
      ·have T2 : St w0 w9 (rdA 1 pi v' (rk ls) :: rdA 8 ja v3 (kg es ls) :: lc q hb lp r false :: jy r .u64 (mmE cs') :: lr ((kg es ls).foldl (na p.b) es) cs' :: nb lp hb L' :: iy hb D' :: R) := (up7 T1).drop
       have T3 := T2.perm ((List.perm_append_comm (l₁ := [rdA 1 pi v' (rk ls), rdA 8 ja v3 (kg es ls)]) (l₂ := [lc q hb lp r false, jy r .u64 (mmE cs'), lr ((kg es ls).foldl (na p.b) es) cs', nb lp hb L'])).append_right (iy hb D' :: R))
       have T4 := aqm hc' T3
       exact hok' rfl w9 v' v3 (St.dn2 T4)
     ·simp [h0]
      refine baf (up8 S9) fun w9 T1 => ?_
      refine hbad' h0 w9 ?_
      have T2 : St w0 w9 (lc q hb lp r (decide (e' = 10)) :: nb lp hb L' :: iy hb D' :: jy r .u64 (mmE cs) :: lr es cs :: ug ab p.tr p.b v :: rdA 8 ja v ls :: iq pb (pkC p).toArray T.a :: R) := T1.up3.drop
      have T3 : St w0 w9 (lc q hb lp r (decide (e' = 10)) :: nb lp hb L' :: iy hb D' :: jy r .u64 (mmE cs) :: lr es cs :: R) := (up5 (up5 (up5 T2).drop).drop).drop
      have T4 : St w0 w9 (lc q hb lp r (decide (e' = 10)) :: jy r .u64 (mmE cs) :: lr es cs :: nb lp hb L' :: iy hb D' :: R) := T3.tail ((List.perm_append_comm (l₁ := [nb lp hb L', iy hb D']) (l₂ := [jy r .u64 (mmE cs), lr es cs])).append_right R)
      exact aqm hc T4
  ·have hae : wrE p ls lm lu = false := by
    unfold wrE
    rw [decide_eq_false hk]; rfl
   simp [ass ht hk]
   have S4 := S3.mkB #[.int .u64 0, .int .u64 0, .int .u64 0, .slice none 0 0] T.j
   generalize w3.heap.size = ab at *
   generalize w3.alloc _ = w4 at *
   refine St.put (cs' := #[.int .u64 0, .int .u64 0, .int .u64 0, .slice none 0 0]) (vs := [.int .u64 0, .int .u64 0, .int .u64 0, .slice none 0 0]) S4 (by simp [kq]) (by simp) rfl fun w5 S5 => ?_
   exact baf S5.drop fun w' S' => hno hae w' S'.drop
 ·have hae : wrE p ls lm lu = false := by unfold wrE; rw [hre, Bool.and_false]
  have S3 := S2.jt f3
  simp [agz]
  have S4 := S3.mkB #[.int .u64 0, .int .u64 0, .int .u64 0, .slice none 0 0] T.j
  generalize w3.heap.size = ab at *
  generalize w3.alloc _ = w4 at *
  refine St.put (cs' := #[.int .u64 0, .int .u64 0, .int .u64 0, .slice none 0 0]) (vs := [.int .u64 0, .int .u64 0, .int .u64 0, .slice none 0 0]) S4 (by simp [kq]) (by simp) rfl fun w5 S5 => ?_
  exact baf S5.drop fun w' S' => hno hae w' S'.drop
end
end Go.Proofs.YtfnhoaemapheoaaGreat
