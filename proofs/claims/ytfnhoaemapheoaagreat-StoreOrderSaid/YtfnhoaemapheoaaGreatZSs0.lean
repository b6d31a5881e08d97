/-
  Sorting a row of spans: an element read and written, two swapped; the insertion sort. No condition.
-/
import Derived.Test.YtfnhoaemapheoaaGreatZRef3
import Derived.Test.YtfnhoaemapheoaaGreatZMs2
import Derived.Test.YtfnhoaemapheoaaGreatZEngSl
set_option maxRecDepth 100000
namespace Go.Proofs.YtfnhoaemapheoaaGreat
open Go.Eng Go.Proofs.YtfnhoaemapheoaaGreat.Sint
abbrev vS (g n cap : Nat) : Value := .slice (some ⟨g, 0, none⟩) n cap
abbrev CF : Value := .func (.func F.dy) #[] #[]
theorem ux {g n cap i : Nat} (h : i < n) (w : World) (K : KV) : iaT P T.d (vS g n cap) (.int .i64 (i : Nat)) w K = K (.pointer (some ⟨g, i * 8, none⟩)) w := by simp [h]
theorem xu (b o : Nat) (x : Spn) (w : World) (K : KV) : stT P T.e (.pointer (some ⟨b, o, none⟩)) (km x) w K = stN P b o (ir x) w K := by
 unfold km
 simp [ir]
theorem wr1 {x : Nat} (h : x < 1000000) : IntKind.i64.wrap ((x : Int) + 1) = ((x + 1 : Nat) : Int) := by rw [ia]; rfl
theorem wrm {x y : Nat} (h : y ≤ x) (hx : x < 1000000) : IntKind.i64.wrap ((x : Int) - (y : Nat)) = ((x - y : Nat) : Int) := by rw [ia]; omega
theorem ayr {x : Nat} (h : 1 ≤ x) (hx : x < 1000000) : IntKind.i64.wrap ((x : Int) - 1) = ((x - 1 : Nat) : Int) := by rw [ia]; omega
theorem wra {x y : Nat} (h : x + y < 1000000) : IntKind.i64.wrap ((x : Int) + (y : Nat)) = ((x + y : Nat) : Int) := by rw [ia]; omega
section
variable {w0 w : World} {R : List Asn} {g n cap : Nat} {l : List Spn}
theorem ald (S : St w0 w (ky (vS g n cap) l :: R)) {i : Nat} (hi : i < l.length) (K : KV) : ldN P 8 g (i * 8) w K = K (km l[i]) w := by
 obtain ⟨b, o, c, hv, _, _, hc⟩ := (S.row mj : SlS w (vS g n cap) l).at hi
 injection hv with h1 h2 h3
 injection h1 with h1
 injection h1 with h1 h4
 subst h1 h4
 exact qy (ir l[i]) 8 rfl (fun k u hk => by have := hc k u hk; rwa [Nat.zero_add] at this) K
theorem zl (S : St w0 w (ky (vS g n cap) l :: R)) {i : Nat} (hi : i < l.length) (x : Spn) {K : KV} (h : ∀ w', St w0 w' (ky (vS g n cap) (l.set i x) :: R) → K undef w') : stT P T.e (.pointer (some ⟨g, i * 8, none⟩)) (km x) w K := by
 obtain ⟨b, c, hv, hs⟩ := St.bir mj oh S hi x
 injection hv with h1 h2 h3
 injection h1 with h1
 injection h1 with h1 h4
 subst h1
 rw [xu]
 have := hs K h
 rwa [Nat.zero_add] at this
theorem akl (S : St w0 w R) (x y : Spn) {K : KV} (h : ∀ w', St w0 w' R → K (.int .i64 (abd x y)) w') : xh P CF [km x, km y] w K := by
 have := bgk (P := P) F.dy [] [] [km x, km y] w K
 rw [show (CF : Value) = .func (.func F.dy) ([] : List Value).toArray ([] : List Value).toArray from rfl, this]
 exact bbi x y fun w' f => h w' (S.jo f)
theorem uf (S : St w0 w (ky (vS g n cap) l :: R)) : l.length = n := by
 obtain ⟨_, _, hv, _⟩ := (S.row mj : SlS w (vS g n cap) l)
 injection hv with _ h _
 exact h.symm
end
def bpf (w0 : World) (g n cap a : Nat) (X Z S : List Spn) (x : Spn) (R : List Asn) : KL := fun v w1 => ∃ (j : Nat) (S1 S2 : List Spn), v = [.int .i64 (j : Nat)] ∧ j = a + S1.length ∧ X.length = a ∧ ot (S1 ++ S2) ∧ (∀ y ∈ S2, leS x y) ∧ (S1 ++ S2).Perm S ∧ St w0 w1 (ky (vS g n cap) (X ++ (S1 ++ x :: S2) ++ Z) :: R)
def bmc (w0 : World) (g n cap a b : Nat) (X A Y : List Spn) (R : List Asn) : KL := fun v w1 => ∃ (u : Value) (i : Nat) (S Q : List Spn), v = [u, .int .i64 (i : Nat)] ∧ i = a + S.length ∧ S.length + Q.length = A.length ∧ 1 ≤ S.length ∧ ot S ∧ (S ++ Q).Perm A ∧ St w0 w1 (ky (vS g n cap) (X ++ S ++ Q ++ Y) :: R)
section
variable {w0 w : World} {R : List Asn} {g n cap : Nat} {l : List Spn}
theorem bdq {a b : Nat} {X A Y : List Spn} (S : St w0 w (ky (vS g n cap) (X ++ A ++ Y) :: R)) (hn : n < 100000) (ha : X.length = a) (hb : a + A.length = b) {K : KV}
  (h : ∀ w' C, ot C → C.Perm A → St w0 w' (ky (vS g n cap) (X ++ C ++ Y) :: R) → K (.tuple #[]) w') : gi P F.an [vS g n cap, .int .i64 (a : Nat), .int .i64 (b : Nat), CF] w K := by
 have hlen := uf S
 simp only [List.length_append] at hlen
 rw [M.d.fcall]
 apply M.d.calls
 unfold M.d
 simp only [kz, wr1 (show a < 1000000 by omega)]
 by_cases hA : A = []
 ·subst hA
  simp only [List.length_nil] at hb
  refine ⟨fun v w1 => v = [undef, .int .i64 ((a + 1 : Nat) : Int)] ∧ w1 = w, fun _ _ => 0, ⟨rfl, rfl⟩, ?_⟩
  rintro v w1 ⟨rfl, rfl⟩
  unfold M.d.j0
  have g1 : gv [undef, Value.int .i64 ((a + 1 : Nat) : Int)] 1 = .int .i64 ((a + 1 : Nat) : Int) := rfl
  have hlt : ¬ ((a + 1 : Nat) : Int) < (b : Int) := by omega
  simp only [gp, g1, lh, hlt, decide_false, Eng.cond_false]
  exact h w1 [] List.Pairwise.nil (List.Perm.refl _) S
 have hAl : 0 < A.length := List.length_pos_iff.2 hA
 refine ⟨bmc w0 g n cap a b X A Y R, fun v _ => b - ms v 1, ⟨_, a + 1, [A[0]], A.drop 1, rfl, rfl, by simp; omega, by simp, by simp, ?_, ?_⟩, ?_⟩
 ·rw [List.singleton_append, show A[0] :: A.drop 1 = A from by rw [← List.drop_eq_getElem_cons hAl, List.drop_zero]]
 ·have e : X ++ [A[0]] ++ A.drop 1 ++ Y = X ++ A ++ Y := by
   rw [List.append_assoc X, List.singleton_append, show A[0] :: A.drop 1 = A from by rw [← List.drop_eq_getElem_cons hAl, List.drop_zero]]
  rw [e]; exact S
 rintro v w1 ⟨u, i, S0, Q, rfl, hi, hl0, h1, hS, hp, T1⟩
 have g1 : gv [u, Value.int .i64 (i : Nat)] 1 = .int .i64 (i : Nat) := rfl
 unfold M.d.j0
 simp only [gp, g1, lh]
 by_cases hib : i < b
 ·have hib' : (i : Int) < b := by omega
  have hQ : 0 < Q.length := by omega
  obtain ⟨x, Q', rfl⟩ := List.exists_cons_of_length_pos hQ
  simp only [hib', decide_true, Eng.cond_true]
  refine ⟨bpf w0 g n cap a X (Q' ++ Y) S0 x R, fun v _ => ms v 0, ⟨i, S0, [], rfl, hi, ha, by simpa using hS, by simp, by simp, by simpa using T1⟩, ?_⟩
  rintro v w2 ⟨j, S1, S2, rfl, hj, _, hs12, hle, hp12, T2⟩
  have hl12 := hp12.length_eq
  rw [List.length_append] at hl12
  simp only [List.length_cons] at hl0
  have done : ∀ v w3, ot (S1 ++ x :: S2) → St w0 w3 (ky (vS g n cap) (X ++ (S1 ++ x :: S2) ++ (Q' ++ Y)) :: R) → bmc w0 g n cap a b X A Y R [v, .int .i64 (IntKind.i64.wrap ((i : Int) + 1))] w3 ∧ b - ms [v, .int .i64 (IntKind.i64.wrap ((i : Int) + 1))] 1 < b - ms [u, .int .i64 (i : Nat)] 1 := by
   intro v w3 hasc T3
   rw [wr1 (by omega)]
   refine ⟨⟨v, i + 1, S1 ++ x :: S2, Q', rfl, by simp; omega, by simp; omega, by simp; omega, hasc, ?_, by simpa using T3⟩, by simp [ms, gv]; omega⟩
   refine List.Perm.trans ?_ hp
   rw [show S0 ++ x :: Q' = (S0 ++ [x]) ++ Q' from by simp]
   refine List.Perm.append_right _ ?_
   refine List.Perm.trans List.perm_middle ?_
   refine List.Perm.trans (List.Perm.cons x hp12) ?_
   exact (List.perm_append_comm (l₁ := S0) (l₂ := [x])).symm
  have g0 : gv [Value.int .i64 (j : Nat)] 0 = .int .i64 (j : Nat) := rfl
  unfold M.d.j3
  simp only [gp, g0]
  have T3 := T2.jo ((Fr.refl _ w2).dr 1)
  by_cases hja : a < j
  ·have hS1 : 0 < S1.length := by omega
   obtain ⟨S1', y, rfl⟩ : ∃ S1' y, S1 = S1' ++ [y] := ⟨S1.dropLast, S1.getLast (List.ne_nil_of_length_pos hS1), (List.dropLast_concat_getLast _).symm⟩
   have hja' : (a : Int) < (j : Int) := by omega
   simp only [List.length_append, List.length_singleton] at hj hl12
   have ej : j - 1 = X.length + S1'.length := by omega
   have eL : X ++ (S1' ++ [y] ++ x :: S2) ++ (Q' ++ Y) = (X ++ S1') ++ y :: ([] ++ x :: (S2 ++ (Q' ++ Y))) := by simp
   have eL2 : X ++ (S1' ++ x :: (y :: S2)) ++ (Q' ++ Y) = (X ++ S1') ++ x :: ([] ++ y :: (S2 ++ (Q' ++ Y))) := by simp
   have j1 : j < (X ++ (S1' ++ [y] ++ x :: S2) ++ (Q' ++ Y)).length := by simp; omega
   have j2 : j - 1 < (X ++ (S1' ++ [y] ++ x :: S2) ++ (Q' ++ Y)).length := by omega
   have r1 : (X ++ (S1' ++ [y] ++ x :: S2) ++ (Q' ++ Y))[j] = x := by
    have hjj : j = (X ++ S1' ++ [y]).length := by simp; omega
    have e : X ++ (S1' ++ [y] ++ x :: S2) ++ (Q' ++ Y) = (X ++ S1' ++ [y]) ++ x :: (S2 ++ (Q' ++ Y)) := by simp
    simp only [e, hjj]
    simp
   have r2 : (X ++ (S1' ++ [y] ++ x :: S2) ++ (Q' ++ Y))[j - 1] = y := by
    have hjj : j - 1 = (X ++ S1').length := by simp; omega
    have e : X ++ (S1' ++ [y] ++ x :: S2) ++ (Q' ++ Y) = (X ++ S1') ++ y :: (x :: S2 ++ (Q' ++ Y)) := by simp
    simp only [e, hjj]
    simp
   have d1 := ald T3 j1
   have d2 := ald T3 j2
   rw [r1] at d1
   rw [r2] at d2
   have i1 := fun w K => ux (g := g) (cap := cap) (show j < n by omega) w K
   have i2 := fun w K => ux (g := g) (cap := cap) (show j - 1 < n by omega) w K
   have hw := ayr (x := j) (by omega) (by omega)
   have b1 : (j : Int) < n := by omega
   have b2 : ((j - 1 : Nat) : Int) < n := by omega
   simp [hja, hja', hw, i1, i2, b1, b2, d1, d2]
   refine akl T3 x y fun w4 T4 => ?_
   by_cases hc : leS y x
   ·have hlt : ¬ abd x y < 0 := fun hh => yz.1 hh hc
    simp [hlt]
    refine done _ _ ?_ T4
    have h12 := List.pairwise_append.1 hs12
    refine List.pairwise_append.2 ⟨h12.1, List.pairwise_cons.2 ⟨hle, h12.2.1⟩, fun c hcm q hq => ?_⟩
    rcases List.mem_cons.1 hq with rfl | hq
    ·rcases List.mem_append.1 hcm with hcm | hcm
     ·exact ((List.pairwise_append.1 h12.1).2.2 c hcm y (by simp)).trans hc
     ·rw [List.mem_singleton.1 hcm]; exact hc
    ·exact h12.2.2 c hcm q hq
   ·have hlt : abd x y < 0 := yz.2 hc
    simp [hlt]
    unfold M.d.j4
    have T5 := T4.jo ((Fr.refl _ w4).dr 1)
    have d1 := ald T5 j1
    have d2 := ald T5 j2
    rw [r1] at d1
    rw [r2] at d2
    simp [hw, i1, i2, b1, b2, d1, d2]
    refine zl T5 j1 y fun w6 T6 => ?_
    refine zl T6 (by simpa using j2) x fun w7 T7 => ?_
    have e : ((X ++ (S1' ++ [y] ++ x :: S2) ++ (Q' ++ Y)).set j y).set (j - 1) x = X ++ (S1' ++ x :: (y :: S2)) ++ (Q' ++ Y) := by
     have := axs (X ++ S1') [] (S2 ++ (Q' ++ Y)) y x (l := X ++ (S1' ++ [y] ++ x :: S2) ++ (Q' ++ Y)) (i := j - 1) (j := j) eL (by simp; omega) (by simp; omega) j2 j1
     unfold azj at this
     rw [r1, r2] at this
     rw [eL2, ← this, List.set_comm _ _ (by omega)]
    rw [e] at T7
    refine ⟨⟨j - 1, S1', y :: S2, rfl, by omega, ha, by simpa using hs12, fun z hz => ?_, by simpa using hp12, T7⟩, by simp [ms, gv]; omega⟩
    rcases List.mem_cons.1 hz with rfl | hz
    ·exact leS.of hc
    ·exact hle z hz
  ·have hja' : ¬ (a : Int) < (j : Int) := by omega
   have hS1 : S1 = [] := List.length_eq_zero_iff.1 (by omega)
   subst hS1
   simp [hja, hja']
   have := done (.int .i64 (j : Nat)) _ (List.pairwise_cons.2 ⟨hle, by simpa using hs12⟩) T3
   simpa using this
 ·have hib' : ¬ (i : Int) < b := by omega
  have hQ : Q = [] := List.length_eq_zero_iff.1 (by omega)
  subst hQ
  simp only [hib', decide_false, Eng.cond_false]
  exact h w1 S0 hS (by simpa using hp) (by simpa using T1)
end
set_option maxRecDepth 100000
theorem akg {P Q R : List Spn} {x y : Spn} {L : List Spn} {i j : Nat} (hL : L = P ++ x :: (Q ++ y :: R)) (hi : i = P.length) (hj : j = P.length + 1 + Q.length) :
  ∃ (h1 : i < L.length) (h2 : j < L.length), L[i] = x ∧ L[j] = y ∧ (L.set i y).set j x = P ++ y :: (Q ++ x :: R) ∧ (L.set j x).set i y = P ++ y :: (Q ++ x :: R) := by
 have h1 : i < L.length := by rw [hL]; simp; omega
 have h2 : j < L.length := by rw [hL]; simp; omega
 have e1 : L[i] = x := by simp only [hL, hi]; simp
 have e2 : L[j] = y := by
  have e : P ++ x :: (Q ++ y :: R) = (P ++ x :: Q) ++ y :: R := by simp
  have ej : j = (P ++ x :: Q).length := by simp; omega
  simp only [hL, e, ej]
  simp
 have h3 := axs P Q R x y hL hi hj h1 h2
 unfold azj at h3
 rw [e1, e2] at h3
 exact ⟨h1, h2, e1, e2, h3, by rw [List.set_comm _ _ (by omega)]; exact h3⟩
def bpa (w0 : World) (g n cap : Nat) (X A Mi B Y : List Spn) (R : List Asn) : KL := fun v w1 => ∃ (i : Nat), v = [.int .i64 (i : Nat)] ∧ i ≤ A.length ∧ St w0 w1 (ky (vS g n cap) (X ++ (B.take i ++ A.drop i) ++ Mi ++ (A.take i ++ B.drop i) ++ Y) :: R)
section
variable {w0 w : World} {R : List Asn} {g n cap : Nat} {X A Mi B Y U V : List Spn}
theorem vm {l : List Spn} (S : St w0 w (ky (vS g n cap) l :: R)) {i : Nat} (hi : i < l.length) {x : Spn} (e : l[i] = x) (K : KV) : ldN P 8 g (i * 8) w K = K (km x) w := by rw [← e]; exact ald S hi K
theorem ava {a b k : Nat} (S : St w0 w (ky (vS g n cap) (X ++ A ++ Mi ++ B ++ Y) :: R)) (hn : n < 100000) (ha : X.length = a) (hA : A.length = k) (hB : B.length = k) (hb : b = a + k + Mi.length) {K : KV}
  (h : ∀ w', St w0 w' (ky (vS g n cap) (X ++ B ++ Mi ++ A ++ Y) :: R) → K (.tuple #[]) w') : gi P F.am [vS g n cap, .int .i64 (a : Nat), .int .i64 (b : Nat), .int .i64 (k : Nat), CF] w K := by
 have hlen := uf S
 simp only [List.length_append] at hlen
 rw [M.ab.fcall]
 apply M.ab.calls
 unfold M.ab
 refine ⟨bpa w0 g n cap X A Mi B Y R, fun v _ => k - ms v 0, ⟨0, rfl, Nat.zero_le _, by simpa using S⟩, ?_⟩
 rintro v w1 ⟨i, rfl, hi, T1⟩
 have g0 : gv [Value.int .i64 (i : Nat)] 0 = .int .i64 (i : Nat) := rfl
 simp only [gp, g0, lh]
 by_cases hik : i < k
 ·have hik' : (i : Int) < k := by omega
  simp only [hik', decide_true, Eng.cond_true]
  unfold M.ab.j1
  have hA' : A.drop i = A[i] :: A.drop (i + 1) := List.drop_eq_getElem_cons (by omega)
  have hB' : B.drop i = B[i] :: B.drop (i + 1) := List.drop_eq_getElem_cons (by omega)
  have eL : X ++ (B.take i ++ A.drop i) ++ Mi ++ (A.take i ++ B.drop i) ++ Y = (X ++ B.take i) ++ A[i] :: ((A.drop (i + 1) ++ Mi ++ A.take i) ++ B[i] :: (B.drop (i + 1) ++ Y)) := by rw [hA', hB']; simp only [List.append_assoc, List.cons_append]
  have eR : (X ++ B.take i) ++ B[i] :: ((A.drop (i + 1) ++ Mi ++ A.take i) ++ A[i] :: (B.drop (i + 1) ++ Y)) = X ++ (B.take (i + 1) ++ A.drop (i + 1)) ++ Mi ++ (A.take (i + 1) ++ B.drop (i + 1)) ++ Y := by
   rw [List.take_add_one, List.take_add_one, List.getElem?_eq_getElem (show i < A.length by omega), List.getElem?_eq_getElem (show i < B.length by omega)]
   simp only [Option.toList_some, List.append_assoc, List.cons_append, List.nil_append]
  rw [eL] at T1
  have T2 := T1.jo ((Fr.refl _ w1).dr 1)
  obtain ⟨h1, h2, e1, e2, e3, _⟩ := akg (L := (X ++ B.take i) ++ A[i] :: ((A.drop (i + 1) ++ Mi ++ A.take i) ++ B[i] :: (B.drop (i + 1) ++ Y))) (i := a + i) (j := b + i) rfl (by simp; omega) (by simp; omega)
  have d1 := vm T2 h1 e1
  have d2 := vm T2 h2 e2
  have i1 := fun w K => ux (g := g) (cap := cap) (show a + i < n by omega) w K
  have i2 := fun w K => ux (g := g) (cap := cap) (show b + i < n by omega) w K
  have w1' := wra (x := a) (y := i) (by omega)
  have w2' := wra (x := b) (y := i) (by omega)
  have b1 : ((a + i : Nat) : Int) < n := by omega
  have b2 : ((b + i : Nat) : Int) < n := by omega
  simp [-Int.natCast_add, g0, w1', w2', i1, i2, b1, b2, d1, d2]
  refine zl T2 h1 B[i] fun w3 T3 => ?_
  refine zl T3 (by rw [List.length_set]; exact h2) A[i] fun w4 T4 => ?_
  rw [e3, eR] at T4
  simp only [kz, wr1 (show i < 1000000 by omega)]
  exact ⟨⟨i + 1, rfl, by omega, T4⟩, by simp [ms, gv]; omega⟩
 ·have hik' : ¬ (i : Int) < k := by omega
  have hik2 : i = k := by omega
  simp only [hik', decide_false, Eng.cond_false]
  refine h w1 ?_
  subst hik2
  have q1 : B.take i = B := List.take_of_length_le (by omega)
  have q2 : A.drop i = [] := List.drop_of_length_le (by omega)
  have q3 : A.take i = A := List.take_of_length_le (by omega)
  have q4 : B.drop i = [] := List.drop_of_length_le (by omega)
  rw [q1, q2, q3, q4] at T1
  simpa using T1
def bpo (w0 : World) (g n cap m : Nat) (G : List Spn) (R : List Asn) : KL := fun v w1 => ∃ (i j : Nat) (X U V Y : List Spn), v = [.int .i64 (i : Nat), .int .i64 (j : Nat)] ∧ U.length = i ∧ V.length = j ∧ X.length + i = m ∧ 0 < i ∧ 0 < j ∧ G = X ++ V ++ U ++ Y ∧ St w0 w1 (ky (vS g n cap) (X ++ U ++ V ++ Y) :: R)
theorem bmr {a m b : Nat} (S : St w0 w (ky (vS g n cap) (X ++ U ++ V ++ Y) :: R)) (hn : n < 100000) (ha : X.length = a) (hm : a + U.length = m) (hb : m + V.length = b) (hU : U ≠ []) (hV : V ≠ []) {K : KV}
  (h : ∀ w', St w0 w' (ky (vS g n cap) (X ++ V ++ U ++ Y) :: R) → K (.tuple #[]) w') : gi P F.bl [vS g n cap, .int .i64 (a : Nat), .int .i64 (m : Nat), .int .i64 (b : Nat), CF] w K := by
 have hlen := uf S
 simp only [List.length_append] at hlen
 have hU' := List.length_pos_iff.2 hU
 have hV' := List.length_pos_iff.2 hV
 rw [M.af.fcall]
 apply M.af.calls
 unfold M.af
 simp only [lk, wrm (show a ≤ m by omega) (show m < 1000000 by omega), wrm (show m ≤ b by omega) (show b < 1000000 by omega), gp]
 generalize hG : X ++ V ++ U ++ Y = G at h
 refine ⟨bpo w0 g n cap m G R, fun v _ => ms v 0 + ms v 1, ⟨m - a, b - m, X, U, V, Y, rfl, by omega, by omega, by omega, by omega, by omega, hG.symm, S⟩, ?_⟩
 clear hG S ha hm hb hU hV hU' hV' hlen
 rintro v w1 ⟨i, j, X, U, V, Y, rfl, hU, hV, hX, hi, hj, hG, T1⟩
 have hlen := uf T1
 simp only [List.length_append] at hlen
 have g0 : gv [Value.int .i64 (i : Nat), .int .i64 (j : Nat)] 0 = .int .i64 (i : Nat) := rfl
 have g1 : gv [Value.int .i64 (i : Nat), .int .i64 (j : Nat)] 1 = .int .i64 (j : Nat) := rfl
 have wmi := wrm (show i ≤ m by omega) (show m < 1000000 by omega)
 simp only [g0, g1, aiv]
 by_cases hij : i = j
 ·subst hij
  simp only [ne_eq, not_true_eq_false, decide_false, Eng.cond_false, lk, wmi]
  have T2 : St w0 w1 (ky (vS g n cap) (X ++ U ++ [] ++ V ++ Y) :: R) := by simpa using T1
  refine ava (a := m - i) (b := m) (k := i) T2 hn (by omega) hU (by omega) (by simp; omega) fun w2 T3 => ?_
  refine h w2 ?_
  rw [hG]
  simpa using T3
 ·have hij' : ¬ (i : Int) = j := by omega
  simp only [ne_eq, hij', not_false_eq_true, decide_true, Eng.cond_true]
  unfold M.af.j2
  simp only [g0, g1, rk, lk, kz, wmi]
  by_cases hgt : j < i
  ·have hgt' : (j : Int) < i := by omega
   simp only [hgt', decide_true, Eng.cond_true]
   have eU : U = U.take j ++ U.drop j := (List.take_append_drop j U).symm
   have T2 : St w0 w1 (ky (vS g n cap) (X ++ U.take j ++ U.drop j ++ V ++ Y) :: R) := by
    rw [show X ++ U.take j ++ U.drop j = X ++ U from by rw [List.append_assoc, List.take_append_drop]]
    exact T1
   refine ava T2 hn (show X.length = m - i by omega) (by rw [List.length_take]; omega) hV (by rw [List.length_drop]; omega) fun w2 T3 => ?_
   simp only [wrm (show j ≤ i by omega) (show i < 1000000 by omega)]
   refine ⟨⟨i - j, j, X ++ V, U.drop j, U.take j, Y, rfl, by rw [List.length_drop]; omega, by rw [List.length_take]; omega, by rw [List.length_append]; omega, by omega, hj, ?_, by simpa using T3⟩, by simp [ms, gv]; omega⟩
   rw [hG]
   conv => lhs; rw [eU]
   simp
  ·have hgt' : ¬ (j : Int) < i := by omega
   simp only [hgt', decide_false, Eng.cond_false]
   have eV : V = V.take (j - i) ++ V.drop (j - i) := (List.take_append_drop _ V).symm
   have T2 : St w0 w1 (ky (vS g n cap) (X ++ U ++ V.take (j - i) ++ V.drop (j - i) ++ Y) :: R) := by
    rw [show X ++ U ++ V.take (j - i) ++ V.drop (j - i) = X ++ U ++ V from by rw [List.append_assoc, List.take_append_drop]]
    exact T1
   simp only [wra (show m + j < 1000000 by omega), wrm (show i ≤ m + j by omega) (show m + j < 1000000 by omega)]
   refine ava T2 hn (show X.length = m - i by omega) hU (by rw [List.length_drop]; omega) (by rw [List.length_take]; omega) fun w2 T3 => ?_
   simp only [wrm (show i ≤ j by omega) (show j < 1000000 by omega)]
   refine ⟨⟨i, j - i, X, V.drop (j - i), V.take (j - i), U ++ Y, rfl, by rw [List.length_drop]; omega, by rw [List.length_take]; omega, hX, hi, by omega, ?_, by simpa using T3⟩, by simp [ms, gv]; omega⟩
   rw [hG]
   conv => lhs; rw [eV]
   simp
end
section
variable {w : World} {K : KV}
theorem hf1 {x : Nat} (h : x < 1000000) (w : World) (K : KV) : cvT P T.b T.ay (.int .i64 (x : Nat)) w K = K (.int .u64 (x : Nat)) w := by rw [og (ks := .i64) (kd := .u64) (by kernel_rfl) (by kernel_rfl), abv (by omega)]
theorem hf3 {x : Nat} (h : x < 1000000) (w : World) (K : KV) : cvT P T.ay T.b (.int .u64 (x : Nat)) w K = K (.int .i64 (x : Nat)) w := by rw [og (ks := .u64) (kd := .i64) (by kernel_rfl) (by kernel_rfl), akn (by omega)]
theorem hf2 {x : Nat} (h : x < 1000000) {t : TypeId} {rx ry : Operand} (w : World) (K : KV) : ib P .shr t rx ry (.int .u64 (x : Nat)) (.int .u64 1) w K = K (.int .u64 ((x / 2 : Nat) : Int)) w := by
 rw [aci (by omega)]
 have e : min (1 : Int).toNat IntKind.u64.bits = 1 := by decide
 rw [e, aip, Nat.pow_one]
end
def S1I (w0 : World) (m : Nat) (B : List Spn) (x : Spn) (L : List Asn) : KL := fun v w1 => ∃ (u : Value) (p q : Nat), v = [u, .int .i64 ((m + p : Nat) : Int), .int .i64 ((m + q : Nat) : Int)] ∧ p ≤ q ∧ q ≤ B.length ∧ (p = 0 ∨ ∃ h : p - 1 < B.length, leS B[p - 1] x) ∧ (q = B.length ∨ ∃ h : q < B.length, leS x B[q]) ∧ St w0 w1 L
def S4I (w0 : World) (g n cap a : Nat) (X B Y : List Spn) (x : Spn) (p : Nat) (R : List Asn) : KL := fun v w1 => ∃ (t : Nat), v = [.int .i64 ((a + t : Nat) : Int)] ∧ t ≤ p ∧ St w0 w1 (ky (vS g n cap) (X ++ (B.take t ++ x :: B.drop t) ++ Y) :: R)
def S3I (w0 : World) (s0 r0 N a m : Nat) (A B : List Spn) (L : List Asn) : KL := fun v w1 => ∃ (u : Value) (s r : Nat), v = [u, .int .i64 (s : Nat), .int .i64 (r : Nat)] ∧ s0 ≤ s ∧ s ≤ r ∧ r ≤ r0 ∧ (s = s0 ∨ ∃ (h1 : s - 1 - a < A.length) (h2 : N - s - m < B.length), leS A[s - 1 - a] B[N - s - m]) ∧ (r = r0 ∨ ∃ (h1 : N - 1 - r - m < B.length) (h2 : r - a < A.length), leS B[N - 1 - r - m] A[r - a]) ∧ St w0 w1 L
section
variable {w0 w : World} {R : List Asn} {g n cap : Nat} {X A B Y : List Spn}
theorem amt {X B Y : List Spn} {m i : Nat} (hX : X.length = m) (hi : i < B.length) : ∃ h : m + i < (X ++ B ++ Y).length, (X ++ B ++ Y)[m + i] = B[i] := by
 refine ⟨by simp; omega, ?_⟩
 have h1 : m + i < (X ++ B).length := by simp; omega
 rw [List.getElem_append_left h1, List.getElem_append_right (by omega)]
 simp only [hX, Nat.add_sub_cancel_left]
theorem bke {a m b : Nat} {x : Spn} (S : St w0 w (ky (vS g n cap) (X ++ [x] ++ B ++ Y) :: R)) (hn : n < 100000) (ha : X.length = a) (hm : a + 1 = m) (hb : m + B.length = b) (hB : ot B) {K : KV}
  (h : ∀ w' C, ot C → C.Perm (x :: B) → St w0 w' (ky (vS g n cap) (X ++ C ++ Y) :: R) → K (.tuple #[]) w') : gi P F.k [vS g n cap, .int .i64 (a : Nat), .int .i64 (m : Nat), .int .i64 (b : Nat), CF] w K := by
 have hlen := uf S
 simp only [List.length_append, List.length_singleton] at hlen
 rw [M.a.fcall]
 apply M.a.calls
 unfold M.a
 have e1 : ((m - a : Nat) : Int) = 1 := by omega
 simp only [lk, wrm (show a ≤ m by omega) (show m < 1000000 by omega), gp, ud, e1, decide_true, Eng.cond_true]
 refine ⟨S1I w0 m B x (ky (vS g n cap) (X ++ [x] ++ B ++ Y) :: R), fun v _ => ms v 2 - ms v 1, ⟨undef, 0, B.length, by simp [hb], Nat.zero_le _, Nat.le_refl _, .inl rfl, .inl rfl, S⟩, ?_⟩
 rintro v w1 ⟨u, p, q, rfl, hpq, hq, h1, h2, T1⟩
 have g1 : gv [u, Value.int .i64 ((m + p : Nat) : Int), .int .i64 ((m + q : Nat) : Int)] 1 = .int .i64 ((m + p : Nat) : Int) := rfl
 have g2 : gv [u, Value.int .i64 ((m + p : Nat) : Int), .int .i64 ((m + q : Nat) : Int)] 2 = .int .i64 ((m + q : Nat) : Int) := rfl
 simp only [g1, g2, lh]
 by_cases hlt : p < q
 ·have hlt' : ((m + p : Nat) : Int) < ((m + q : Nat) : Int) := by omega
  simp only [hlt', decide_true, Eng.cond_true]
  unfold M.a.j3
  have es : m + p + (m + q) = 2 * m + (p + q) := by omega
  have eh : (m + p + (m + q)) / 2 = m + (p + q) / 2 := by omega
  have hc : (p + q) / 2 < B.length := by omega
  have w1' := wra (x := m + p) (y := m + q) (by omega)
  simp only [g1, g2, kz, w1', hf1 (show m + p + (m + q) < 1000000 by omega), hf2 (show m + p + (m + q) < 1000000 by omega), hf3 (show (m + p + (m + q)) / 2 < 1000000 by omega)]
  rw [eh]
  generalize hh : (p + q) / 2 = c at *
  have T2 := T1.jo ((Fr.refl _ w1).dr 1)
  obtain ⟨k1, q1⟩ := amt (X := X ++ [x]) (B := B) (Y := Y) (m := m) (by simp; omega) hc
  obtain ⟨k2, q2⟩ := amt (X := X) (B := [x]) (Y := B ++ Y) (m := a) (i := 0) ha (by simp)
  have eL : X ++ [x] ++ (B ++ Y) = X ++ [x] ++ B ++ Y := by simp
  simp only [eL, Nat.add_zero, List.getElem_cons_zero] at k2 q2
  have d1 := vm T2 k1 q1
  have d2 := vm T2 k2 q2
  have i1 := fun w K => ux (g := g) (cap := cap) (show m + c < n by omega) w K
  have i2 := fun w K => ux (g := g) (cap := cap) (show a < n by omega) w K
  have b1 : ((m + c : Nat) : Int) < n := by omega
  have b2 : (a : Int) < n := by omega
  simp [-Int.natCast_add, i1, i2, b1, b2, d1, d2]
  refine akl T2 B[c] x fun w3 T3 => ?_
  by_cases hle : leS x B[c]
  ·have hno : ¬ abd B[c] x < 0 := fun hh => yz.1 hh hle
   simp [hno, -Int.natCast_add]
   refine ⟨⟨_, p, c, rfl, by omega, by omega, h1, .inr ⟨hc, hle⟩, by simpa using T3⟩, by simp [ms, gv]; omega⟩
  ·have hyes : abd B[c] x < 0 := yz.2 hle
   simp [hyes, -Int.natCast_add]
   rw [wr1 (by omega)]
   refine ⟨⟨_, c + 1, q, rfl, by omega, hq, .inr ⟨by omega, ?_⟩, h2, by simpa using T3⟩, by simp [ms, gv]; omega⟩
   simp only [Nat.add_sub_cancel]
   exact leS.of hle
 ·have hlt' : ¬ ((m + p : Nat) : Int) < ((m + q : Nat) : Int) := by omega
  have hpe : p = q := by omega
  subst hpe
  simp only [hlt', decide_false, Eng.cond_false]
  have T1' : St w0 w1 (ky (vS g n cap) (X ++ (B.take 0 ++ x :: B.drop 0) ++ Y) :: R) := by simpa using T1
  refine ⟨S4I w0 g n cap a X B Y x p R, fun v _ => m + p - ms v 0, ⟨0, by simp, Nat.zero_le _, T1'⟩, ?_⟩
  rintro v w2 ⟨t, rfl, ht, T2⟩
  have g0 : gv [Value.int .i64 ((a + t : Nat) : Int)] 0 = .int .i64 ((a + t : Nat) : Int) := rfl
  have g1' : gv [u, Value.int .i64 ((m + p : Nat) : Int), .int .i64 ((m + p : Nat) : Int)] 1 = .int .i64 ((m + p : Nat) : Int) := rfl
  have gu : gv [u, Value.int .i64 ((m + p : Nat) : Int), .int .i64 ((m + p : Nat) : Int)] 0 = u := rfl
  have g2' : gv [u, Value.int .i64 ((m + p : Nat) : Int), .int .i64 ((m + p : Nat) : Int)] 2 = .int .i64 ((m + p : Nat) : Int) := rfl
  unfold M.a.j5
  simp only [gp, g0, gu, g1', g2', lk, ayr (show 1 ≤ m + p by omega) (show m + p < 1000000 by omega), lh]
  by_cases htp : t < p
  ·have htp' : ((a + t : Nat) : Int) < ((m + p - 1 : Nat) : Int) := by omega
   simp only [htp', decide_true, Eng.cond_true]
   unfold M.a.j6
   have hd : B.drop t = B[t] :: B.drop (t + 1) := List.drop_eq_getElem_cons (by omega)
   have eL : X ++ (B.take t ++ x :: B.drop t) ++ Y = (X ++ B.take t) ++ x :: ([] ++ B[t] :: (B.drop (t + 1) ++ Y)) := by rw [hd]; simp only [List.append_assoc, List.cons_append, List.nil_append]
   have eR : (X ++ B.take t) ++ B[t] :: ([] ++ x :: (B.drop (t + 1) ++ Y)) = X ++ (B.take (t + 1) ++ x :: B.drop (t + 1)) ++ Y := by
    rw [List.take_add_one, List.getElem?_eq_getElem (show t < B.length by omega)]
    simp only [Option.toList_some, List.append_assoc, List.cons_append, List.nil_append]
   rw [eL] at T2
   have T3 := T2.jo ((Fr.refl _ w2).dr 1)
   obtain ⟨h1', h2', e1', e2', e3', _⟩ := akg (L := (X ++ B.take t) ++ x :: ([] ++ B[t] :: (B.drop (t + 1) ++ Y))) (i := a + t) (j := a + t + 1) rfl (by simp; omega) (by simp; omega)
   have d1 := vm T3 h1' e1'
   have d2 := vm T3 h2' e2'
   have i1 := fun w K => ux (g := g) (cap := cap) (show a + t < n by omega) w K
   have i2 := fun w K => ux (g := g) (cap := cap) (show a + t + 1 < n by omega) w K
   have hw := wr1 (x := a + t) (by omega)
   have b1 : ((a + t : Nat) : Int) < n := by omega
   have b2 : ((a + t + 1 : Nat) : Int) < n := by omega
   simp [-Int.natCast_add, g0, hw, i1, i2, b1, b2, d1, d2]
   refine zl T3 h1' B[t] fun w4 T4 => ?_
   refine zl T4 (by rw [List.length_set]; exact h2') x fun w5 T5 => ?_
   rw [e3', eR] at T5
   refine ⟨⟨t + 1, rfl, by omega, T5⟩, by simp [ms, gv]; omega⟩
  ·have htp' : ¬ ((a + t : Nat) : Int) < ((m + p - 1 : Nat) : Int) := by omega
   have hte : t = p := by omega
   subst hte
   simp only [htp', decide_false, Eng.cond_false]
   exact h w2 _ (atp hB hq h1 h2) (arc B x t) T2
end
def S2I (w0 : World) (a : Nat) (A : List Spn) (y : Spn) (L : List Asn) : KL := fun v w1 => ∃ (u : Value) (p q : Nat), v = [u, .int .i64 ((a + p : Nat) : Int), .int .i64 ((a + q : Nat) : Int)] ∧ p ≤ q ∧ q ≤ A.length ∧ (p = 0 ∨ ∃ h : p - 1 < A.length, leS A[p - 1] y) ∧ (q = A.length ∨ ∃ h : q < A.length, leS y A[q]) ∧ St w0 w1 L
def S5I (w0 : World) (g n cap a : Nat) (X A Y : List Spn) (y : Spn) (p : Nat) (R : List Asn) : KL := fun v w1 => ∃ (t : Nat), v = [.int .i64 ((a + t : Nat) : Int)] ∧ p ≤ t ∧ t ≤ A.length ∧ St w0 w1 (ky (vS g n cap) (X ++ (A.take t ++ y :: A.drop t) ++ Y) :: R)
section
variable {w0 w : World} {R : List Asn} {g n cap : Nat} {X A B Y : List Spn}
theorem bjo {a m b : Nat} {y : Spn} (S : St w0 w (ky (vS g n cap) (X ++ A ++ [y] ++ Y) :: R)) (hn : n < 100000) (ha : X.length = a) (hm : a + A.length = m) (hb : m + 1 = b) (hA : ot A) (hne : A.length ≠ 1) {K : KV}
  (h : ∀ w' C, ot C → C.Perm (y :: A) → St w0 w' (ky (vS g n cap) (X ++ C ++ Y) :: R) → K (.tuple #[]) w') : gi P F.k [vS g n cap, .int .i64 (a : Nat), .int .i64 (m : Nat), .int .i64 (b : Nat), CF] w K := by
 have hlen := uf S
 simp only [List.length_append, List.length_singleton] at hlen
 rw [M.a.fcall]
 apply M.a.calls
 unfold M.a
 have e0 : ¬ ((m - a : Nat) : Int) = 1 := by omega
 have e1 : ((b - m : Nat) : Int) = 1 := by omega
 simp only [lk, wrm (show a ≤ m by omega) (show m < 1000000 by omega), gp, ud, e0, decide_false, Eng.cond_false]
 unfold M.a.j0
 simp only [lk, wrm (show m ≤ b by omega) (show b < 1000000 by omega), gp, ud, e1, decide_true, Eng.cond_true]
 refine ⟨S2I w0 a A y (ky (vS g n cap) (X ++ A ++ [y] ++ Y) :: R), fun v _ => ms v 2 - ms v 1, ⟨undef, 0, A.length, by simp [hm], Nat.zero_le _, Nat.le_refl _, .inl rfl, .inl rfl, S⟩, ?_⟩
 rintro v w1 ⟨u, p, q, rfl, hpq, hq, h1, h2, T1⟩
 have g1 : gv [u, Value.int .i64 ((a + p : Nat) : Int), .int .i64 ((a + q : Nat) : Int)] 1 = .int .i64 ((a + p : Nat) : Int) := rfl
 have g2 : gv [u, Value.int .i64 ((a + p : Nat) : Int), .int .i64 ((a + q : Nat) : Int)] 2 = .int .i64 ((a + q : Nat) : Int) := rfl
 simp only [g1, g2, lh]
 by_cases hlt : p < q
 ·have hlt' : ((a + p : Nat) : Int) < ((a + q : Nat) : Int) := by omega
  simp only [hlt', decide_true, Eng.cond_true]
  unfold M.a.j11
  have eh : (a + p + (a + q)) / 2 = a + (p + q) / 2 := by omega
  have hc : (p + q) / 2 < A.length := by omega
  have w1' := wra (x := a + p) (y := a + q) (by omega)
  simp only [g1, g2, kz, w1', hf1 (show a + p + (a + q) < 1000000 by omega), hf2 (show a + p + (a + q) < 1000000 by omega), hf3 (show (a + p + (a + q)) / 2 < 1000000 by omega)]
  rw [eh]
  generalize hh : (p + q) / 2 = c at *
  have T2 := T1.jo ((Fr.refl _ w1).dr 1)
  obtain ⟨k1, q1⟩ := amt (X := X) (B := A) (Y := [y] ++ Y) (m := a) ha hc
  obtain ⟨k2, q2⟩ := amt (X := X ++ A) (B := [y]) (Y := Y) (m := m) (i := 0) (by simp; omega) (by simp)
  have eL : X ++ A ++ ([y] ++ Y) = X ++ A ++ [y] ++ Y := by simp
  simp only [eL] at k1 q1
  simp only [Nat.add_zero, List.getElem_cons_zero] at k2 q2
  have d1 := vm T2 k1 q1
  have d2 := vm T2 k2 q2
  have i1 := fun w K => ux (g := g) (cap := cap) (show a + c < n by omega) w K
  have i2 := fun w K => ux (g := g) (cap := cap) (show m < n by omega) w K
  have b1 : ((a + c : Nat) : Int) < n := by omega
  have b2 : (m : Int) < n := by omega
  simp [-Int.natCast_add, i1, i2, b1, b2, d1, d2]
  refine akl T2 y A[c] fun w3 T3 => ?_
  by_cases hle : leS A[c] y
  ·have hno : ¬ abd y A[c] < 0 := fun hh => yz.1 hh hle
   simp [hno, -Int.natCast_add]
   rw [wr1 (by omega)]
   refine ⟨⟨_, c + 1, q, rfl, by omega, hq, .inr ⟨by omega, ?_⟩, h2, by simpa using T3⟩, by simp [ms, gv]; omega⟩
   simp only [Nat.add_sub_cancel]
   exact hle
  ·have hyes : abd y A[c] < 0 := yz.2 hle
   simp [hyes, -Int.natCast_add]
   refine ⟨⟨_, p, c, rfl, by omega, by omega, h1, .inr ⟨hc, leS.of hle⟩, by simpa using T3⟩, by simp [ms, gv]; omega⟩
 ·have hlt' : ¬ ((a + p : Nat) : Int) < ((a + q : Nat) : Int) := by omega
  have hpe : p = q := by omega
  subst hpe
  simp only [hlt', decide_false, Eng.cond_false]
  unfold M.a.j9
  simp only [gp]
  have T1' : St w0 w1 (ky (vS g n cap) (X ++ (A.take A.length ++ y :: A.drop A.length) ++ Y) :: R) := by simpa using T1
  refine ⟨S5I w0 g n cap a X A Y y p R, fun v _ => ms v 0, ⟨A.length, by rw [hm], hq, Nat.le_refl _, T1'⟩, ?_⟩
  rintro v w2 ⟨t, rfl, ht, htA, T2⟩
  have g0 : gv [Value.int .i64 ((a + t : Nat) : Int)] 0 = .int .i64 ((a + t : Nat) : Int) := rfl
  have g1' : gv [u, Value.int .i64 ((a + p : Nat) : Int), .int .i64 ((a + p : Nat) : Int)] 1 = .int .i64 ((a + p : Nat) : Int) := rfl
  have gu : gv [u, Value.int .i64 ((a + p : Nat) : Int), .int .i64 ((a + p : Nat) : Int)] 0 = u := rfl
  have g2' : gv [u, Value.int .i64 ((a + p : Nat) : Int), .int .i64 ((a + p : Nat) : Int)] 2 = .int .i64 ((a + p : Nat) : Int) := rfl
  simp only [g0, gu, g1', g2', rk]
  by_cases htp : p < t
  ·have htp' : ((a + p : Nat) : Int) < ((a + t : Nat) : Int) := by omega
   simp only [htp', decide_true, Eng.cond_true]
   unfold M.a.j14
   obtain ⟨t, rfl⟩ : ∃ t', t = t' + 1 := ⟨t - 1, by omega⟩
   have hd : A.drop t = A[t] :: A.drop (t + 1) := List.drop_eq_getElem_cons (by omega)
   have eL : X ++ (A.take (t + 1) ++ y :: A.drop (t + 1)) ++ Y = (X ++ A.take t) ++ A[t] :: ([] ++ y :: (A.drop (t + 1) ++ Y)) := by
    rw [List.take_add_one, List.getElem?_eq_getElem (show t < A.length by omega)]
    simp only [Option.toList_some, List.append_assoc, List.cons_append, List.nil_append]
   have eR : (X ++ A.take t) ++ y :: ([] ++ A[t] :: (A.drop (t + 1) ++ Y)) = X ++ (A.take t ++ y :: A.drop t) ++ Y := by rw [hd]; simp only [List.append_assoc, List.cons_append, List.nil_append]
   rw [eL] at T2
   have T3 := T2.jo ((Fr.refl _ w2).dr 1)
   obtain ⟨h1', h2', e1', e2', _, e3'⟩ := akg (L := (X ++ A.take t) ++ A[t] :: ([] ++ y :: (A.drop (t + 1) ++ Y))) (i := a + t) (j := a + (t + 1)) rfl (by simp; omega) (by simp; omega)
   have d1 := vm T3 h1' e1'
   have d2 := vm T3 h2' e2'
   have i1 := fun w K => ux (g := g) (cap := cap) (show a + t < n by omega) w K
   have i2 := fun w K => ux (g := g) (cap := cap) (show a + (t + 1) < n by omega) w K
   have hw : IntKind.i64.wrap (((a + (t + 1) : Nat) : Int) - 1) = ((a + t : Nat) : Int) := by rw [ayr (by omega) (by omega)]; congr 1
   have b1 : ((a + t : Nat) : Int) < n := by omega
   have b2 : ((a + (t + 1) : Nat) : Int) < n := by omega
   simp [-Int.natCast_add, g0, hw, i1, i2, b1, b2, d1, d2]
   refine zl T3 h2' A[t] fun w4 T4 => ?_
   refine zl T4 (by rw [List.length_set]; exact h1') y fun w5 T5 => ?_
   rw [e3', eR] at T5
   refine ⟨⟨t, rfl, by omega, by omega, T5⟩, by simp [ms, gv]; omega⟩
  ·have htp' : ¬ ((a + p : Nat) : Int) < ((a + t : Nat) : Int) := by omega
   have hte : t = p := by omega
   subst hte
   simp only [htp', decide_false, Eng.cond_false]
   exact h w2 _ (atp hA hq h1 h2) (arc A y t) T2
set_option maxHeartbeats 1000000 in
theorem bby : ∀ (d : Nat) {w : World} {X A B Y : List Spn} {a m b : Nat} (_ : St w0 w (ky (vS g n cap) (X ++ A ++ B ++ Y) :: R)) (_ : A.length + B.length ≤ d) (_ : n < 100000) (_ : X.length = a) (_ : a + A.length = m) (_ : m + B.length = b) (_ : 0 < A.length) (_ : 0 < B.length) (_ : ot A) (_ : ot B) {K : KV}
  (_ : ∀ w' C, ot C → C.Perm (A ++ B) → St w0 w' (ky (vS g n cap) (X ++ C ++ Y) :: R) → K (.tuple #[]) w'), gi P F.k [vS g n cap, .int .i64 (a : Nat), .int .i64 (m : Nat), .int .i64 (b : Nat), CF] w K := by
 intro d
 induction d with
 | zero => intro w X A B Y a m b S hd hn ha hm hb hA0 hB0; omega
 | succ d ih =>
 intro w X A B Y a m b S hd hn ha hm hb hA0 hB0 hA hB K h
 have hlen := uf S
 simp only [List.length_append] at hlen
 by_cases hA1 : A.length = 1
 ·obtain ⟨x, rfl⟩ := List.length_eq_one_iff.1 hA1
  exact bke S hn ha hm hb hB fun w' C c1 c2 S' => h w' C c1 (by simpa using c2) S'
 by_cases hB1 : B.length = 1
 ·obtain ⟨y, rfl⟩ := List.length_eq_one_iff.1 hB1
  exact bjo S hn ha hm hb hA hA1 fun w' C c1 c2 S' => h w' C c1 (c2.trans (List.perm_append_comm (l₁ := [y]) (l₂ := A))) S'
 rw [M.a.fcall]
 apply M.a.calls
 unfold M.a
 have e0 : ¬ ((m - a : Nat) : Int) = 1 := by omega
 have e1 : ¬ ((b - m : Nat) : Int) = 1 := by omega
 simp only [lk, wrm (show a ≤ m by omega) (show m < 1000000 by omega), gp, ud, e0, decide_false, Eng.cond_false]
 unfold M.a.j0
 simp only [lk, wrm (show m ≤ b by omega) (show b < 1000000 by omega), gp, ud, e1, decide_false, Eng.cond_false]
 unfold M.a.j8
 simp only [kz, wra (show a + b < 1000000 by omega), hf1 (show a + b < 1000000 by omega), hf2 (show a + b < 1000000 by omega), hf3 (show (a + b) / 2 < 1000000 by omega), gp, rk]
 generalize hmid : (a + b) / 2 = mid
 simp only [wra (show mid + m < 1000000 by omega)]
 generalize hN : mid + m = N
 -- behind the choice of the search's bounds
 have main : ∀ (s0 r0 : Nat), s0 ≤ r0 → a ≤ s0 → r0 ≤ m → r0 ≤ mid → N ≤ s0 + b → (s0 = a ∨ s0 + b = N) → (r0 = mid ∨ r0 = m) → M.a.j16 (.int .i64 (N : Nat)) [.int .i64 (s0 : Nat), .int .i64 (r0 : Nat)] (vS g n cap) CF (.int .i64 (m : Nat)) (.int .i64 (a : Nat)) (.int .i64 (mid : Nat)) (.int .i64 (b : Nat)) w K := by
  intro s0 r0 hsr has hrm hrmid hNs hs0 hr0
  unfold M.a.j16
  have gs0 : gv [Value.int .i64 (s0 : Nat), .int .i64 (r0 : Nat)] 0 = .int .i64 (s0 : Nat) := rfl
  have gs1 : gv [Value.int .i64 (s0 : Nat), .int .i64 (r0 : Nat)] 1 = .int .i64 (r0 : Nat) := rfl
  simp only [lk, ayr (show 1 ≤ N by omega) (show N < 1000000 by omega), gp, gs0, gs1]
  refine ⟨S3I w0 s0 r0 N a m A B (ky (vS g n cap) (X ++ A ++ B ++ Y) :: R), fun v _ => ms v 2 - ms v 1, ⟨_, s0, r0, rfl, Nat.le_refl _, hsr, Nat.le_refl _, .inl rfl, .inl rfl, S⟩, ?_⟩
  rintro v w1 ⟨u, s, r, rfl, q1, q2, q3, c1, c2, T1⟩
  have g1 : gv [u, Value.int .i64 (s : Nat), .int .i64 (r : Nat)] 1 = .int .i64 (s : Nat) := rfl
  have g2 : gv [u, Value.int .i64 (s : Nat), .int .i64 (r : Nat)] 2 = .int .i64 (r : Nat) := rfl
  simp only [g1, g2, lh]
  by_cases hlt : s < r
  ·have hlt' : (s : Int) < (r : Int) := by omega
   simp only [hlt', decide_true, Eng.cond_true]
   unfold M.a.j19
   simp only [g1, g2, kz, wra (show s + r < 1000000 by omega), hf1 (show s + r < 1000000 by omega), hf2 (show s + r < 1000000 by omega), hf3 (show (s + r) / 2 < 1000000 by omega)]
   generalize hcc : (s + r) / 2 = c
   have T2 := T1.jo ((Fr.refl _ w1).dr 1)
   have hcA : c - a < A.length := by omega
   have hcB : N - 1 - c - m < B.length := by omega
   obtain ⟨k1, x1⟩ := amt (X := X) (B := A) (Y := B ++ Y) (m := a) ha hcA
   obtain ⟨k2, x2⟩ := amt (X := X ++ A) (B := B) (Y := Y) (m := m) (by simp; omega) hcB
   have eL : X ++ A ++ (B ++ Y) = X ++ A ++ B ++ Y := by simp
   have ec : a + (c - a) = c := by omega
   have ep : m + (N - 1 - c - m) = N - 1 - c := by omega
   simp only [eL, ec] at k1 x1
   simp only [ep] at k2 x2
   have d1 := vm T2 k1 x1
   have d2 := vm T2 k2 x2
   have i1 := fun w K => ux (g := g) (cap := cap) (show c < n by omega) w K
   have i2 := fun w K => ux (g := g) (cap := cap) (show N - 1 - c < n by omega) w K
   have hw := wrm (show c ≤ N - 1 by omega) (show N - 1 < 1000000 by omega)
   have b1 : (c : Int) < n := by omega
   have b2 : ((N - 1 - c : Nat) : Int) < n := by omega
   simp [-Int.natCast_add, hw, i1, i2, b1, b2, d1, d2]
   refine akl T2 B[N - 1 - c - m] A[c - a] fun w3 T3 => ?_
   by_cases hle : leS A[c - a] B[N - 1 - c - m]
   ·have hno : ¬ abd B[N - 1 - c - m] A[c - a] < 0 := fun hh => yz.1 hh hle
    simp [hno, -Int.natCast_add]
    rw [wr1 (by omega)]
    refine ⟨⟨_, c + 1, r, rfl, by omega, by omega, q3, .inr ?_, c2, by simpa using T3⟩, by simp [ms, gv]; omega⟩
    have e1 : c + 1 - 1 - a = c - a := by omega
    have e2 : N - (c + 1) - m = N - 1 - c - m := by omega
    simp only [e1, e2]
    exact ⟨hcA, hcB, hle⟩
   ·have hyes : abd B[N - 1 - c - m] A[c - a] < 0 := yz.2 hle
    simp [hyes, -Int.natCast_add]
    exact ⟨⟨_, s, c, rfl, q1, by omega, by omega, c1, .inr ⟨hcB, hcA, leS.of hle⟩, by simpa using T3⟩, by simp [ms, gv]; omega⟩
  ·have hlt' : ¬ (s : Int) < (r : Int) := by omega
   have hse : r = s := by omega
   subst hse
   simp only [hlt', decide_false, Eng.cond_false]
   unfold M.a.j17
   have he := wrm (show r ≤ N by omega) (show N < 1000000 by omega)
   have g1' : gv [u, Value.int .i64 (r : Nat), .int .i64 (r : Nat)] 1 = .int .i64 (r : Nat) := rfl
   have gu : gv [u, Value.int .i64 (r : Nat), .int .i64 (r : Nat)] 0 = u := rfl
   have g2' : gv [u, Value.int .i64 (r : Nat), .int .i64 (r : Nat)] 2 = .int .i64 (r : Nat) := rfl
   simp only [gu, g1', g2', lk, he, gp, lh]
   -- the gy
   have htA : r - a ≤ A.length := by omega
   have htB : mid - r ≤ B.length := by omega
   have f1 : r - a = 0 ∨ mid - r = B.length ∨ ∃ (h1 : r - a - 1 < A.length) (h2 : mid - r < B.length), leS A[r - a - 1] B[mid - r] := by
    rcases c1 with hh | ⟨k1, k2, hh⟩
    ·rcases hs0 with h0 | h0
     ·exact .inl (by omega)
     ·exact .inr (.inl (by omega))
    ·have e1 : r - 1 - a = r - a - 1 := by omega
     have e2 : N - r - m = mid - r := by omega
     simp only [e1, e2] at k1 k2 hh
     exact .inr (.inr ⟨k1, k2, hh⟩)
   have f2 : mid - r = 0 ∨ r - a = A.length ∨ ∃ (h1 : mid - r - 1 < B.length) (h2 : r - a < A.length), leS B[mid - r - 1] A[r - a] := by
    rcases c2 with hh | ⟨k1, k2, hh⟩
    ·rcases hr0 with h0 | h0
     ·exact .inl (by omega)
     ·exact .inr (.inl (by omega))
    ·have e1 : N - 1 - r - m = mid - r - 1 := by omega
     simp only [e1] at k1 hh
     exact .inr (.inr ⟨k1, k2, hh⟩)
   have lA1 : (A.take (r - a)).length = r - a := by rw [List.length_take]; omega
   have lA2 : (A.drop (r - a)).length = m - r := by rw [List.length_drop]; omega
   have lB1 : (B.take (mid - r)).length = mid - r := by rw [List.length_take]; omega
   have lB2 : (B.drop (mid - r)).length = b - (N - r) := by rw [List.length_drop]; omega
   have hA1' := hA.sublist (List.take_sublist (r - a) A)
   have hA2' := hA.sublist (List.drop_sublist (r - a) A)
   have hB1' := hB.sublist (List.take_sublist (mid - r) B)
   have hB2' := hB.sublist (List.drop_sublist (mid - r) B)
   have fin : ∀ (C1 : List Spn) w2, ot C1 → C1.Perm (A.take (r - a) ++ B.take (mid - r)) → St w0 w2 (ky (vS g n cap) (X ++ C1 ++ A.drop (r - a) ++ B.drop (mid - r) ++ Y) :: R) →
     M.a.j21 (.int .i64 (mid : Nat)) (.int .i64 ((N - r : Nat) : Int)) (.int .i64 (b : Nat)) (vS g n cap) CF w2 K := by
    intro C1 w2 z1 z2 T2
    have hl1 := z2.length_eq
    rw [List.length_append, lA1, lB1] at hl1
    have lr : ∀ (C2 : List Spn) w3, ot C2 → C2.Perm (A.drop (r - a) ++ B.drop (mid - r)) → St w0 w3 (ky (vS g n cap) (X ++ C1 ++ C2 ++ Y) :: R) → K (.tuple #[]) w3 := fun C2 w3 y1 y2 T3 => by
     obtain ⟨r1, r2⟩ := ajo hA hB htA htB f1 f2 z1 z2 y1 y2
     exact h w3 (C1 ++ C2) r1 r2 (by simpa using T3)
    unfold M.a.j21
    by_cases u1 : mid < N - r
    ·have u1' : (mid : Int) < ((N - r : Nat) : Int) := by omega
     by_cases u2 : N - r < b
     ·have u2' : ((N - r : Nat) : Int) < (b : Int) := by omega
      simp [u1', u2', -Int.natCast_add]
      have T3 : St w0 w2 (ky (vS g n cap) ((X ++ C1) ++ A.drop (r - a) ++ B.drop (mid - r) ++ Y) :: R) := T2
      refine ih T3 (by omega) hn (by rw [List.length_append]; omega) (by omega) (by omega) (by omega) (by omega) hA2' hB2' fun w3 C2 y1 y2 T4 => ?_
      exact lr C2 w3 y1 y2 T4
     ·have u2' : ¬ ((N - r : Nat) : Int) < (b : Int) := by omega
      simp [u1', u2', -Int.natCast_add]
      have e : B.drop (mid - r) = [] := List.length_eq_zero_iff.1 (by omega)
      rw [e] at T2 lr
      exact lr (A.drop (r - a)) w2 hA2' (by simp) (by simpa using T2)
    ·have u1' : ¬ (mid : Int) < ((N - r : Nat) : Int) := by omega
     simp [u1', -Int.natCast_add]
     have e : A.drop (r - a) = [] := List.length_eq_zero_iff.1 (by omega)
     rw [e] at T2 lr
     exact lr (B.drop (mid - r)) w2 hB2' (by simp) (by simpa using T2)
   have mid1 : ∀ w2, St w0 w2 (ky (vS g n cap) (X ++ A.take (r - a) ++ B.take (mid - r) ++ (A.drop (r - a) ++ B.drop (mid - r) ++ Y)) :: R) →
     M.a.j20 (.int .i64 (a : Nat)) [u, .int .i64 (r : Nat), .int .i64 (r : Nat)] (.int .i64 (mid : Nat)) (vS g n cap) CF (.int .i64 ((N - r : Nat) : Int)) (.int .i64 (b : Nat)) w2 K := by
    intro w2 T2
    unfold M.a.j20
    simp only [g1']
    by_cases u1 : a < r
    ·have u1' : (a : Int) < (r : Int) := by omega
     by_cases u2 : r < mid
     ·have u2' : (r : Int) < (mid : Int) := by omega
      simp [u1', u2', u1, u2]
      refine ih T2 (by omega) hn ha (by omega) (by omega) (by omega) (by omega) hA1' hB1' fun w3 C1 y1 y2 T4 => ?_
      exact fin C1 w3 y1 y2 (by simp only [List.append_assoc] at T4 ⊢; exact T4)
     ·have u2' : ¬ (r : Int) < (mid : Int) := by omega
      simp [u1', u2', u1, u2]
      have e : B.take (mid - r) = [] := List.length_eq_zero_iff.1 (by omega)
      rw [e] at T2 fin
      exact fin (A.take (r - a)) w2 hA1' (by simp) (by simp only [List.append_nil, List.nil_append, List.append_assoc] at T2 ⊢; exact T2)
    ·have u1' : ¬ (a : Int) < (r : Int) := by omega
     simp [u1', u1]
     have e : A.take (r - a) = [] := List.length_eq_zero_iff.1 (by omega)
     rw [e] at T2 fin
     exact fin (B.take (mid - r)) w2 hB1' (by simp) (by simp only [List.append_nil, List.nil_append, List.append_assoc] at T2 ⊢; exact T2)
   have eA : A = A.take (r - a) ++ A.drop (r - a) := (List.take_append_drop _ A).symm
   have eB : B = B.take (mid - r) ++ B.drop (mid - r) := (List.take_append_drop _ B).symm
   have T2 : St w0 w1 (ky (vS g n cap) ((X ++ A.take (r - a)) ++ A.drop (r - a) ++ B.take (mid - r) ++ (B.drop (mid - r) ++ Y)) :: R) := by
    have e : (X ++ A.take (r - a)) ++ A.drop (r - a) ++ B.take (mid - r) ++ (B.drop (mid - r) ++ Y) = X ++ A ++ B ++ Y := by
     have e : (X ++ A.take (r - a)) ++ A.drop (r - a) ++ B.take (mid - r) ++ (B.drop (mid - r) ++ Y) = X ++ (A.take (r - a) ++ A.drop (r - a)) ++ (B.take (mid - r) ++ B.drop (mid - r)) ++ Y := by simp only [List.append_assoc]
     rw [e, List.take_append_drop, List.take_append_drop]
    rw [e]; exact T1
   by_cases u1 : r < m
   ·have u1' : (r : Int) < (m : Int) := by omega
    by_cases u2 : m < N - r
    ·have u2' : (m : Int) < ((N - r : Nat) : Int) := by omega
     simp [u1', u2', u1, -Int.natCast_add]
     refine bmr T2 hn (by rw [List.length_append]; omega) (by omega) (by omega) (fun e => by rw [e] at lA2; simp at lA2; omega) (fun e => by rw [e] at lB1; simp at lB1; omega) fun w2 T3 => ?_
     exact mid1 w2 (by simp only [List.append_assoc] at T3 ⊢; exact T3)
    ·have u2' : ¬ (m : Int) < ((N - r : Nat) : Int) := by omega
     simp [u1', u2', u1, -Int.natCast_add]
     have e : B.take (mid - r) = [] := List.length_eq_zero_iff.1 (by omega)
     rw [e] at T2 mid1
     exact mid1 w1 (by simp only [List.append_nil, List.nil_append, List.append_assoc] at T2 ⊢; exact T2)
   ·have u1' : ¬ (r : Int) < (m : Int) := by omega
    simp [u1', u1, -Int.natCast_add]
    have e : A.drop (r - a) = [] := List.length_eq_zero_iff.1 (by omega)
    rw [e] at T2 mid1
    exact mid1 w1 (by simp only [List.append_nil, List.nil_append, List.append_assoc] at T2 ⊢; exact T2)
 by_cases hgt : mid < m
 ·have hgt' : (mid : Int) < (m : Int) := by omega
  simp only [hgt', decide_true, Eng.cond_true, lk, wrm (show b ≤ N by omega) (show N < 1000000 by omega)]
  exact main (N - b) mid (by omega) (by omega) (by omega) (Nat.le_refl _) (by omega) (.inr (by omega)) (.inl rfl)
 ·have hgt' : ¬ (mid : Int) < (m : Int) := by omega
  simp only [hgt', decide_false, Eng.cond_false]
  exact main a m (by omega) (Nat.le_refl _) (Nat.le_refl _) (by omega) (by omega) (.inl rfl) (.inr rfl)
end
def Blk (k : Nat) (Ls : List (List Spn)) : Prop := ∀ s ∈ Ls, s.length = k ∧ ot s
theorem aew {k : Nat} : ∀ {Ls : List (List Spn)}, Blk k Ls → Ls.flatten.length = Ls.length * k
 | [], _ => by simp
 | s :: r, h => by
  rw [List.flatten_cons, List.length_append, (h s (by simp)).1, aew (Ls := r) fun x hx => h x (List.mem_cons_of_mem _ hx), List.length_cons, Nat.add_mul]
  omega
theorem atb {k : Nat} {Ls : List (List Spn)} (h : Blk k Ls) {s : List Spn} (h1 : s.length = k) (h2 : ot s) : Blk k (Ls ++ [s]) := fun x hx => by
 rcases List.mem_append.1 hx with hx | hx
 ·exact h x hx
 ·rw [List.mem_singleton.1 hx]; exact ⟨h1, h2⟩
def bov (w0 : World) (g n cap : Nat) (l : List Spn) (R : List Asn) : KL := fun v w1 => ∃ (a : Nat) (Ps : List (List Spn)) (Q : List Spn), v = [.int .i64 (a : Nat), .int .i64 ((a + 20 : Nat) : Int)] ∧ a = Ps.length * 20 ∧ Blk 20 Ps ∧ (Ps.flatten ++ Q).Perm l ∧ St w0 w1 (ky (vS g n cap) (Ps.flatten ++ Q) :: R)
def bpj (w0 : World) (g n cap : Nat) (l : List Spn) (R : List Asn) : KL := fun v w1 => ∃ (u0 u1 u2 : Value) (k : Nat) (Ls : List (List Spn)) (z : List Spn), v = [u0, u1, u2, .int .i64 (k : Nat)] ∧ 20 ≤ k ∧ Blk k Ls ∧ z.length < k ∧ ot z ∧ (Ls.flatten ++ z).Perm l ∧ St w0 w1 (ky (vS g n cap) (Ls.flatten ++ z) :: R)
def bpq (w0 : World) (g n cap k : Nat) (l : List Spn) (R : List Asn) : KL := fun v w1 => ∃ (a : Nat) (Ps Ls : List (List Spn)) (z : List Spn), v = [.int .i64 (a : Nat), .int .i64 ((a + 2 * k : Nat) : Int)] ∧ a = Ps.length * (2 * k) ∧ a ≤ n ∧ Blk (2 * k) Ps ∧ Blk k Ls ∧ z.length < k ∧ ot z ∧ (Ps.flatten ++ (Ls.flatten ++ z)).Perm l ∧ St w0 w1 (ky (vS g n cap) (Ps.flatten ++ (Ls.flatten ++ z)) :: R)
section
variable {w0 w : World} {R : List Asn} {g n cap : Nat} {l : List Spn}
theorem azy (S : St w0 w (ky (vS g n cap) l :: R)) (hn : n < 100000) {k : Nat} (hk : k < n) (hk20 : 20 ≤ k) {Ls : List (List Spn)} {z : List Spn} (e : l = Ls.flatten ++ z) (hL : Blk k Ls) (hz : z.length < k) (hza : ot z) {u0 u1 u2 : Value} {K : KV} {K3 : KL}
  (h : ∀ w' y0 y1 y2 Ls z, Blk (2 * k) Ls → z.length < 2 * k → ot z → (Ls.flatten ++ z).Perm l → St w0 w' (ky (vS g n cap) (Ls.flatten ++ z) :: R) → K3 [y0, y1, y2, .int .i64 ((2 * k : Nat) : Int)] w') : M.c.j4 [u0, u1, u2, .int .i64 (k : Nat)] (.int .i64 (n : Nat)) (vS g n cap) CF K3 w K := by
 have hlen := uf S
 unfold M.c.j4
 have g3 : gv [u0, u1, u2, Value.int .i64 (k : Nat)] 3 = .int .i64 (k : Nat) := rfl
 have wm : IntKind.i64.wrap (2 * (k : Int)) = ((2 * k : Nat) : Int) := by rw [ia]; omega
 have wm' : IntKind.i64.wrap ((k : Int) * 2) = ((2 * k : Nat) : Int) := by rw [ia]; omega
 simp only [g3, vh, wm, gp]
 refine ⟨bpq w0 g n cap k l R, fun v _ => n + 2 * k - ms v 1, ⟨0, [], Ls, z, by simp, by simp, Nat.zero_le _, fun s hs => by simp at hs, hL, hz, hza, by rw [e]; simp, by rw [List.flatten_nil, List.nil_append, ← e]; exact S⟩, ?_⟩
 rintro v w1 ⟨a, Ps, Ls, z, rfl, ha, han, hP, hL, hz, hza, hp, T1⟩
 have hlen2 := uf T1
 have lP := aew hP
 have lL := aew hL
 simp only [List.length_append, lP, lL] at hlen2
 have g0 : gv [Value.int .i64 (a : Nat), .int .i64 ((a + 2 * k : Nat) : Int)] 0 = .int .i64 (a : Nat) := rfl
 have g1 : gv [Value.int .i64 (a : Nat), .int .i64 ((a + 2 * k : Nat) : Int)] 1 = .int .i64 ((a + 2 * k : Nat) : Int) := rfl
 simp only [g1, acd]
 by_cases hb : a + 2 * k ≤ n
 ·have hb' : ((a + 2 * k : Nat) : Int) ≤ n := by omega
  simp only [hb', decide_true, Eng.cond_true]
  unfold M.c.j7
  simp only [g0, g1, g3, kz, wra (show a + k < 1000000 by omega)]
  obtain ⟨s, t, Ls', rfl⟩ : ∃ s t Ls', Ls = s :: t :: Ls' := by
   match Ls with
   | [] => simp at hlen2; omega
   | [s] => simp at hlen2; omega
   | s :: t :: r => exact ⟨s, t, r, rfl⟩
  obtain ⟨s1, s2⟩ := hL s (by simp)
  obtain ⟨t1, t2⟩ := hL t (by simp)
  have eL : Ps.flatten ++ ((s :: t :: Ls').flatten ++ z) = Ps.flatten ++ s ++ t ++ (Ls'.flatten ++ z) := by simp
  rw [eL] at T1 hp
  refine bby (g := g) (n := n) (cap := cap) _ T1 (Nat.le_refl _) hn (by omega) (by omega) (by omega) (by omega) (by omega) s2 t2 fun w2 C c1 c2 T2 => ?_
  have wb : IntKind.i64.wrap (((a + 2 * k : Nat) : Int) + ((2 * k : Nat) : Int)) = ((a + 2 * k + 2 * k : Nat) : Int) := wra (by omega)
  simp only [vh, wm, kz, wb]
  have hCl := c2.length_eq
  rw [List.length_append] at hCl
  refine ⟨⟨a + 2 * k, Ps ++ [C], Ls', z, rfl, by rw [List.length_append, List.length_singleton, Nat.add_mul, ha]; omega, by omega, atb hP (by omega) c1, fun x hx => hL x (by simp [hx]), hz, hza, ?_, by simpa using T2⟩, by simp [ms, gv]; omega⟩
  refine List.Perm.trans ?_ hp
  have e1 : (Ps ++ [C]).flatten ++ (Ls'.flatten ++ z) = Ps.flatten ++ C ++ (Ls'.flatten ++ z) := by simp
  have e2 : Ps.flatten ++ s ++ t ++ (Ls'.flatten ++ z) = Ps.flatten ++ (s ++ t) ++ (Ls'.flatten ++ z) := by simp
  rw [e1, e2]
  exact List.Perm.append_right _ (List.Perm.append_left _ c2)
 ·have hb' : ¬ ((a + 2 * k : Nat) : Int) ≤ n := by omega
  simp only [hb', decide_false, Eng.cond_false]
  unfold M.c.j5
  simp only [gp, g0, g3, kz, wra (show a + k < 1000000 by omega), lh]
  by_cases hm : a + k < n
  ·have hm' : ((a + k : Nat) : Int) < n := by omega
   simp only [hm', decide_true, Eng.cond_true]
   obtain ⟨s, rfl⟩ : ∃ s, Ls = [s] := by
    match Ls with
    | [] => simp at hlen2; omega
    | [s] => exact ⟨s, rfl⟩
    | s :: t :: r => simp only [List.length_cons, Nat.add_mul] at hlen2; omega
   obtain ⟨s1, s2⟩ := hL s (by simp)
   simp only [List.length_singleton, Nat.one_mul] at hlen2
   have eL : Ps.flatten ++ ([s].flatten ++ z) = Ps.flatten ++ s ++ z ++ [] := by simp
   rw [eL] at T1 hp
   refine bby (g := g) (n := n) (cap := cap) _ T1 (Nat.le_refl _) hn (by omega) (by omega) (by omega) (by omega) (by omega) s2 hza fun w2 C c1 c2 T2 => ?_
   simp only [vh, wm']
   have hCl := c2.length_eq
   rw [List.length_append] at hCl
   refine h w2 _ _ _ Ps C hP (by omega) c1 ?_ (by simpa using T2)
   refine List.Perm.trans ?_ hp
   have e2 : Ps.flatten ++ s ++ z ++ [] = Ps.flatten ++ (s ++ z) := by simp
   rw [e2]
   exact List.Perm.append_left _ c2
  ·have hm' : ¬ ((a + k : Nat) : Int) < n := by omega
   simp only [hm', decide_false, Eng.cond_false, vh, wm']
   match Ls, hL, lL, hlen2, hp, T1 with
   | [], hL, lL, hlen2, hp, T1 => exact h w1 _ _ _ Ps z hP (by omega) hza (by simpa using hp) (by simpa using T1)
   | [s], hL, lL, hlen2, hp, T1 =>
    obtain ⟨s1, s2⟩ := hL s (by simp)
    simp only [List.length_singleton, Nat.one_mul] at hlen2
    have hz0 : z = [] := List.length_eq_zero_iff.1 (by omega)
    subst hz0
    exact h w1 _ _ _ Ps s hP (by omega) s2 (by simpa using hp) (by simpa using T1)
   | s :: t :: r, hL, lL, hlen2, hp, T1 => simp only [List.length_cons, Nat.add_mul] at hlen2; omega
theorem bbm (S : St w0 w (ky (vS g n cap) l :: R)) (hn : n < 100000) {K : KV}
  (h : ∀ w' l', ot l' → l'.Perm l → St w0 w' (ky (vS g n cap) l' :: R) → K (.tuple #[]) w') : gi P F.bk [vS g n cap, .int .i64 (n : Nat), CF] w K := by
 rw [M.c.fcall]
 apply M.c.calls
 unfold M.c
 simp only [gp]
 refine ⟨bov w0 g n cap l R, fun v _ => n + 20 - ms v 1, ⟨0, [], l, by simp, rfl, fun s hs => by simp at hs, by simp, by simpa using S⟩, ?_⟩
 rintro v w1 ⟨a, Ps, Q, rfl, ha, hP, hp, T1⟩
 have hlen2 := uf T1
 have lP := aew hP
 simp only [List.length_append, lP] at hlen2
 have g0 : gv [Value.int .i64 (a : Nat), .int .i64 ((a + 20 : Nat) : Int)] 0 = .int .i64 (a : Nat) := rfl
 have g1 : gv [Value.int .i64 (a : Nat), .int .i64 ((a + 20 : Nat) : Int)] 1 = .int .i64 ((a + 20 : Nat) : Int) := rfl
 unfold M.c.j1
 simp only [gp, g0, g1, acd]
 by_cases hb : a + 20 ≤ n
 ·have hb' : ((a + 20 : Nat) : Int) ≤ n := by omega
  simp only [hb', decide_true, Eng.cond_true]
  have eQ : Ps.flatten ++ Q = Ps.flatten ++ Q.take 20 ++ Q.drop 20 := by rw [List.append_assoc, List.take_append_drop]
  rw [eQ] at T1 hp
  have lQ : (Q.take 20).length = 20 := by rw [List.length_take]; omega
  refine bdq (a := a) (b := a + 20) T1 hn (by omega) (by omega) fun w2 C c1 c2 T2 => ?_
  have hw : IntKind.i64.wrap (((a + 20 : Nat) : Int) + 20) = ((a + 20 + 20 : Nat) : Int) := by rw [ia]; omega
  simp only [kz, hw]
  have hCl := c2.length_eq
  refine ⟨⟨a + 20, Ps ++ [C], Q.drop 20, rfl, by rw [List.length_append, List.length_singleton, Nat.add_mul, ha], atb hP (by omega) c1, ?_, by simpa using T2⟩, by simp [ms, gv]; omega⟩
  refine List.Perm.trans ?_ hp
  have e1 : (Ps ++ [C]).flatten ++ Q.drop 20 = Ps.flatten ++ C ++ Q.drop 20 := by simp
  rw [e1]
  exact List.Perm.append_right _ (List.Perm.append_left _ c2)
 ·have hb' : ¬ ((a + 20 : Nat) : Int) ≤ n := by omega
  simp only [hb', decide_false, Eng.cond_false]
  unfold M.c.j0
  have T1' : St w0 w1 (ky (vS g n cap) (Ps.flatten ++ Q ++ []) :: R) := by simpa using T1
  simp only [g0, g1]
  refine bdq (a := a) (b := n) T1' hn (by omega) (by omega) fun w2 C c1 c2 T2 => ?_
  have hCl := c2.length_eq
  refine ⟨bpj w0 g n cap l R, fun v _ => n - ms v 3, ⟨_, _, _, 20, Ps, C, rfl, Nat.le_refl _, hP, by omega, c1, (List.Perm.append_left _ c2).trans hp, by simpa using T2⟩, ?_⟩
  rintro v w3 ⟨u0, u1, u2, k, Ls, z, rfl, hk20, hL, hz, hza, hp3, T3⟩
  have g3 : gv [u0, u1, u2, Value.int .i64 (k : Nat)] 3 = .int .i64 (k : Nat) := rfl
  simp only [gp, g3, lh]
  by_cases hkn : k < n
  ·have hkn' : (k : Int) < n := by omega
   simp only [hkn', decide_true, Eng.cond_true]
   refine azy T3 hn hkn hk20 rfl hL hz hza fun w4 y0 y1 y2 Ls' z' b1 b2 b3 b4 T4 => ?_
   exact ⟨⟨y0, y1, y2, 2 * k, Ls', z', rfl, by omega, b1, b2, b3, b4.trans hp3, T4⟩, by simp [ms, gv]; omega⟩
  ·have hkn' : ¬ (k : Int) < n := by omega
   simp only [hkn', decide_false, Eng.cond_false]
   have hlen3 := uf T3
   have lL := aew hL
   simp only [List.length_append, lL] at hlen3
   refine h w3 _ ?_ hp3 T3
   match Ls, hL, hlen3 with
   | [], _, _ => simpa using hza
   | [s], hL, hlen3 =>
    obtain ⟨s1, s2⟩ := hL s (by simp)
    simp only [List.length_singleton, Nat.one_mul] at hlen3
    have hz0 : z = [] := List.length_eq_zero_iff.1 (by omega)
    subst hz0
    simpa using s2
   | s :: t :: r, hL, hlen3 => simp only [List.length_cons, Nat.add_mul] at hlen3; omega
theorem aos {v : Value} (S : St w0 w R) (hs : SlS w v l) (hlen : l.length ≤ 1000000) {K : KV} (h : ∀ w' v', St w0 w' (ky v' l :: R) → K v' w') : gi P F.h [v] w K := by
 rw [M.j.fcall]
 apply M.j.calls
 unfold M.j
 simp only [gp]
 have hs' := hs
 obtain ⟨a, cap, rfl, _⟩ := hs'
 cases a with
 | none =>
  simp
  have hz : l = [] := by
   obtain ⟨a', cap', hv, _, _, h3⟩ := hs
   cases l with
   | nil => rfl
   | cons x l =>
    obtain ⟨b, o, ha, _⟩ := h3 0 x rfl
    injection hv with h1 _ _
    rw [← h1] at ha; cases ha
  subst hz
  exact h w _ (Eng.rg S)
 | some a =>
  simp
  have S1 : St w0 (w.alloc (.cells #[] T.e)) (ky (.slice (some ⟨w.heap.size, 0, none⟩) 0 0) [] :: R) := St.uo (l := ([] : List Spn)) S mj rfl (by simp)
  refine Go.Eng.td et.d mj oh S1 (hs.fr ((Fr.refl (fun _ => False) w).alloc _) fun _ _ _ h => h) (by simp; omega) (by decide) fun w2 v2 S2 => ?_
  exact h w2 v2 S2
theorem bff {v : Value} (S : St w0 w R) (hs : SlS w v l) (hne : l ≠ []) (hlen : l.length < 100000) {K : KV} (h : ∀ w' v' l', ot l' → l'.Perm l → St w0 w' (ky v' l' :: R) → K v' w') : gi P F.fe [v] w K := by
 rw [M.eu.fcall]
 apply M.eu.calls
 unfold M.eu
 refine aos S hs (by omega) fun w1 v1 S1 => ?_
 obtain ⟨b, cap, cur, rfl, _⟩ := S1.anb (k := 0) (List.length_pos_iff.2 hne)
 rw [M.al.fcall]
 apply M.al.calls
 unfold M.al
 have hl : ∀ w' K, biT P .len #[T.d] T.b [false] [vS b l.length cap] w' K = K (.int .i64 l.length) w' := fun w' K => (S1.row mj : SlS w1 _ l).iy (by kernel_rfl) [false]
 rw [hl]
 refine bbm S1 hlen fun w2 l' c1 c2 S2 => ?_
 exact h w2 _ l' c1 c2 S2
end
abbrev TC := Int × Nat × Nat
abbrev trB (tb mr : Nat) (b : Bal) : Asn := ii tb #[.map (some mr), .int .u64 b.n, .int .u64 b.jf] T.ao
def tcA (es : List EnS) (c : TC) : Asn := pt [trB c.2.1 c.2.2 (bOf es c.1), jq c.2.2 .u64 (pp (qh es c.1))]
def mmE (cs : List TC) : MP := cs.map fun c => (c.1, jx c.2.1)
abbrev lc (es : List EnS) (cs : List TC) : Asn := pt (cs.map (tcA es))
def ou (q hb : Nat) (es : List EnS) (L : Lg) (dn : Bool) : Asn where
 ok w B := ∃ p r cs, cs.map (·.1) = nt es ∧ Rs [ko q hb p r dn, jq r .u64 (mmE cs), lc es cs, mi p hb L] w B
 jy := by
  rintro w w' B S ⟨p, r, cs, h1, h2⟩ hf hn
  exact ⟨p, r, cs, h1, h2.jy hf hn⟩
theorem arw : ∀ {m : MP} {k : Int} {v : Value}, (jz m).Nodup → (k, v) ∈ m → ly m k = some v
 | [], _, _, _, h => by simp at h
 | (y, u) :: m, k, v, hn, h => by
  show (if y = k then some u else ly m k) = some v
  simp only [jz, List.map_cons, List.nodup_cons] at hn
  rcases List.mem_cons.1 h with h | h
  ·cases h; simp
  ·by_cases hy : y = k
   ·exact absurd (List.mem_map.2 ⟨_, h, hy.symm⟩) hn.1
   ·rw [if_neg hy]; exact arw hn.2 h
theorem anx (cs : List TC) : jz (mmE cs) = cs.map (·.1) := by unfold jz mmE; rw [List.map_map]; rfl
theorem aiu {cs : List TC} {t : Int} (h : t ∉ cs.map (·.1)) : ly (mmE cs) t = none := (agh _ _).2 (by rw [anx]; exact h)
theorem aio {cs : List TC} (hn : (cs.map (·.1)).Nodup) {j : Nat} (hj : j < cs.length) : ly (mmE cs) cs[j].1 = some (jx cs[j].2.1) :=
 arw (by rw [anx]; exact hn) (List.mem_map.2 ⟨cs[j], List.getElem_mem hj, rfl⟩)
section
variable {w0 w : World} {R : List Asn} {q hb p r : Nat} {es : List EnS} {L : Lg} {dn : Bool} {cs : List TC} {x : Spn} {b : Bal}
theorem alv (S : St w0 w (ou q hb es L dn :: R)) : ∃ p r cs, cs.map (·.1) = nt es ∧ St w0 w (ko q hb p r dn :: jq r .u64 (mmE cs) :: lc es cs :: mi p hb L :: R) := by
 obtain ⟨B, ⟨p, r, cs, h1, h2⟩, _, cl⟩ := S.open
 exact ⟨p, r, cs, h1, cl w [ko q hb p r dn, jq r .u64 (mmE cs), lc es cs, mi p hb L] (Fr.refl _ _) (h2.mono fun b hb => .inl hb)⟩
theorem aqj (h : cs.map (·.1) = nt es) (S : St w0 w (ko q hb p r dn :: jq r .u64 (mmE cs) :: lc es cs :: mi p hb L :: R)) : St w0 w (ou q hb es L dn :: R) := by
 obtain ⟨U, h4, _, g⟩ := St.abq (L := [ko q hb p r dn, jq r .u64 (mmE cs), lc es cs, mi p hb L]) (R := R) S
 exact g w [ou q hb es L dn] (Fr.refl _ _) ⟨U, ⟨p, r, cs, h, h4⟩, fun b hb => .inl hb, trivial⟩
theorem asf (b : Bal) {c : TC} (h : x.iw ≠ c.1) : tcA (es ++ [(b, x)]) c = tcA es c := by
 unfold tcA
 rw [ajy, if_neg h, bcz b x h]
theorem akp {j : Nat} (hj : j < cs.length) (S : St w0 w (lc es cs :: R)) : St w0 w (trB cs[j].2.1 cs[j].2.2 (bOf es cs[j].1) :: jq cs[j].2.2 .u64 (pp (qh es cs[j].1)) :: pt ((cs.map (tcA es)).eraseIdx j) :: R) := by
 have S1 := St.amj (j := j) (by simpa using hj) S
 rw [List.getElem_map] at S1
 exact St.all.1 S1
theorem bkz {j : Nat} (hj : j < cs.length) (hn : (cs.map (·.1)).Nodup) (hx : cs[j].1 = x.iw) (S : St w0 w (trB cs[j].2.1 cs[j].2.2 (bOf (es ++ [(b, x)]) x.iw) :: jq cs[j].2.2 .u64 (pp (qh es x.iw ++ [x])) :: pt ((cs.map (tcA es)).eraseIdx j) :: R)) : St w0 w (lc (es ++ [(b, x)]) cs :: R) := by
 have S1 : St w0 w (tcA (es ++ [(b, x)]) cs[j] :: pt ((cs.map (tcA es)).eraseIdx j) :: R) := by
  refine St.all.2 ?_
  rw [hx, ajy, if_pos rfl]
  exact S
 have S2 := St.anc (j := j) (by simpa using hj) S1
 have e : (cs.map (tcA es)).set j (tcA (es ++ [(b, x)]) cs[j]) = cs.map (tcA (es ++ [(b, x)])) := by
  refine List.ext_getElem (by simp) fun i h1 h2 => ?_
  simp only [List.getElem_set, List.getElem_map]
  split
  ·rename_i h; subst h; rfl
  ·rename_i h
   have hi : i < cs.length := by simpa using h2
   have hne : x.iw ≠ cs[i].1 := fun e => by
    have hp := List.pairwise_iff_getElem.1 (List.nodup_iff_pairwise_ne.1 hn)
    simp only [List.length_map, List.getElem_map] at hp
    rcases Nat.lt_or_gt_of_ne h with h' | h'
    ·exact hp j i hj hi h' (hx.trans e)
    ·exact hp i j hi hj h' (hx.trans e).symm
   exact (asf b hne).symm
 rw [e] at S2
 exact S2
theorem afx (hc : cs.map (·.1) = nt es) {t : Int} (ht : t ∈ nt es) : ∃ (j : Nat) (hj : j < cs.length), cs[j].1 = t := by
 rw [← hc] at ht
 obtain ⟨j, hj, h⟩ := List.mem_iff_getElem.1 ht
 exact ⟨j, by simpa using hj, by simpa using h⟩
end
def wh : Spn := ⟨0, 0, 0, 0, 0, ⟨#[]⟩, ⟨#[]⟩, false⟩
theorem atq (l : List Spn) (k : Int) : ∃ s, (ly (pp l) k).getD (.agg #[.int .u64 0, .int .u64 0, .int .u64 0, .int .u64 0, .int .u64 0, .string ⟨#[]⟩, .string ⟨#[]⟩, .bool false]) = km s := by
 unfold pp
 rw [avc (fun s : Spn => s.id) km]
 cases l.find? fun s => decide (s.id = k) with
 | none => exact ⟨wh, rfl⟩
 | some s => exact ⟨s, rfl⟩
section
variable {w0 w : World} {R : List Asn} {q hb p r : Nat} {es : List EnS} {L : Lg} {dn : Bool} {cs : List TC}
theorem bka (S : St w0 w (ko q hb p r dn :: jq r .u64 (mmE cs) :: lc es cs :: R)) (hc : cs.map (·.1) = nt es) (x : Spn) {K : KV} (h : ∀ w', Fz w w' → K (.bool (rt es x)) w') : gi P F.aq [jx q, km x] w K := by
 have hq := S.blk
 have hr := (sj S.swap).1
 rw [M.br.fcall]
 apply M.br.calls
 unfold M.br jx
 refine St.tz (St.jp w) fun b w1 S1 => ?_
 have S1' : St w w1 (spB b x :: []) := S1
 have S2 := S1'.jo ((Fr.refl _ w1).dr 1)
 have f2 := S2.fr
 have c2 : gr (dr w1 1) q 2 = some (.map (some r)) := by rw [gt (f2.heap hq fun h => h)]; rfl
 have x0 : gr (dr w1 1) b 0 = some (.int .u64 x.iw) := by rw [S2.cell]; rfl
 have l2 := fun K => aaj mt.k (hr.ug (f2.jy r hr.lt fun h => h)) x.iw K
 by_cases ht : x.iw ∈ nt es
 ·obtain ⟨j, hj, hjt⟩ := afx hc ht
  have hn : (cs.map (·.1)).Nodup := by rw [hc]; exact zf es
  have hg := aio hn hj
  rw [hjt] at hg
  have Sc := akp hj S.up2
  have hb := Sc.blk
  have hm := (sj Sc.swap).1
  rw [hjt] at hm
  generalize cs[j].2.1 = tb at *
  generalize cs[j].2.2 = mr at *
  simp [c2, x0, l2, hg, jx]
  unfold M.br.j0
  have S3 := S2.jo ((Fr.refl _ (dr w1 1)).dr 1)
  simp only [qi]
  generalize dr (dr w1 1) 1 = w3 at *
  have f3 := S3.fr
  have d0 : gr w3 tb 0 = some (.map (some mr)) := by rw [gt (f3.heap hb fun h => h)]; rfl
  have x1 : gr w3 b 1 = some (.int .u64 x.id) := by rw [S3.cell]; rfl
  have l3 := fun K => aiz mt.s (hm.ug (f3.jy mr hm.lt fun h => h)) x.id K
  have S4 : St w (w3.alloc (.cells (ir wh).toArray T.e)) (spB w3.heap.size wh :: spB b x :: []) := S3.mkB (ir wh).toArray T.e
  have e4 : w3.alloc (.cells (ir wh).toArray T.e) = w3.alloc (.cells #[.int .u64 0, .int .u64 0, .int .u64 0, .int .u64 0, .int .u64 0, .string ⟨#[]⟩, .string ⟨#[]⟩, .bool false] T.e) := rfl
  rw [e4] at S4
  have f4 := S4.fr
  have d0' : gr (w3.alloc (.cells #[.int .u64 0, .int .u64 0, .int .u64 0, .int .u64 0, .int .u64 0, .string ⟨#[]⟩, .string ⟨#[]⟩, .bool false] T.e)) tb 0 = some (.map (some mr)) := by rw [gt (f4.heap hb fun h => h)]; rfl
  have x1' : gr (w3.alloc (.cells #[.int .u64 0, .int .u64 0, .int .u64 0, .int .u64 0, .int .u64 0, .string ⟨#[]⟩, .string ⟨#[]⟩, .bool false] T.e)) b 1 = some (.int .u64 x.id) := by rw [S4.swap.cell]; rfl
  have l4 := fun K => aiz mt.s (hm.ug (f4.jy mr hm.lt fun h => h)) x.id K
  have hhas := asy es x
  obtain ⟨s, hs⟩ := atq (qh es x.iw) x.id
  rw [hs, hhas] at l3 l4
  simp [d0, x1, l3, d0', x1', l4]
  rw [xu]
  refine St.put (vs := ir s) (cs' := (ir s).toArray) S4 (oh s) (by simp [ir]) rfl fun w5 S5 => ?_
  exact h w5 S5.fr
 ·have hg := aiu (cs := cs) (t := x.iw) (by rw [hc]; exact ht)
  have hh : rt es x = false := by
   rw [anq, afz ht]; rfl
  rw [hh] at h
  simp [c2, x0, l2, hg]
  exact h _ S2.fr
end
section
variable {w0 w : World} {R : List Asn} {q hb p r tb mr xb bb : Nat} {es : List EnS} {L : Lg} {dn : Bool} {cs : List TC} {x : Spn} {b bt : Bal} {l : List Spn}
theorem acv (S : St w0 w (trB tb mr b :: R)) : gr w tb 0 = some (.map (some mr)) ∧ ∀ K, ldN P 2 tb 1 w K = K (ku b) w :=
 ⟨by rw [S.cell]; rfl, fun K => S.ldA [.int .u64 b.n, .int .u64 b.jf] rfl rfl K⟩
theorem sg (S : St w0 w (spB xb x :: R)) : gr w xb 0 = some (.int .u64 x.iw) ∧ gr w xb 1 = some (.int .u64 x.id) ∧ ∀ K, ldN P 8 xb 0 w K = K (km x) w :=
 ⟨by rw [S.cell]; rfl, by rw [S.cell]; rfl, fun K => S.ldA (n := 8) (i := 0) (ir x) rfl rfl K⟩
theorem bdb (h : ly (pp l) x.id = none) : sw (pp l) x.id (km x) = pp (l ++ [x]) := by
 rw [ary h]
 unfold pp
 simp
theorem axv (S : St w0 w (trB tb mr bt :: jq mr .u64 (pp l) :: spB xb x :: baB bb b :: R)) {K : KV}
  (h1 : (ly (pp l) x.id).isSome = true → ∀ w', St w0 w' (trB tb mr bt :: jq mr .u64 (pp l) :: R) → K (.tuple #[]) w')
  (h2 : (ly (pp l) x.id).isSome = false → ∀ w', St w0 w' (trB tb mr (qm ip [bt, b]) :: jq mr .u64 (pp (l ++ [x])) :: R) → K (.tuple #[]) w') :
  M.bq.j0 [jx tb] (.pointer (some ⟨xb, 0, none⟩)) (.pointer (some ⟨bb, 0, none⟩)) w K := by
 unfold M.bq.j0 jx
 simp only [qi]
 have S1 := S.jo ((Fr.refl _ w).dr 1)
 generalize dr w 1 = w1 at *
 obtain ⟨c0, _⟩ := acv S1
 obtain ⟨_, x1, _⟩ := sg S1.up2
 have l1 := fun K => aiz mt.s (sj S1.swap).1 x.id K
 have S2 : St w0 (w1.alloc (.cells #[.int .u64 0, .int .u64 0, .int .u64 0, .int .u64 0, .int .u64 0, .string ⟨#[]⟩, .string ⟨#[]⟩, .bool false] T.e)) (spB w1.heap.size wh :: _) := S1.mkB (ir wh).toArray T.e
 obtain ⟨c0', _⟩ := acv S2.swap
 obtain ⟨_, x1', _⟩ := sg S2.up3
 have l1' := fun K => aiz mt.s (sj S2.up2).1 x.id K
 obtain ⟨s, hs⟩ := atq l x.id
 rw [hs] at l1 l1'
 have g0 : gv [Value.pointer (some ⟨tb, 0, none⟩)] 0 = .pointer (some ⟨tb, 0, none⟩) := rfl
 cases hh : (ly (pp l) x.id).isSome with
 | true =>
  rw [hh] at l1 l1'
  simp [c0, x1, l1, c0', x1', l1']
  rw [xu]
  refine St.put (vs := ir s) (cs' := (ir s).toArray) S2 (oh s) (by simp [ir]) rfl fun w5 S5 => ?_
  have S6 := (S5.drop.up2.drop).up2.drop
  exact h1 hh w5 S6
 | false =>
  rw [hh] at l1 l1'
  simp [c0, x1, l1, c0', x1', l1']
  rw [xu]
  refine St.put (vs := ir s) (cs' := (ir s).toArray) S2 (oh s) (by simp [ir]) rfl fun w5 S5 => ?_
  have S6 := S5.drop.jo ((Fr.refl _ w5).dr 1)
  generalize dr w5 1 = w6 at *
  obtain ⟨d0, _⟩ := acv S6
  obtain ⟨_, y1, yl⟩ := sg S6.up2
  simp [d0, y1, yl]
  refine aqg mt.s (sj S6.swap).1 x.id _ _ fun ob hob => ?_
  have S7 := ase S6.swap hob
  rw [bdb (by simpa using hh)] at S7
  generalize World.setObj w6 mr ob = w7 at *
  have S8 := S7.swap.jo ((Fr.refl _ w7).dr 1)
  generalize dr w7 1 = w8 at *
  obtain ⟨_, e1⟩ := acv S8
  obtain ⟨_, _, bl⟩ := qt S8.up3
  have S9 : St w0 (w8.alloc (.cells #[.int .u64 bt.n, .int .u64 bt.jf, .int .u64 b.n, .int .u64 b.jf] T.c)) (ni T.c 2 aku (.slice (some ⟨w8.heap.size, 0, none⟩) 2 2) [bt, b] :: _) := St.uo (l := [bt, b]) S8 aoo rfl (by simp [maxLen])
  simp [e1, bl]
  unfold ku
  simp
  refine bmt S9 (fun w' L' S' => (S'.perm List.perm_middle).row aoo) (by simp) fun w9 S10 => ?_
  have S11 : St w0 w9 (trB tb mr bt :: jq mr .u64 (pp (l ++ [x])) :: spB xb x :: baB bb b :: R) := S10.drop
  generalize qm ip [bt, b] = bm at *
  unfold ku
  simp
  refine St.put (i := 1) (vs := [.int .u64 bm.n, .int .u64 bm.jf]) (cs' := #[.map (some mr), .int .u64 bm.n, .int .u64 bm.jf]) S11 (by simp [kh]) (by simp) rfl fun w12 S12 => ?_
  exact h2 hh w12 (S12.up2.drop.up2.drop)
theorem awq (S : St w0 w (ko q hb p r dn :: jq r .u64 (mmE cs) :: lc es cs :: R)) (hc : cs.map (·.1) = nt es) (hr : ∀ e ∈ es, e.1.rng) (b : Bal) (x : Spn) {K : KV}
  (h : ∀ w' cs', cs'.map (·.1) = nt (mh b es x) → St w0 w' (ko q hb p r dn :: jq r .u64 (mmE cs') :: lc (mh b es x) cs' :: R) → K (.tuple #[]) w') : gi P F.cv [jx q, ku b, km x] w K := by
 rw [M.bq.fcall]
 apply M.bq.calls
 unfold M.bq
 refine St.tz S fun bb w1 S1 => ?_
 have S1' : St w0 w1 (baB bb b :: ko q hb p r dn :: jq r .u64 (mmE cs) :: lc es cs :: R) := S1
 refine St.tz S1' fun xb w2 S2 => ?_
 have S2' : St w0 w2 (spB xb x :: baB bb b :: ko q hb p r dn :: jq r .u64 (mmE cs) :: lc es cs :: R) := S2
 simp only [qi]
 have S3 := S2'.jo ((Fr.refl _ w2).dr 1)
 generalize dr w2 1 = w3 at *
 obtain ⟨x0, _, _⟩ := sg S3
 obtain ⟨_, _, c2, _⟩ := tc S3.up2
 have l1 := fun K => aaj mt.k (sj S3.up3).1 x.iw K
 by_cases ht : x.iw ∈ nt es
 ·obtain ⟨j, hj, hjt⟩ := afx hc ht
  have hn : (cs.map (·.1)).Nodup := by rw [hc]; exact zf es
  have hg := aio hn hj
  rw [hjt] at hg
  unfold jx at hg
  unfold jx
  simp [c2, x0, l1, hg]
  have S4 : St w0 w3 (lc es cs :: spB xb x :: baB bb b :: ko q hb p r dn :: jq r .u64 (mmE cs) :: R) := S3.up4
  have S5 := akp hj S4
  rw [hjt] at S5
  have S6 : St w0 w3 (trB cs[j].2.1 cs[j].2.2 (bOf es x.iw) :: jq cs[j].2.2 .u64 (pp (qh es x.iw)) :: spB xb x :: baB bb b :: pt ((cs.map (tcA es)).eraseIdx j) :: ko q hb p r dn :: jq r .u64 (mmE cs) :: R) := S5.perm (List.Perm.cons _ (List.Perm.cons _ (List.perm_middle (l₁ := [spB xb x, baB bb b])).symm))
  have hh := asy es x
  refine axv S6 (fun hs w4 S7 => ?_) (fun hs w4 S7 => ?_)
  ·rw [hh] at hs
   have e : mh b es x = es := by unfold mh; rw [if_pos hs]
   rw [e] at h
   refine h w4 cs hc ?_
   have S8 : St w0 w4 (tcA es cs[j] :: pt ((cs.map (tcA es)).eraseIdx j) :: ko q hb p r dn :: jq r .u64 (mmE cs) :: R) := by
    refine St.all.2 ?_
    rw [hjt]
    exact S7
   have S9 := St.anc (j := j) (by simpa using hj) S8
   have e2 : (cs.map (tcA es)).set j (tcA es cs[j]) = cs.map (tcA es) := by
    rw [← List.getElem_map (tcA es) (h := by simpa using hj), List.set_getElem_self]
   rw [e2] at S9
   exact St.dn2 S9
  ·rw [hh] at hs
   have e : mh b es x = es ++ [(b, x)] := by unfold mh; rw [if_neg (by simp [hs])]
   rw [e] at h
   rw [← aqs hr b x] at S7
   have S8 := bkz hj hn hjt S7
   refine h w4 cs ?_ (St.dn2 S8)
   rw [avb, hc]
   unfold zp
   rw [if_pos ht]
 ·have hg := aiu (cs := cs) (t := x.iw) (by rw [hc]; exact ht)
  unfold jx
  simp [c2, x0, l1, hg]
  rw [alb]
  have S4 := aws S3
  generalize w3.heap.size = mr at *
  generalize w3.alloc _ = w4 at *
  simp
  have S5 : St w0 (w4.alloc (.cells #[.map (some mr), .int .u64 0, .int .u64 0] T.ao)) (trB w4.heap.size mr ip :: _) := S4.mkB #[.map (some mr), .int .u64 0, .int .u64 0] T.ao
  generalize w4.heap.size = tb at *
  generalize w4.alloc _ = w5 at *
  have S6 := S5.jo ((Fr.refl _ w5).dr 1)
  generalize dr w5 1 = w6 at *
  obtain ⟨y0, _, _⟩ := sg S6.up2
  obtain ⟨_, _, d2, _⟩ := tc S6.up4
  simp [y0, d2]
  have S7 : St w0 w6 (jq r .u64 (mmE cs) :: trB tb mr ip :: jq mr .u64 [] :: spB xb x :: baB bb b :: ko q hb p r dn :: lc es cs :: R) := up5 S6
  refine aqg mt.k (sj S7).1 x.iw _ _ fun ob hob => ?_
  have S8 := ase S7 hob
  generalize World.setObj w6 r ob = w8 at *
  have em : sw (mmE cs) x.iw (.pointer (some ⟨tb, 0, none⟩)) = mmE (cs ++ [(x.iw, tb, mr)]) := by
   rw [ary hg]
   unfold mmE
   simp [jx]
  rw [em] at S8
  have S9 : St w0 w8 (trB tb mr ip :: jq mr .u64 (pp []) :: spB xb x :: baB bb b :: jq r .u64 (mmE (cs ++ [(x.iw, tb, mr)])) :: ko q hb p r dn :: lc es cs :: R) := St.dn4 S8
  refine axv S9 (fun hs => by simp [pp, ly] at hs) (fun _ w9 S10 => ?_)
  have hs : rt es x = false := by rw [anq, afz ht]; rfl
  have e : mh b es x = es ++ [(b, x)] := by unfold mh; rw [if_neg (by simp [hs])]
  rw [e] at h
  have hb0 : bOf es x.iw = ip := by unfold bOf; rw [asc ht]; rfl
  have hb1 := aqs hr b x
  rw [hb0] at hb1
  rw [← hb1] at S10
  refine h w9 (cs ++ [(x.iw, tb, mr)]) ?_ ?_
  ·rw [avb, List.map_append, hc]
   unfold zp
   rw [if_neg ht]
   rfl
  ·have S11 : St w0 w9 (tcA (es ++ [(b, x)]) (x.iw, tb, mr) :: jq r .u64 (mmE (cs ++ [(x.iw, tb, mr)])) :: ko q hb p r dn :: lc es cs :: R) := by
    refine St.all.2 ?_
    show St w0 w9 (trB tb mr (bOf (es ++ [(b, x)]) x.iw) :: jq mr .u64 (pp (qh (es ++ [(b, x)]) x.iw)) :: _)
    rw [ajy, if_pos rfl, afz ht]
    exact S10
   have S12 : St w0 w9 (lc es cs :: tcA (es ++ [(b, x)]) (x.iw, tb, mr) :: ko q hb p r dn :: jq r .u64 (mmE (cs ++ [(x.iw, tb, mr)])) :: R) := (S11.up3).perm (List.Perm.cons _ (List.Perm.cons _ (List.Perm.swap _ _ _)))
   have ec : cs.map (tcA (es ++ [(b, x)])) = cs.map (tcA es) := by
    refine List.map_congr_left fun c hcm => asf b fun he => ht ?_
    rw [← hc, he]
    exact List.mem_map_of_mem hcm
   have S13 := St.all.1 S12
   have S14 : St w0 w9 (lc (es ++ [(b, x)]) (cs ++ [(x.iw, tb, mr)]) :: ko q hb p r dn :: jq r .u64 (mmE (cs ++ [(x.iw, tb, mr)])) :: R) := by
    refine St.all.2 ?_
    rw [List.map_append, ec, List.append_assoc]
    exact S13
   exact St.dn2 S14
end
end Go.Proofs.YtfnhoaemapheoaaGreat
set_option maxRecDepth 100000
namespace Go.Proofs.YtfnhoaemapheoaaGreat.KeyT
open Go.Eng Go.Sort Go.Proofs.YtfnhoaemapheoaaGreat.Suint64
def KI (w W : World) (U : Nat → Prop) (r : Nat) (m : MP) (J : List Int → Asn) : KL := fun x w1 => ∃ (done : List Int) (U1 : Nat → Prop), x.length = 1 ∧ xq w1 W.heap.size r .u64 m done ∧ (J done.reverse).ok w1 U1 ∧ (∀ b, U1 b → w.heap.size ≤ b ∧ b < w1.heap.size ∧ b ≠ W.heap.size) ∧ Fr (fun b => w.heap.size ≤ b) W w1
theorem aab {w : World} {it r : Nat} {k : IntKind} {m : MP} {done : List Int} (h : xq w it r k m done) : done.Nodup ∧ ∀ x ∈ done, x ∈ jz m := by
 obtain ⟨es, clk, since, c0, jk, _, _, _, _, _, _, _, _, _, h1, h2⟩ := h
 exact ⟨h1, h2⟩
theorem akd {w : World} {r Bm : Nat} {m : MP} {e : TypeId} (hm : pg w r .u64 m) (hn : (jz m).Nodup) (hB : w.heap[Bm]? = some (.cells #[.map (some r)] e (0, 0))) (hl : m.length < 60000) :
  afv P F.a [.pointer (some ⟨Bm, 0, none⟩)] acx (fun xs => xs.Perm (jz m)) 60000 w := by
 intro l J W U K hf hJ hU hround hend
 apply M.i.calls
 unfold M.i
 have hBm : W.heap[Bm]? = some (.cells #[.map (some r)] e (0, 0)) := hf.heap hB fun h => h
 have c0 := gt hBm 0
 simp only [List.size_toArray, List.getElem?_toArray, List.getElem?_cons_zero] at c0
 have hm' : pg W r .u64 m := hm.ug (hf.jy r hm.lt fun h => h)
 have hrw := hm.lt
 simp [c0]
 refine aqp mt.k hm' fun w1 hi f1 => ?_
 have hWs := hf.size
 have hWlt := (hi.lt).1
 refine ⟨KI w W U r m J, fun _ w1 => tm w1 W.heap.size m.length, ⟨[], U, rfl, hi, (J []).jy hJ f1 fun _ _ h => h, fun b hb => ?_, f1.mono fun _ _ h => h.elim⟩, ?_⟩
 ·have := hU b hb
  have := f1.size
  exact ⟨by omega, by omega, by omega⟩
 rintro x w2 ⟨done, U1, hx1, hi2, hJ2, hU2, f2⟩
 unfold M.i.j0
 refine ara hi2 hn T.bm (fun hall => ?_) fun y v w3 hy hyd hc3 f3 hlt => ?_
 ·have e0 : ∀ w K, exT P (.tuple #[.bool false]) 0 w K = K (.bool false) w := fun _ _ => rfl
  simp [e0]
  obtain ⟨h1, h2⟩ := aab hi2
  refine hend _ w2 done.reverse U1 ?_ hJ2 f2
  refine (List.reverse_perm done).trans ?_
  refine (List.perm_ext_iff_of_nodup h1 hn).2 fun z => ⟨h2 z, fun hz => ?_⟩
  obtain ⟨p, hp, rfl⟩ := List.mem_map.1 hz
  exact hall p hp
 ·simp
  rw [arx hc3]
  simp
  have hnit : ∀ b, U1 b → ¬ b = W.heap.size := fun b hb => (hU2 b hb).2.2
  have hJ3 := (J done.reverse).jy hJ2 f3 hnit
  have hlen : done.length < m.length := by
   obtain ⟨h1, h2⟩ := aab hi2
   have := ub (l := y :: done) (l' := jz m) (List.nodup_cons.2 ⟨hyd, h1⟩) fun z hz => by
    rcases List.mem_cons.1 hz with rfl | hz
    ·exact List.mem_map_of_mem hy
    ·exact h2 z hz
   simp only [jz, List.length_map, List.length_cons] at this
   omega
  have hs3 := f3.size
  refine hround done.reverse y w3 U1 _ hJ3 (fun b hb => ⟨(hU2 b hb).1, by have := (hU2 b hb).2.1; omega⟩) (by simp; omega) fun w4 U4 hJ4 hU4 f4 => ?_
  simp
  have hit : ¬ U1 W.heap.size := fun h => hnit _ h rfl
  have hr1 : ¬ U1 r := fun h => by have := (hU2 r h).1; omega
  have hi3 : xq w3 W.heap.size r .u64 m (y :: done) := hc3.1
  have hi4 := hi3.jy (f4.jy _ hi3.lt.1 hit) (f4.jy _ hi3.lt.2 hr1)
  refine ⟨⟨y :: done, U4, rfl, hi4, by simpa using hJ4, fun b hb => ?_, ?_⟩, ?_⟩
  ·rcases hU4 b hb with h | h
   ·have := hU2 b h
    have := f4.size
    exact ⟨by omega, by omega, by omega⟩
   ·have := hi3.lt.1
    have := f2.size
    exact ⟨by omega, by omega, by omega⟩
  ·refine (f2.mu f3 fun b hb he => by omega).mu f4 fun b hb he => (hU2 b he).1
  ·have : tm w4 W.heap.size m.length = tm w3 W.heap.size m.length := by
    unfold tm
    rw [f4.jy _ hi3.lt.1 hit]
   rw [this]; exact hlt
theorem ang {w : World} {r : Nat} {m : MP} (hm : pg w r .u64 m) (hn : (jz m).Nodup) (hl : m.length < 60000) {K : KV}
  (h : ∀ w' v, OwN w' w.heap.size v (mw (jz m)) → Fz w w' → K v w') :
  gi P F.z [.map (some r)] w fun t w => gi P F.bo [t] w K := by
 rw [M.s.fcall]
 apply M.s.calls
 unfold M.s
 rw [xj, ahp]
 show gi P F.bo _ _ K
 rw [M.co.fcall]
 have f1 : Fz w (w.alloc (.cells #[.map (some r)] T.k)) := (Fr.refl _ w).alloc _
 have hB : (w.alloc (.cells #[.map (some r)] T.k)).heap[w.heap.size]? = some (.cells #[.map (some r)] T.k (0, 0)) := by rw [iq, if_pos rfl]
 have hsz : w.heap.size ≤ (w.alloc (.cells #[.map (some r)] T.k)).heap.size := by simp
 refine aie (ks := jz m) FN.a.at (by kernel_rfl) (by kernel_rfl) (by simpa [jz] using hl) (akd (hm.ug (f1.jy r hm.lt fun h => h)) hn hB hl) fun w2 v o2 f2 => ?_
 exact h w2 v (o2.mono hsz) (f1.trans f2)
end Go.Proofs.YtfnhoaemapheoaaGreat.KeyT
set_option maxRecDepth 100000
namespace Go.Proofs.YtfnhoaemapheoaaGreat
open Go.Eng Go.Proofs.YtfnhoaemapheoaaGreat.Sint
theorem bin : auc P T.d T.e km ir 8 80 where
 et := et.d
 by5 := by decide
 ld := fun b i w K => kr
 st := fun b i a n c w K => kr
 bs := fun x w K => kr
 len := mj
 one := oh
 ne := by decide
theorem blb : bit P T.e km ir 8 wh where
 al := fun w K => kr
 sv := fun b x w K => xu b 0 x w K
 lv := fun b x w K h => by
  have e : ldT P T.e (.pointer (some ⟨b, 0, none⟩)) w K = ldN P 8 b 0 w K := by simp
  rw [e]
  exact qy (ir x) 8 rfl h K
theorem avv {g : FuncId} {gn : Func} (hg : P.funcs[g]? = some gn) (hgn : (gn.name == "runtime.NumGoroutine") = false) (hgb : gn.body.isNone = false) {cap : List Value} {w : World} {Out : List Spn → Prop} (hs : afv P g cap km Out 60000 w) {K : KV}
  (h : ∀ w' v xs, Out xs → Ow w' w.heap.size T.e 8 ir v xs → Fz w w' → K v w') : kg P F.bf [.func (.func g) #[] cap.toArray] w K := by
 apply M.bx.calls
 unfold M.bx
 have hf : ∀ (args : List Value) (w : World) (K : KV), gi P F.g args w K = kg P F.g args w K := fun args w K => ado FN.g.at (by kernel_rfl) (by kernel_rfl) args w K
 rw [hf]
 exact acr (tQ := T.bj) (bde bin blb) bin.ld FN.g.at (by kernel_rfl) (by kernel_rfl) (by kernel_rfl) hg hgn hgb hs h
def VsI (w W : World) (r : Nat) (l : List Spn) (J : List Spn → Asn) : KL := fun x w1 => ∃ (ps : List Spn) (U1 : Nat → Prop), x.length = 0 ∧ xq w1 W.heap.size r .u64 (pp l) (ps.map Spn.id).reverse ∧ (∀ s ∈ ps, s ∈ l) ∧ (J ps).ok w1 U1 ∧ (∀ b, U1 b → w.heap.size ≤ b ∧ b < w1.heap.size ∧ b ≠ W.heap.size) ∧ Fr (fun b => w.heap.size ≤ b) W w1
theorem bee (l : List Spn) : jz (pp l) = l.map Spn.id := by unfold jz pp; rw [List.map_map]; rfl
theorem bfn {w : World} {r Bm : Nat} {l : List Spn} {e : TypeId} (hm : pg w r .u64 (pp l)) (hn : (l.map Spn.id).Nodup) (hB : w.heap[Bm]? = some (.cells #[.map (some r)] e (0, 0))) (hl : l.length < 60000) :
  afv P F.b [.pointer (some ⟨Bm, 0, none⟩)] km (fun xs => xs.Perm l) 60000 w := by
 intro lp J W U K hf hJ hU hround hend
 apply M.o.calls
 unfold M.o
 have hnk : (jz (pp l)).Nodup := by rw [bee]; exact hn
 have hBm : W.heap[Bm]? = some (.cells #[.map (some r)] e (0, 0)) := hf.heap hB fun h => h
 have c0 := gt hBm 0
 simp only [List.size_toArray, List.getElem?_toArray, List.getElem?_cons_zero] at c0
 have hm' : pg W r .u64 (pp l) := hm.ug (hf.jy r hm.lt fun h => h)
 have hrw := hm.lt
 simp [c0]
 refine aqp mt.s hm' fun w1 hi f1 => ?_
 have hWs := hf.size
 have hWlt := (hi.lt).1
 refine ⟨VsI w W r l J, fun _ w1 => tm w1 W.heap.size (pp l).length, ⟨[], U, rfl, hi, by simp, (J []).jy hJ f1 fun _ _ h => h, fun b hb => ?_, f1.mono fun _ _ h => h.elim⟩, ?_⟩
 ·have := hU b hb
  have := f1.size
  exact ⟨by omega, by omega, by omega⟩
 rintro x w2 ⟨ps, U1, hx1, hi2, hps, hJ2, hU2, f2⟩
 obtain ⟨hd1, hd2⟩ := KeyT.aab hi2
 replace hd1 := (List.reverse_perm (ps.map Spn.id)).nodup_iff.1 hd1
 refine ara hi2 hnk T.bm (fun hall => ?_) fun y v w3 hy hyd hc3 f3 hlt => ?_
 ·have e0 : ∀ w K, exT P (.tuple #[.bool false]) 0 w K = K (.bool false) w := fun _ _ => rfl
  simp [e0]
  refine hend _ w2 ps U1 ?_ hJ2 f2
  have n1 : ps.Nodup := by
   rw [List.nodup_iff_pairwise_ne, List.pairwise_map] at hd1
   exact List.nodup_iff_pairwise_ne.2 (hd1.imp fun h e => h (by rw [e]))
  have n2 : l.Nodup := by
   have := hn
   rw [List.nodup_iff_pairwise_ne, List.pairwise_map] at this
   exact List.nodup_iff_pairwise_ne.2 (this.imp fun h e => h (by rw [e]))
  refine (List.perm_ext_iff_of_nodup n1 n2).2 fun z => ⟨hps z, fun hz => ?_⟩
  have hz' := hall (z.id, km z) (List.mem_map.2 ⟨z, hz, rfl⟩)
  rw [List.mem_reverse] at hz'
  obtain ⟨z', hz1, hz2⟩ := List.mem_map.1 hz'
  have : z' = z := yh hn (hps z' hz1) hz hz2
  rw [← this]; exact hz1
 ·obtain ⟨s, hs, he⟩ := List.mem_map.1 hy
  cases he
  simp
  unfold M.o.j1
  rw [arx hc3]
  simp
  have hnit : ∀ b, U1 b → ¬ b = W.heap.size := fun b hb => (hU2 b hb).2.2
  have hJ3 := (J ps).jy hJ2 f3 hnit
  have hlen : ps.length < l.length := by
   have := ub (l := s.id :: ps.map Spn.id) (l' := l.map Spn.id) (List.nodup_cons.2 ⟨by simpa using hyd, hd1⟩) fun z hz => by
    rcases List.mem_cons.1 hz with rfl | hz
    ·exact List.mem_map_of_mem hs
    ·obtain ⟨z', hz1, rfl⟩ := List.mem_map.1 hz
     exact List.mem_map_of_mem (hps z' hz1)
   simp only [List.length_map, List.length_cons] at this
   omega
  have hs3 := f3.size
  -- the span's own block
  have Sx : St w3 (w3.alloc (.cells #[.int .u64 0, .int .u64 0, .int .u64 0, .int .u64 0, .int .u64 0, .string ⟨#[]⟩, .string ⟨#[]⟩, .bool false] T.e)) (spB w3.heap.size wh :: []) := (St.jp w3).mkB (ir wh).toArray T.e
  rw [xu]
  refine St.put (vs := ir s) (cs' := (ir s).toArray) Sx (oh s) (by simp [ir]) rfl fun w4 S4 => ?_
  obtain ⟨_, _, sl⟩ := sg S4
  have f4 := S4.fr
  simp [sl]
  have hJ4 := (J ps).jy hJ3 f4 fun _ _ h => h
  have hs4 := f4.size
  refine hround ps s w4 U1 _ hJ4 (fun b hb => ⟨(hU2 b hb).1, by have := (hU2 b hb).2.1; omega⟩) (by omega) fun w5 U5 hJ5 hU5 f5 => ?_
  simp
  have hit : ¬ U1 W.heap.size := fun h => hnit _ h rfl
  have hr1 : ¬ U1 r := fun h => by have := (hU2 r h).1; omega
  have hi3 : xq w3 W.heap.size r .u64 (pp l) (s.id :: (ps.map Spn.id).reverse) := hc3.1
  have hi4 := hi3.jy (f4.jy _ hi3.lt.1 fun h => h) (f4.jy _ hi3.lt.2 fun h => h)
  have hi5 := hi4.jy (f5.jy _ hi4.lt.1 hit) (f5.jy _ hi4.lt.2 hr1)
  refine ⟨⟨ps ++ [s], U5, rfl, by simpa using hi5, fun z hz => ?_, hJ5, fun b hb => ?_, ?_⟩, ?_⟩
  ·rcases List.mem_append.1 hz with hz | hz
   ·exact hps z hz
   ·rw [List.mem_singleton.1 hz]; exact hs
  ·have := hi4.lt.1
   have := hi3.lt.1
   have := f5.size
   have := f2.size
   rcases hU5 b hb with h | h
   ·have := hU2 b h
    exact ⟨by omega, by omega, by omega⟩
   ·exact ⟨by omega, by omega, by omega⟩
  ·refine ((f2.mu f3 fun b hb he => by omega).mu f4 fun b hb he => he.elim).mu f5 fun b hb he => (hU2 b he).1
  ·have : tm w5 W.heap.size (pp l).length = tm w3 W.heap.size (pp l).length := by
    unfold tm
    rw [f5.jy _ hi4.lt.1 hit, f4.jy _ hi3.lt.1 fun h => h]
   rw [this]; exact hlt
theorem bkc {w : World} {r : Nat} {l : List Spn} (hm : pg w r .u64 (pp l)) (hn : (l.map Spn.id).Nodup) (hl : l.length < 60000) {K : KV}
  (h : ∀ w' v xs, xs.Perm l → Ow w' w.heap.size T.e 8 ir v xs → Fz w w' → K v w') :
  gi P F.ah [.map (some r)] w fun t w => gi P F.bf [t] w K := by
 rw [M.y.fcall]
 apply M.y.calls
 unfold M.y
 rw [xj, ahp]
 show gi P F.bf _ _ K
 rw [M.bx.fcall]
 have f1 : Fz w (w.alloc (.cells #[.map (some r)] T.s)) := (Fr.refl _ w).alloc _
 have hB : (w.alloc (.cells #[.map (some r)] T.s)).heap[w.heap.size]? = some (.cells #[.map (some r)] T.s (0, 0)) := by rw [iq, if_pos rfl]
 have hsz : w.heap.size ≤ (w.alloc (.cells #[.map (some r)] T.s)).heap.size := by simp
 refine avv FN.b.at (by kernel_rfl) (by kernel_rfl) (bfn (hm.ug (f1.jy r hm.lt fun h => h)) hn hB hl) fun w2 v xs hx o2 f2 => ?_
 exact h w2 v xs hx (o2.mono hsz) (f1.trans f2)
set_option maxRecDepth 100000
theorem bdv {es : List EnS} (h : yb es) (t : Int) : ((qh es t).map Spn.id).Nodup := by
 unfold qh
 rw [List.nodup_iff_pairwise_ne, List.map_map, List.pairwise_map]
 refine (List.Pairwise.filter _ h).imp_of_mem fun {a b} ha hb hab he => hab ⟨?_, he⟩
 have h1 := (List.mem_filter.1 ha).2
 have h2 := (List.mem_filter.1 hb).2
 simp only [isE, decide_eq_true_eq] at h1 h2
 rw [h1, h2]
theorem anj (es : List EnS) (t : Int) : (qh es t).length ≤ es.length := by
 unfold qh
 rw [List.length_map]
 exact List.length_filter_le _ _
theorem bmb {es : List EnS} {t : Int} (h : t ∈ nt es) : qh es t ≠ [] := by
 obtain ⟨e, he, ht⟩ := aei.1 h
 intro hn
 have : e.2 ∈ qh es t := axa.2 ⟨e.1, he, ht⟩
 rw [hn] at this
 simp at this
theorem axc (es : List EnS) : (nt es).length ≤ es.length := by
 have h : ∀ (es : List EnS) (l : List Int), (es.foldl (fun l e => zp l e.2.iw) l).length ≤ l.length + es.length := by
  intro es
  induction es with
  | nil => simp
  | cons a r ih =>
   intro l
   rw [List.foldl_cons]
   have h1 := ih (zp l a.2.iw)
   have h2 : (zp l a.2.iw).length ≤ l.length + 1 := by unfold zp; split <;> simp
   simp only [List.length_cons]; omega
 simpa [nt] using h es []
section
variable {w0 w : World} {R : List Asn} {q hb : Nat} {es : List EnS} {L : Lg} {dn : Bool}
theorem ade (S : St w0 w (ou q hb es L dn :: R)) (hu : yb es) (hl : es.length < 60000) (t : Int) {K : KV}
  (h : ∀ w' v' l', ot l' → l'.Perm (qh es t) → St w0 w' (rdA 8 ir v' l' :: ou q hb es L dn :: R) → K v' w') : gi P F.bm [jx q, .int .u64 t] w K := by
 obtain ⟨p, r, cs, hc, S1⟩ := alv S
 rw [M.bo.fcall]
 apply M.bo.calls
 unfold M.bo jx
 obtain ⟨_, _, c2, _⟩ := tc S1
 have l1 := fun K => aaj mt.k (sj S1.swap).1 t K
 by_cases ht : t ∈ nt es
 ·obtain ⟨j, hj, hjt⟩ := afx hc ht
  have hn : (cs.map (·.1)).Nodup := by rw [hc]; exact zf es
  have hg := aio hn hj
  rw [hjt] at hg
  have Sc := akp hj S1.up2
  have hb := Sc.blk
  have hm := (sj Sc.swap).1
  rw [hjt] at hm
  generalize cs[j].2.1 = tb at *
  generalize cs[j].2.2 = mr at *
  have d0 : gr w tb 0 = some (.map (some mr)) := by rw [gt hb]; rfl
  simp [c2, l1, hg, jx]
  unfold M.bo.j0
  simp [c2, l1, hg, jx, d0]
  refine bkc hm (bdv hu t) (by have := anj es t; omega) fun w2 v xs hx o2 f2 => ?_
  have hxl := hx.length_eq
  have hne : xs ≠ [] := fun e => bmb ht (by rw [e] at hx; exact hx.symm.eq_nil)
  have S2 := S.jo f2
  refine bff S2 (o2.sl mj) hne (by have := anj es t; omega) fun w3 v3 l3 g1 g2 S3 => ?_
  refine h w3 v3 l3 g1 (g2.trans hx) ?_
  obtain ⟨B, ⟨k1, k2⟩, hB, cl⟩ := S3.open
  exact cl w3 [rdA 8 ir v3 l3] (Fr.refl _ _) (Rs.one (B := B) ⟨k1.sl mj, k2⟩ fun x hx => .inl hx)
 ·have hg := aiu (cs := cs) (t := t) (by rw [hc]; exact ht)
  simp [c2, l1, hg]
  refine h w _ [] List.Pairwise.nil (by rw [afz ht]) ?_
  exact S.add (Fr.refl _ w) (B := fun _ => False) ⟨Sl.nil, fun b hb => by simp [Value.ownBlock] at hb⟩ fun b hb => hb.elim
theorem ale (S : St w0 w (ou q hb es L dn :: R)) (t : Int) {K : KV} (h : ∀ w', St w0 w' (ou q hb es L dn :: R) → K (ku (bOf es t)) w') : gi P F.ch [jx q, .int .u64 t] w K := by
 obtain ⟨p, r, cs, hc, S1⟩ := alv S
 rw [M.bk.fcall]
 apply M.bk.calls
 unfold M.bk jx
 simp
 have S2 := akr S1
 generalize w.heap.size = rb at *
 generalize w.alloc _ = w2 at *
 obtain ⟨_, _, c2, _⟩ := tc S2.swap
 have l1 := fun K => aaj mt.k (sj S2.up2).1 t K
 have hres : ∀ w' K, pw P T.c (.pointer (some ⟨rb, 0, none⟩)) w' K = ldN P 2 rb 0 w' K := fun w' K => kr
 have fin : ∀ y, (∀ w', St w0 w' (ou q hb es L dn :: R) → K (ku y) w') → stT P T.c (.pointer (some ⟨rb, 0, none⟩)) (ku y) w2 fun _ w => pw P T.c (.pointer (some ⟨rb, 0, none⟩)) w fun r0 w' => w' = w ∧ K r0 w := fun y hy => by
  refine ais (y := y) S2 fun w5 S5 => ?_
  obtain ⟨_, _, b2⟩ := qt S5
  rw [hres, b2]
  exact ⟨rfl, hy w5 (aqj hc S5.drop)⟩
 by_cases ht : t ∈ nt es
 ·obtain ⟨j, hj, hjt⟩ := afx hc ht
  have hn : (cs.map (·.1)).Nodup := by rw [hc]; exact zf es
  have hg := aio hn hj
  rw [hjt] at hg
  have Sc := akp hj S2.up3
  have hb := Sc.blk
  rw [hjt] at Sc
  obtain ⟨_, d1⟩ := acv Sc
  generalize cs[j].2.1 = tb at *
  have := fin _ h
  simp [c2, l1, hg, jx]
  unfold M.bk.j0
  simp [c2, l1, hg, jx, d1]
  exact this
 ·have hg := aiu (cs := cs) (t := t) (by rw [hc]; exact ht)
  have e : bOf es t = ip := by unfold bOf; rw [asc ht]; rfl
  rw [e] at h
  have := fin _ h
  simp [c2, l1, hg]
  unfold ku ip at this
  simp at this
  exact this
theorem ame (S : St w0 w (ou q hb es L dn :: R)) (hl : es.length < 60000) {K : KV} (h : ∀ w' v', St w0 w' (rdA 1 oe v' (Suint64.mw (nt es)) :: ou q hb es L dn :: R) → K v' w') : gi P F.cg [jx q] w K := by
 obtain ⟨p, r, cs, hc, S1⟩ := alv S
 rw [M.bj.fcall]
 apply M.bj.calls
 unfold M.bj jx
 simp
 unfold M.bj.j0
 obtain ⟨_, _, c2, _⟩ := tc S1
 simp [c2]
 obtain ⟨hmp, hn⟩ := sj S1.swap
 have hk : jz (mmE cs) = nt es := by rw [anx, hc]
 have hlen : (mmE cs).length < 60000 := by
  have h1 := congrArg List.length hk
  have h2 := axc es
  simp only [jz, List.length_map] at h1
  omega
 refine KeyT.ang hmp hn hlen fun w2 v2 o2 f2 => ?_
 rw [hk] at o2
 have o3 : OwU w2 w.heap.size v2 (Suint64.mw (nt es)) := o2
 exact h w2 v2 (S.add f2 (B := fun x => v2.ownBlock = some x) ⟨o3.sl vq, fun b hb => hb⟩ fun b hb => o3.lt hb)
end
def bon (w0 : World) (g n cap : Nat) (pf : Spn → Bool) (l : List Spn) (R : List Asn) : KL := fun v w1 => ∃ (i j : Nat) (l' : List Spn), v = [.int .i64 (i : Nat), .int .i64 (j : Nat)] ∧ i < j ∧ j ≤ n ∧ l'.take i = (l.take j).filter (fun x => !pf x) ∧ l'.drop j = l.drop j ∧ St w0 w1 (ky (vS g n cap) l' :: R)
section
variable {w0 w : World} {R : List Asn} {v fv : Value} {l : List Spn} {pf : Spn → Bool} {g n cap : Nat}
theorem bmu (S : St w0 w (ky v l :: R)) : St w0 w (rdA 8 ir v l :: R) := by
 obtain ⟨B, ⟨k1, k2⟩, hB, cl⟩ := S.open
 exact cl w [rdA 8 ir v l] (Fr.refl _ _) (Rs.one (B := B) ⟨k1.sl mj, k2⟩ fun x hx => .inl hx)
theorem anw.mono (h : anw w0 R fv pf) (X : List Asn) : anw w0 (X ++ R) fv pf := fun w' L x K S' hK => h w' (L ++ X) x K (by rw [List.append_assoc]; exact S') hK
theorem bjb (S : St w0 w (ky v l :: R)) (hf : anw w0 R fv pf) (hl : l.length ≤ 100000) {K : KV}
  (h : ∀ w' v', St w0 w' (rdA 8 ir v' (l.filter fun x => !pf x) :: R) → K v' w') : gi P F.ba [v, fv] w K := by
 rw [M.f.fcall]
 apply M.f.calls
 unfold M.f
 refine bef S (fun w' L S' => (S'.perm List.perm_middle).row mj) (hf.mono [ky v l]) (by omega) (fun hno w1 S1 => ?_) fun i hi hpi hpre w1 S1 => ?_
 ·simp
  have e : (l.filter fun x => !pf x) = l := List.filter_eq_self.2 fun x hx => by rw [hno x hx]; rfl
  have := h w1 v
  rw [e] at this
  exact this (bmu S1)
 ·have hne : ¬ ((i : Int) = -1) := by omega
  simp [hne]
  unfold M.f.j0
  obtain ⟨g, cap, cur, rfl, _, n1, _⟩ := S1.anb (k := i) hi
  clear S
  obtain ⟨n, hn⟩ : ∃ n, l.length = n := ⟨_, rfl⟩
  rw [hn] at S1 ⊢
  simp only [gp, kz, wr1 (show i < 1000000 by omega)]
  have hlenT : ∀ w' K, biT P .len #[T.d] T.b [false] [vS g n cap] w' K = K (.int .i64 n) w' := fun w' K => by simp
  have t0 : l.take i = (l.take (i + 1)).filter fun x => !pf x := by
   rw [List.take_add_one, List.getElem?_eq_getElem hi, List.filter_append]
   have e1 : (l.take i).filter (fun x => !pf x) = l.take i := List.filter_eq_self.2 fun x hx => by
    obtain ⟨k, hk, rfl⟩ := List.mem_iff_getElem.1 hx
    rw [List.length_take] at hk
    rw [List.getElem_take, hpre k (by omega) (by omega)]; rfl
   rw [e1]
   simp [hpi]
  refine ⟨bon w0 g n cap pf l R, fun v _ => n - ms v 1, ⟨i, i + 1, l, rfl, by omega, by omega, t0, rfl, S1⟩, ?_⟩
  clear t0 S1
  rintro v w2 ⟨i, j, l', rfl, hij, hjn, ht, hd, S2⟩
  have hl' := uf S2
  have g0 : gv [Value.int .i64 (i : Nat), .int .i64 (j : Nat)] 0 = .int .i64 (i : Nat) := rfl
  have g1 : gv [Value.int .i64 (i : Nat), .int .i64 (j : Nat)] 1 = .int .i64 (j : Nat) := rfl
  unfold M.f.j2
  simp only [gp, hlenT, g0, g1, lh]
  by_cases hj : j < n
  ·have hj' : (j : Int) < (n : Int) := by omega
   simp only [hj', decide_true, Eng.cond_true]
   unfold M.f.j3
   simp only [gp, g0, g1]
   have hjl : j < l.length := by omega
   have hjl' : j < l'.length := by omega
   have ej : l'[j] = l[j] := by
    have e1 := List.drop_eq_getElem_cons hjl'
    have e2 := List.drop_eq_getElem_cons hjl
    rw [e1, e2] at hd
    exact (List.cons.inj hd).1
   have ed : l'.drop (j + 1) = l.drop (j + 1) := by
    have e1 := List.drop_eq_getElem_cons hjl'
    have e2 := List.drop_eq_getElem_cons hjl
    rw [e1, e2] at hd
    exact (List.cons.inj hd).2
   have ef : (l.take (j + 1)).filter (fun x => !pf x) = (l.take j).filter (fun x => !pf x) ++ (if pf l[j] = true then [] else [l[j]]) := by
    rw [List.take_add_one, List.getElem?_eq_getElem hjl, List.filter_append]
    congr 1
    cases hp : pf l[j] <;> simp [hp]
   have i1 := fun w K => ux (g := g) (cap := cap) hj w K
   have i2 := fun w K => ux (g := g) (cap := cap) (show i < n by omega) w K
   have d1 := vm S2 hjl' ej
   simp [i1, d1, hj]
   have S3 : St w0 (w2.alloc (.cells #[.int .u64 0, .int .u64 0, .int .u64 0, .int .u64 0, .int .u64 0, .string ⟨#[]⟩, .string ⟨#[]⟩, .bool false] T.e)) (spB w2.heap.size wh :: _) := S2.mkB (ir wh).toArray T.e
   generalize w2.heap.size = sb at *
   generalize w2.alloc _ = w3 at *
   rw [xu]
   refine St.put (vs := ir l[j]) (cs' := (ir l[j]).toArray) S3 (oh _) (by simp [ir]) rfl fun w4 S4 => ?_
   obtain ⟨_, _, sl⟩ := sg S4
   simp [sl]
   refine hf w4 [spB sb l[j], ky (vS g n cap) l'] l[j] _ S4 fun w5 f5 => ?_
   have S5 := S4.jo f5
   obtain ⟨_, _, sl5⟩ := sg S5
   cases hp : pf l[j] with
   | true =>
    rw [hp] at ef
    simp only [if_true, List.append_nil] at ef
    simp
    rw [wr1 (by omega)]
    exact ⟨⟨i, j + 1, l', rfl, by omega, by omega, by rw [ef]; exact ht, ed, S5.drop⟩, by simp [ms, gv]; omega⟩
   | false =>
    rw [hp] at ef
    simp only [Bool.false_eq_true, if_false] at ef
    have hi2 : (i : Int) < n := by omega
    simp [sl5, i2, hi2]
    refine zl S5.drop (show i < l'.length by omega) l[j] fun w6 S6 => ?_
    rw [wr1 (show i < 1000000 by omega), wr1 (show j < 1000000 by omega)]
    refine ⟨⟨i + 1, j + 1, l'.set i l[j], rfl, by omega, by omega, ?_, ?_, S6⟩, by simp [ms, gv]; omega⟩
    ·rw [ef, ← ht, List.take_add_one, List.getElem?_set_self (by omega), List.take_set_of_le (Nat.le_refl i)]
     rfl
    ·rw [List.drop_set_of_lt (by omega)]
     exact ed
  ·have hj' : ¬ (j : Int) < (n : Int) := by omega
   have hje : j = n := by omega
   simp only [hj', decide_false, Eng.cond_false]
   have gx : gv [Value.int .i64 (j : Nat), .int .i64 (i : Nat)] 1 = .int .i64 (i : Nat) := rfl
   have hin : i < n := by omega
   have e1 : ∀ w' K, slT P T.d (vS g n cap) (some (.int .i64 (i : Nat))) none none w' K = K (.slice (some ⟨g, i * 8, none⟩) (n - i) (cap - i)) w' := fun w' K => by
    rw [bnb (by kernel_rfl) (by omega) (by omega), show szE P T.d = 8 from by kernel_rfl]
    have : ¬ cap = i := by omega
    simp [this]
   have e2 : ∀ w' K, slT P T.d (vS g n cap) none (some (.int .i64 (i : Nat))) none w' K = K (vS g i cap) w' := fun w' K => by
    rw [biv (by kernel_rfl) (by omega) (by omega)]
    simp
   simp only [gx, e1]
   refine bgo (by' := 80) et.d (by kernel_rfl) mj S2 hin fun w3 S3 => ?_
   rw [e2]
   refine h w3 _ ?_
   rw [ht, hje, List.take_of_length_le (by omega)] at S3
   exact S3
end
abbrev osL (q hb p r : Nat) (es : List EnS) (cs : List TC) (lv : Value) (vs : List SV) (iu : List (List Int)) (L : Lg) (D : Dk) (R : List Asn) : List Asn :=
 ko q hb p r false :: jq r .u64 (mmE cs) :: lc es cs :: Eng.lq T.f 1 qq lv vs :: pt (qa vs iu) :: mi p hb L :: il hb D :: R
def OsI (w0 : World) (q hb p r : Nat) (lv : Value) (vs : List SV) (ms : List WrM) (L : Lg) (D : Dk) (R : List Asn) : KL := fun x w1 => ∃ (i : Nat) (cs : List TC), gv x 9 = .int .i64 (i : Nat) ∧ i ≤ ms.length ∧ cs.map (·.1) = nt (jv (ms.take i)) ∧ St w0 w1 (osL q hb p r (jv (ms.take i)) cs lv vs (ms.map ql) L D R)
def OsJ (w0 : World) (q hb p r : Nat) (es : List EnS) (b : Bal) (l : List Spn) (X : List Asn) : KL := fun x w1 => ∃ (j : Nat) (cs : List TC), x = [.int .i64 (j : Nat)] ∧ j ≤ l.length ∧ cs.map (·.1) = nt ((l.take j).foldl (mh b) es) ∧ St w0 w1 (ko q hb p r false :: jq r .u64 (mmE cs) :: lc ((l.take j).foldl (mh b) es) cs :: X)
section
variable {w0 w : World} {R : List Asn} {q hb p r : Nat} {L : Lg} {D D' : Dk} {G : Nat} {s f : Int} {ik : Int} {Q' : List Prt} {ms : List WrM}
theorem axn {es : List EnS} (h : yc es) : ∀ e ∈ es, e.1.rng := fun e he => (h.rng e he).1
theorem bfd (S : St w0 w (il hb D :: R)) (hmx : ik < 9223372036854775808) (eo : aam D ik = ((D', some Q'), 0)) (g : ri s f ⟨ik, Q'⟩ G D') (es : (Lg.nl ⟨ik, Q'⟩ D').2 = 0) (hr : jm Q' = ms.map ql) (hok : ∀ m ∈ ms, okM m) {K : KV}
  (h : ∀ w' q, St w0 w' (ou q hb (jv ms) ⟨ik, Q'⟩ false :: il hb (Lg.nl ⟨ik, Q'⟩ D').1 :: R) → K (.tuple #[jx q, .int .i64 0]) w') : gi P F.db [.pointer (some ⟨hb, 0, none⟩), .int .i64 ik] w K := by
 rw [M.ar.fcall]
 apply M.ar.calls
 unfold M.ar
 refine bla S hmx (fun w2 hn _ => by rw [eo] at hn; cases hn) fun w2 p qs hs S2 => ?_
 rw [eo] at hs S2
 have hqs : qs = Q' := by simpa using (congrArg (·.1.2) hs).symm
 subst hqs
 simp only at S2
 simp only [jx]
 simp
 unfold M.ar.j0
 rw [alb]
 have S3 := aws S2
 have z3 : (w2.alloc (.map #[] 0)).heap.size = w2.heap.size + 1 := ju _ _
 generalize hrr : w2.heap.size = r at *
 generalize w2.alloc (.map #[] 0) = w3 at *
 have e : kf P T.aj #[(0, .pointer (some ⟨hb, 0, none⟩)), (1, .pointer (some ⟨p, 0, none⟩)), (2, .map (some r))] w3 = fun K => K (.agg (akb hb p r false)) w3 := by funext K; simp [akb]
 rw [e]
 refine St.tz S3 fun q w4 S4 => ?_
 have S4c : St w0 w4 (lc [] [] :: ii q (akb hb p r false) T.aj :: jq r .u64 [] :: mi p hb ⟨ik, qs⟩ :: il hb D' :: R) := St.all.2 S4
 have S5 : St w0 w4 (mi p hb ⟨ik, qs⟩ :: il hb D' :: ko q hb p r false :: jq r .u64 (mmE []) :: lc [] [] :: R) := S4c.perm ((List.perm_append_comm (l₁ := [lc [] [], ko q hb p r false, jq r .u64 (mmE [])]) (l₂ := [mi p hb ⟨ik, qs⟩, il hb D'])).append_right R |>.trans (List.Perm.cons _ (List.Perm.cons _ (List.perm_middle (l₁ := [ko q hb p r false, jq r .u64 (mmE [])])).symm)))
 simp
 refine bei S5 g fun w5 rv S6 => ?_
 have hlen := fun w' K => aff S6 w' K
 have hall := asq S6.swap.drop.swap g
 obtain ⟨vs, hvs, S6u⟩ := aeq S6
 simp only at hlen S6 hall S6u
 rw [hr] at hlen hvs S6u hall
 rw [List.length_map] at hlen hall hvs
 have S7 : St w0 w5 (osL q hb p r (jv (ms.take 0)) [] rv vs (ms.map ql) ⟨ik, qs⟩ D' R) := S6u.perm ((List.perm_append_comm (l₁ := [Eng.lq T.f 1 qq rv vs, pt (qa vs (ms.map ql)), mi p hb ⟨ik, qs⟩, il hb D']) (l₂ := [ko q hb p r false, jq r .u64 (mmE []), lc [] []])).append_right R)
 simp [hlen]
 refine ⟨OsI w0 q hb p r rv vs ms ⟨ik, qs⟩ D' R, fun x _ => ms.length - Eng.ms x 9, ⟨0, [], rfl, Nat.zero_le _, rfl, S7⟩, ?_⟩
 rintro x w6 ⟨i, cs, e9, hi, hc, S8⟩
 have hm9 : Eng.ms x 9 = i := by unfold Eng.ms; rw [e9]; simp
 unfold M.ar.j2
 rw [e9]
 by_cases hil : i < ms.length
 ·have hwi : IntKind.i64.wrap ((i : Int) + 1) = ((i + 1 : Nat) : Int) := by rw [ia]; rfl
  have hili : (i : Int) < (ms.length : Int) := by omega
  simp [hil]
  unfold M.ar.j3
  rw [e9]
  obtain ⟨okb, okn, oks, okt, okl⟩ := hok _ (List.getElem_mem hil)
  have hivs : i < vs.length := by omega
  have Srow : St w0 w6 (Eng.lq T.f 1 qq rv vs :: ko q hb p r false :: jq r .u64 (mmE cs) :: lc (jv (ms.take i)) cs :: pt (qa vs (ms.map ql)) :: mi p hb ⟨ik, qs⟩ :: il hb D' :: R) := St.up3 S8
  obtain ⟨b, o, cap, hv, _, _, hcc⟩ := (Srow.lq uj : Sl w6 1 qq rv vs).at hivs
  have c0 := hcc 0 _ rfl
  simp only [Nat.mul_one, Nat.add_zero] at c0
  have hia : ∀ w' K, iaT P T.l rv (.int .i64 (i : Nat)) w' K = K (.pointer (some ⟨b, o + i, none⟩)) w' := fun w' K => by rw [hv]; simp [hivs]
  simp [hia, c0]
  have hrd : Rdv w0 (osL q hb p r (jv (ms.take i)) cs rv vs (ms.map ql) ⟨ik, qs⟩ D' R) (vs[i]).v (nc ms[i].1 ms[i].2) := fun w' L' S' => by
   have S6 : St w0 w' (pt (qa vs (ms.map ql)) :: ((L' ++ [ko q hb p r false, jq r .u64 (mmE cs), lc (jv (ms.take i)) cs, Eng.lq T.f 1 qq rv vs]) ++ (mi p hb ⟨ik, qs⟩ :: il hb D' :: R))) := S'.perm (by
    have := List.perm_middle (l₁ := L' ++ [ko q hb p r false, jq r .u64 (mmE cs), lc (jv (ms.take i)) cs, Eng.lq T.f 1 qq rv vs]) (a := pt (qa vs (ms.map ql))) (l₂ := mi p hb ⟨ik, qs⟩ :: il hb D' :: R)
    simpa using this)
   have S7 := St.amj (j := i) (L := qa vs (ms.map ql)) (by simp [qa]; omega) S6
   unfold qa at S7
   rw [List.getElem_zipWith] at S7
   have := S7.row jr
   simpa [ql] using this
  refine bgg S8 hrd okb okn oks okt (by omega) fun w7 v5 S9 => ?_
  simp
  have S10 := akr S9
  generalize w7.heap.size = tb at *
  generalize w7.alloc _ = w8 at *
  refine ais (y := ms[i].1) S10 fun w9 S11 => ?_
  unfold M.ar.j5
  have S11r : St w0 w9 (ky v5 ms[i].2 :: baB tb ms[i].1 :: osL q hb p r (jv (ms.take i)) cs rv vs (ms.map ql) ⟨ik, qs⟩ D' R) := S11.swap
  have hlv : ∀ w' K, biT P .len #[T.d] T.b [false] [v5] w' K = K (.int .i64 ms[i].2.length) w' := fun w' K => (S11r.row mj).iy (by kernel_rfl) [false]
  simp [hlv]
  have S12 : St w0 w9 (ko q hb p r false :: jq r .u64 (mmE cs) :: lc (jv (ms.take i)) cs :: ky v5 ms[i].2 :: baB tb ms[i].1 :: Eng.lq T.f 1 qq rv vs :: pt (qa vs (ms.map ql)) :: mi p hb ⟨ik, qs⟩ :: il hb D' :: R) := S11r.perm ((List.perm_append_comm (l₁ := [ky v5 ms[i].2, baB tb ms[i].1]) (l₂ := [ko q hb p r false, jq r .u64 (mmE cs), lc (jv (ms.take i)) cs])).append_right _)
  have het : yc (jv (ms.take i)) := axk fun m hm => hok m (List.mem_of_mem_take hm)
  refine ⟨OsJ w0 q hb p r (jv (ms.take i)) ms[i].1 ms[i].2 (ky v5 ms[i].2 :: baB tb ms[i].1 :: Eng.lq T.f 1 qq rv vs :: pt (qa vs (ms.map ql)) :: mi p hb ⟨ik, qs⟩ :: il hb D' :: R), fun y _ => ms[i].2.length - Eng.ms y 0, ⟨0, cs, rfl, Nat.zero_le _, hc, S12⟩, ?_⟩
  rintro y w10 ⟨j, cs2, rfl, hj, hc2, S13⟩
  by_cases hjl : j < ms[i].2.length
  ·have hwj : IntKind.i64.wrap ((j : Int) + 1) = ((j + 1 : Nat) : Int) := by rw [ia]; rfl
   simp [hjl]
   unfold M.ar.j7
   obtain ⟨b2, o2, cap2, hv2, _, _, hc5⟩ := (S13.up3.row mj : SlS w10 v5 ms[i].2).at hjl
   have hia2 : ∀ w' K, iaT P T.d v5 (.int .i64 (j : Nat)) w' K = K (.pointer (some ⟨b2, o2 + j * 8, none⟩)) w' := fun w' K => by rw [hv2]; simp [hjl]
   have hld : ∀ K, ldN P 8 b2 (o2 + j * 8) w10 K = K (km ms[i].2[j]) w10 := fun K => qy (ir ms[i].2[j]) 8 rfl hc5 K
   simp [hia2, hld]
   have S14 : St w0 (w10.alloc (.cells #[.int .u64 0, .int .u64 0, .int .u64 0, .int .u64 0, .int .u64 0, .string ⟨#[]⟩, .string ⟨#[]⟩, .bool false] T.e)) (spB w10.heap.size wh :: _) := S13.mkB (ir wh).toArray T.e
   generalize w10.heap.size = sb at *
   generalize w10.alloc _ = w11 at *
   rw [xu]
   refine St.put (vs := ir ms[i].2[j]) (cs' := (ir ms[i].2[j]).toArray) S14 (oh _) (by simp [ir]) rfl fun w12 S15 => ?_
   obtain ⟨_, _, sl⟩ := sg S15
   obtain ⟨_, _, bl⟩ := qt (up5 S15)
   simp [sl, bl]
   have het2 : yc ((ms[i].2.take j).foldl (mh ms[i].1) (jv (ms.take i))) := afg okb (fun z hz => oks z (List.mem_of_mem_take hz)) het
   refine awq S15.drop hc2 (axn het2) ms[i].1 ms[i].2[j] fun w13 cs3 hc3 S16 => ?_
   rw [hwj]
   have ef : (ms[i].2.take (j + 1)).foldl (mh ms[i].1) (jv (ms.take i)) = mh ms[i].1 ((ms[i].2.take j).foldl (mh ms[i].1) (jv (ms.take i))) ms[i].2[j] := by
    rw [List.take_add_one, List.getElem?_eq_getElem hjl, List.foldl_append]
    rfl
   refine ⟨⟨j + 1, cs3, rfl, by omega, by rw [ef]; exact hc3, by rw [ef]; exact S16⟩, by simp [Eng.ms, gv]; omega⟩
  ·have hje : j = ms[i].2.length := by omega
   subst hje
   simp
   rw [List.take_length] at hc2 S13
   have ee : jv (ms.take (i + 1)) = ms[i].2.foldl (mh ms[i].1) (jv (ms.take i)) := by
    rw [List.take_add_one, List.getElem?_eq_getElem hil]
    exact apa _ _
   rw [hwi]
   refine ⟨⟨i + 1, cs2, rfl, by omega, by rw [ee]; exact hc2, ?_⟩, ?_⟩
   ·rw [ee]
    have S14 := (S13.up4.drop).up3.drop
    exact S14
   ·rw [hm9]; simp [Eng.ms, gv]; omega
 ·have hie : i = ms.length := by omega
  subst hie
  rw [List.take_length] at hc S8
  simp
  unfold M.ar.j1
  have S9 : St w0 w6 (mi p hb ⟨ik, qs⟩ :: il hb D' :: ko q hb p r false :: jq r .u64 (mmE cs) :: lc (jv ms) cs :: R) := by
   have T1 := (S8.up3.drop).up3.drop
   exact T1.perm ((List.perm_append_comm (l₁ := [ko q hb p r false, jq r .u64 (mmE cs), lc (jv ms) cs]) (l₂ := [mi p hb ⟨ik, qs⟩, il hb D'])).append_right R)
  refine aua (p := p) S9 (by have := g.vir.len; simp only at this ⊢; omega) fun w7 S10 => ?_
  rw [es]
  simp
  have S11 : St w0 w7 ([ko q hb p r false, jq r .u64 (mmE cs), lc (jv ms) cs, mi p hb ⟨ik, qs⟩, il hb (Lg.nl ⟨ik, qs⟩ D').1] ++ R) := S10.perm ((List.perm_append_comm (l₁ := [mi p hb ⟨ik, qs⟩, il hb (Lg.nl ⟨ik, qs⟩ D').1]) (l₂ := [ko q hb p r false, jq r .u64 (mmE cs), lc (jv ms) cs])).append_right R)
  exact h w7 q (aqj hc S11)
end
theorem agl (w : World) (K : KV) : taT P .nilIface T.ap T.h true w K = K (.tuple #[.agg #[.int .u64 0, .int .u64 0, .int .u64 0, .slice none 0 0], .bool false]) w := kr
theorem ard {w : World} {p : Pk} {ls : List Spn} {lm : List Mem} {lu : List Int} {t : Value} (h : ThR w p ls lm lu t) (hk : ¬ p.ie = 9) (w' : World) (K : KV) : taT P t T.ap T.h true w' K = K (.tuple #[.agg #[.int .u64 0, .int .u64 0, .int .u64 0, .slice none 0 0], .bool false]) w' := by
 cases h with
 | nq v q hs => exact alz _ _ _
 | ahc v q hs => exact ajf _ _ _
 | ask q => exact apl _ _ _
 | zj q => exact aks _ _ _
 | ur q => exact aoc _ _ _
 | xg v q hs => exact absurd q hk
 | zy v q hs => exact wo _ _ _
 | none q => exact agl _ _
theorem auo {w : World} {p : Pk} {ls : List Spn} {lm : List Mem} {lu : List Int} {t : Value} (h : ThR w p ls lm lu t) (hk : p.ie = 9) : ∃ v, t = .iface T.h (.agg #[.int .u64 p.tr, .int .u64 p.b.n, .int .u64 p.b.jf, v]) ∧ SlS w v ls := by
 cases h with
 | xg v q hs => exact ⟨v, rfl, hs⟩
 | nq v q hs => omega
 | ahc v q hs => omega
 | ask q => omega
 | zj q => omega
 | ur q => omega
 | zy v q hs => omega
 | none q => omega
section
variable {w0 w : World} {R : List Asn} {q hb p r : Nat} {es : List EnS} {L : Lg} {dn : Bool} {D : Dk} {cs : List TC}
theorem bhb (hc : cs.map (·.1) = nt es) {X : List Asn} : anw w0 (ko q hb p r dn :: jq r .u64 (mmE cs) :: lc es cs :: X) (.func (.func F.aq) #[jx q] #[]) (rt es) := by
 intro w' L' x K S' hK
 have e := asn (P := P) FN.aq.at (by kernel_rfl) (by kernel_rfl) [jx q] [] [km x] w' K
 rw [show (Value.func (.func F.aq) #[jx q] #[]) = .func (.func F.aq) ([jx q] : List Value).toArray ([] : List Value).toArray from rfl, e]
 have f := M.br.fcall [jx q, km x] w' K
 have S1 : St w0 w' (ko q hb p r dn :: jq r .u64 (mmE cs) :: lc es cs :: (L' ++ X)) := S'.perm (by
  have := (List.perm_append_comm (l₁ := L') (l₂ := [ko q hb p r dn, jq r .u64 (mmE cs), lc es cs])).append_right X
  simpa using this)
 have g := bka S1 hc x hK
 rw [f] at g
 exact g
theorem bgf {v : Value} {l : List Int} (S : St w0 w (ni T.g 1 oe v l :: R)) (hl : l.length < 60000) {K : KV} (h : ∀ w', St w0 w' (ni T.g 1 oe v (Suint64.mw l) :: R) → K (.tuple #[]) w') : gi P F.d [v] w K := by
 obtain ⟨B, ⟨h1, h2⟩, hB, cl⟩ := S.open
 rw [M.en.fcall]
 rcases h1.2 with ⟨rfl, h0⟩ | ⟨g1, cap1, cur, rfl, hb1, _⟩
 ·refine Suint64.yo (h w ?_)
  have hx0 : l = [] := List.length_eq_zero_iff.1 h0
  subst hx0
  rw [show Suint64.mw [] = [] from by simp [Suint64.mw]]
  exact S
 ·have h1' : Suint64.OwN w 0 (.slice (some ⟨g1, 0, none⟩) l.length cap1) l := h1
  obtain ⟨_, hbg, hcm, hrw⟩ := Suint64.Ow.rw h1'
  refine Suint64.aaf hrw (by simp) hl fun w2 H2 => ?_
  have hll : (Suint64.mw l).length = l.length := (Suint64.nu l).length_eq
  have o := Suint64.aqc (base := 0) (l := Suint64.mw l) hbg hcm (Suint64.akq H2)
  rw [hll] at o
  refine h w2 (cl w2 [ni T.g 1 oe (.slice (some ⟨g1, 0, none⟩) l.length cap1) (Suint64.mw l)] ((Suint64.aqh H2).mono fun b _ hb => by rw [hb]; exact h2 g1 rfl) (Rs.one (B := B) ⟨o, h2⟩ fun x hx => .inl hx))
def oz (L : Lg) (D : Dk) (b : Bal) (l : List Spn) : (Lg × Dk) × Int := if l = [] then ((L, D), 0) else wrF L D [nc b l]
theorem baq {G : Nat} {s f : Int} {lv : Value} {l : List Spn} {b : Bal} (S : St w0 w (ko q hb p r false :: mi p hb L :: il hb D :: R)) (hs : ∀ w' L', St w0 w' (L' ++ R) → SlS w' lv l) (hr : ∀ s ∈ l, ll s = 0) (hl : l.length ≤ 60) (hg : ri s f L G D) (hn : f + (jm L.gy).length + 1 ≤ 1000000000000) {K : KV}
  (h : ∀ w', St w0 w' (ko q hb p r (decide ((oz L D b l).2 = 10)) :: mi p hb (oz L D b l).1.1 :: il hb (oz L D b l).1.2 :: R) → K (.int .i64 (oz L D b l).2) w') : gi P F.bu [jx q, ku b, lv] w K := by
 unfold oz at h
 by_cases he : l = []
 ·rw [if_pos he] at h
  subst he
  exact ayt S (hs w [_, _, _] S) fun w' S' => h w' (by simpa using S')
 ·rw [if_neg he] at h
  exact bbe S hs he hr hl hg hn fun w' S' => h w' (by simpa using S')
end
abbrev qf (l : List Spn) : List Int := Suint64.mw (l.map Spn.id)
theorem bfi (l : List Int) : (Suint64.mw l).Pairwise fun a b => a ≤ b := by
 have := List.pairwise_mergeSort (le := fun x y : Int => decide (x ≤ y)) (fun a b c h1 h2 => by simp at *; omega) (fun a b => by simp; omega) l
 exact this.imp fun h => by simpa using h
theorem awr : ∀ {l : List Int} {x : Int}, (∀ y ∈ l, x < y) → l.Pairwise (fun a b => a < b) → ro x l = true
 | [], _, _, _ => rfl
 | y :: r, x, h, hp => by
  rw [ro]
  rw [List.pairwise_cons] at hp
  simp only [Bool.and_eq_true, decide_eq_true_eq]
  exact ⟨h y (by simp), awr hp.1 hp.2⟩
theorem bbx {s : Spn} (h : ll s = 0) (hr : wg s) : 0 < s.id ∧ 0 < s.iw := by
 unfold ll at h
 split at h
 ·cases h
 ·rename_i hn
  have h1 := hr.id.1
  have h2 := hr.tr.1
  have := not_or.1 hn
  have h3 := not_or.1 this.2
  exact ⟨by omega, by omega⟩
theorem bcn {tr : Int} {l : List Spn} (ht : 0 < tr) (hne : l ≠ []) (hl : l.length ≤ 16) (hn : (l.map Spn.id).Nodup) (hk : ∀ s ∈ l, ll s = 0 ∧ wg s) (v' : Value) : sn (tj tr v') [] [] (qf l) = true := by
 have hp := Suint64.nu (l.map Spn.id)
 have hlen := hp.length_eq
 rw [List.length_map] at hlen
 have hpos := List.length_pos_iff.2 hne
 have hlt : (qf l).Pairwise fun a b => a < b := by
  have h1 := bfi (l.map Spn.id)
  have h2 : (qf l).Nodup := hp.nodup_iff.2 hn
  have h3 := List.nodup_iff_pairwise_ne.1 h2
  exact (h1.and h3).imp fun h => by have := h.1; have := h.2; omega
 have hr : ro 0 (qf l) = true := awr (fun y hy => by
  obtain ⟨s, hs, rfl⟩ := List.mem_map.1 (hp.mem_iff.1 hy)
  exact (bbx (hk s hs).1 (hk s hs).2).1) hlt
 have hle : (qf l).length = l.length := hlen
 unfold sn adp rm mo
 simp [tj, lg, pm, pk, pj, sk, me, hr, ht, hle, ij]
 omega
abbrev tg (ab : Nat) (tr : Int) (b : Bal) (v : Value) : Asn := ii ab #[.int .u64 tr, .int .u64 b.n, .int .u64 b.jf, v] T.h
abbrev akB (kb : Nat) (tr : Int) (v : Value) : Asn := ii kb #[.int .u64 tr, v] T.n
def bpp (w0 : World) (kb : Nat) (tr : Int) (ls : List Spn) (X : List Asn) : KL := fun x w1 => ∃ (i : Nat) (v : Value), x = [.int .i64 (i : Nat)] ∧ i ≤ ls.length ∧ St w0 w1 (akB kb tr v :: ni T.g 1 oe v ((ls.take i).map Spn.id) :: X)
section
variable {w0 w : World} {R : List Asn} {q hb p r ab tb kb : Nat} {es : List EnS} {L : Lg} {dn : Bool} {D : Dk} {cs : List TC} {tr : Int} {b : Bal} {v v3 : Value} {ls fl : List Spn}
theorem aar (S : St w0 w (tg ab tr b v :: R)) : gr w ab 0 = some (.int .u64 tr) ∧ (∀ K, ldN P 2 ab 1 w K = K (ku b) w) ∧ gr w ab 3 = some v :=
 ⟨by rw [S.cell]; rfl, fun K => S.ldA [.int .u64 b.n, .int .u64 b.jf] rfl rfl K, by rw [S.cell]; rfl⟩
theorem ajt (S : St w0 w (akB kb tr v :: R)) : gr w kb 0 = some (.int .u64 tr) ∧ gr w kb 1 = some v ∧ ∀ K, ldN P 2 kb 0 w K = K (.agg #[.int .u64 tr, v]) w :=
 ⟨by rw [S.cell]; rfl, by rw [S.cell]; rfl, fun K => S.ldA (n := 2) (i := 0) [.int .u64 tr, v] rfl rfl K⟩
theorem bhf (S : St w0 w (akB kb tr (.slice none 0 0) :: R)) (hs : ∀ w' L, St w0 w' (L ++ R) → SlS w' v ls) (hl : ls.length ≤ 1000) {G : World → Prop} {K : KV}
  (h : ∀ w' v2, St w0 w' (akB kb tr v2 :: ni T.g 1 oe v2 (ls.map Spn.id) :: R) → G w') :
  jd [.int .i64 0] w fun K4 x4 w => ib P .lss T.b (.tmp 71) (.tmp 70) (gv x4 0) (.int .i64 (ls.length : Nat)) w fun t72 w => gk t72 (M.e.j5 v x4 (.pointer (some ⟨kb, 0, none⟩)) K4 w K) (G w) := by
 have S0 : St w0 w (ni T.g 1 oe (.slice none 0 0) ([] : List Int) :: akB kb tr (.slice none 0 0) :: R) := Go.Eng.rg S
 refine ⟨bpp w0 kb tr ls R, fun x _ => ls.length - ms x 0, ⟨0, _, rfl, Nat.zero_le _, S0.swap⟩, ?_⟩
 rintro x w1 ⟨i, va, rfl, hi, S1⟩
 by_cases hil : i < ls.length
 ·have hwi : IntKind.i64.wrap ((i : Int) + 1) = ((i + 1 : Nat) : Int) := by rw [ia]; rfl
  simp [hil]
  unfold M.e.j5
  obtain ⟨b2, o2, cap2, hv2, _, _, hc5⟩ := (hs w1 [_, _] S1).at hil
  have hia2 : ∀ w' K, iaT P T.d v (.int .i64 (i : Nat)) w' K = K (.pointer (some ⟨b2, o2 + i * 8, none⟩)) w' := fun w' K => by rw [hv2]; simp [hil]
  have hld : ∀ K, ldN P 8 b2 (o2 + i * 8) w1 K = K (km ls[i]) w1 := fun K => qy (ir ls[i]) 8 rfl hc5 K
  simp [hia2, hld]
  have S2 : St w0 (w1.alloc (.cells #[.int .u64 0, .int .u64 0, .int .u64 0, .int .u64 0, .int .u64 0, .string ⟨#[]⟩, .string ⟨#[]⟩, .bool false] T.e)) (spB w1.heap.size wh :: _) := S1.mkB (ir wh).toArray T.e
  generalize w1.heap.size = sb at *
  generalize w1.alloc _ = w2 at *
  rw [xu]
  refine St.put (vs := ir ls[i]) (cs' := (ir ls[i]).toArray) S2 (oh _) (by simp [ir]) rfl fun w3 S3 => ?_
  obtain ⟨_, x1, _⟩ := sg S3
  obtain ⟨_, k1, _⟩ := ajt S3.swap
  simp [x1, k1]
  have S4 : St w0 (w3.alloc (.cells #[.int .u64 ls[i].id] T.g)) (ni T.g 1 oe (.slice (some ⟨w3.heap.size, 0, none⟩) 1 1) [ls[i].id] :: _) := St.uo (l := [ls[i].id]) S3 vq rfl (by simp [maxLen])
  have S5 := S4.up3
  refine Go.Eng.td et.i vq ath S5 (S4.row vq) (by simp; omega) (by decide) fun w5 v5 S6 => ?_
  have S7 : St w0 w5 (akB kb tr va :: ni T.g 1 oe v5 ((ls.take i).map Spn.id ++ [ls[i].id]) :: R) := (S6.swap.drop.swap.drop).swap
  have hst : ∀ w' K, stT P T.i (.pointer (some ⟨kb, 1, none⟩)) v5 w' K = st1 P kb 1 v5 w' K := fun w' K => by
   obtain ⟨a, c, e, _⟩ := (S7.swap.row vq : SlU w5 v5 _)
   rw [e]; simp
  have hv5 : kh v5 = true := by
   obtain ⟨a, c, e, _⟩ := (S7.swap.row vq : SlU w5 v5 _)
   rw [e]; rfl
  simp [hst]
  refine S7.uy hv5 (by simp) fun w8 S8 => ?_
  rw [hwi]
  refine ⟨⟨i + 1, v5, rfl, by omega, ?_⟩, by simp [ms, gv]; omega⟩
  rw [List.take_add_one, List.getElem?_eq_getElem hil, List.map_append]
  exact S8
 ·have hie : i = ls.length := by omega
  subst hie
  rw [List.take_length] at S1
  simp
  exact h w1 va S1
end
def bob (w0 : World) (q hb p r : Nat) (es : List EnS) (b : Bal) (l : List Spn) (X : List Asn) : KL := fun x w1 => ∃ (j : Nat) (cs : List TC), x = [.int .i64 (j : Nat)] ∧ j ≤ l.length ∧ cs.map (·.1) = nt ((l.take j).foldl (mh b) es) ∧ St w0 w1 (ko q hb p r false :: jq r .u64 (mmE cs) :: lc ((l.take j).foldl (mh b) es) cs :: X)
section
variable {w0 w : World} {R : List Asn} {q hb p r ab tb kb : Nat} {es : List EnS} {L : Lg} {dn : Bool} {D : Dk} {cs : List TC} {tr : Int} {b : Bal} {v v3 : Value} {ls fl : List Spn}
theorem bbf (S : St w0 w (ko q hb p r false :: jq r .u64 (mmE cs) :: lc es cs :: tg ab tr b v :: rdA 8 ir v3 fl :: R)) (hc : cs.map (·.1) = nt es) (he : yc es) (hb' : b.rng) (hk : ∀ s ∈ fl, ll s = 0 ∧ wg s) (hl : fl.length ≤ 1000) {G : World → Prop} {K : KV}
  (h : ∀ w' cs', cs'.map (·.1) = nt (fl.foldl (mh b) es) → St w0 w' (ko q hb p r false :: jq r .u64 (mmE cs') :: lc (fl.foldl (mh b) es) cs' :: tg ab tr b v :: rdA 8 ir v3 fl :: R) → G w') :
  jd [.int .i64 0] w fun K8 x8 w => ib P .lss T.b (.tmp 88) (.tmp 87) (gv x8 0) (.int .i64 (fl.length : Nat)) w fun t89 w => gk t89 (M.e.j9 v3 x8 (.pointer (some ⟨ab, 0, none⟩)) (.pointer (some ⟨q, 0, none⟩)) K8 w K) (G w) := by
 refine ⟨bob w0 q hb p r es b fl (tg ab tr b v :: rdA 8 ir v3 fl :: R), fun x _ => fl.length - ms x 0, ⟨0, cs, rfl, Nat.zero_le _, hc, S⟩, ?_⟩
 rintro x w1 ⟨j, cs2, rfl, hj, hc2, S1⟩
 by_cases hjl : j < fl.length
 ·have hwj : IntKind.i64.wrap ((j : Int) + 1) = ((j + 1 : Nat) : Int) := by rw [ia]; rfl
  simp [hjl]
  unfold M.e.j9
  have S1r : St w0 w1 (rdA 8 ir v3 fl :: ko q hb p r false :: jq r .u64 (mmE cs2) :: lc ((fl.take j).foldl (mh b) es) cs2 :: tg ab tr b v :: R) := S1.up4
  obtain ⟨b2, o2, cap2, hv2, _, _, hc5⟩ := (S1r.rd : SlS w1 v3 fl).at hjl
  have hia2 : ∀ w' K, iaT P T.d v3 (.int .i64 (j : Nat)) w' K = K (.pointer (some ⟨b2, o2 + j * 8, none⟩)) w' := fun w' K => by rw [hv2]; simp [hjl]
  have hld : ∀ K, ldN P 8 b2 (o2 + j * 8) w1 K = K (km fl[j]) w1 := fun K => qy (ir fl[j]) 8 rfl hc5 K
  simp [hia2, hld]
  have S2 : St w0 (w1.alloc (.cells #[.int .u64 0, .int .u64 0, .int .u64 0, .int .u64 0, .int .u64 0, .string ⟨#[]⟩, .string ⟨#[]⟩, .bool false] T.e)) (spB w1.heap.size wh :: _) := S1.mkB (ir wh).toArray T.e
  generalize w1.heap.size = sb at *
  generalize w1.alloc _ = w2 at *
  rw [xu]
  refine St.put (vs := ir fl[j]) (cs' := (ir fl[j]).toArray) S2 (oh _) (by simp [ir]) rfl fun w3 S3 => ?_
  obtain ⟨_, _, sl⟩ := sg S3
  obtain ⟨_, bl, _⟩ := aar S3.up4
  simp [sl, bl]
  have he2 : yc ((fl.take j).foldl (mh b) es) := afg hb' (fun z hz => hk z (List.mem_of_mem_take hz)) he
  refine awq S3.drop hc2 (axn he2) b fl[j] fun w4 cs3 hc3 S4 => ?_
  rw [hwj]
  have ef : (fl.take (j + 1)).foldl (mh b) es = mh b ((fl.take j).foldl (mh b) es) fl[j] := by
   rw [List.take_add_one, List.getElem?_eq_getElem hjl, List.foldl_append]
   rfl
  exact ⟨⟨j + 1, cs3, rfl, by omega, by rw [ef]; exact hc3, by rw [ef]; exact S4⟩, by simp [ms, gv]; omega⟩
 ·have hje : j = fl.length := by omega
  subst hje
  simp
  rw [List.take_length] at hc2 S1
  exact h w1 cs2 hc2 S1
theorem bkb (S : St w0 w (ko q hb p r false :: jq r .u64 (mmE cs) :: lc es cs :: tg ab tr b v :: rdA 8 ir v3 fl :: rdA 8 ir v ls :: ii tb (pkC pkZ).toArray T.a :: R)) (hc : cs.map (·.1) = nt es) (he : yc es) (hb' : b.rng) (htr : 0 < tr) (htu : tx tr) (hne : ls ≠ []) (hn : (ls.map Spn.id).Nodup) (hk : ∀ s ∈ ls, ll s = 0 ∧ wg s) (hl : ls.length ≤ 16) (hkf : ∀ s ∈ fl, ll s = 0 ∧ wg s) (hlf : fl.length ≤ 16) {K : KV}
  (h : ∀ w' cs' v', cs'.map (·.1) = nt (fl.foldl (mh b) es) → St w0 w' (rdA 1 oe v' (qf ls) :: rdA 8 ir v3 fl :: ko q hb p r false :: jq r .u64 (mmE cs') :: lc (fl.foldl (mh b) es) cs' :: R) → K (.tuple #[pkA (tj tr v'), v3, .int .i64 0]) w') :
  M.e.j2 (.pointer (some ⟨ab, 0, none⟩)) v3 (.pointer (some ⟨q, 0, none⟩)) (.pointer (some ⟨tb, 0, none⟩)) w K := by
 unfold M.e.j2
 obtain ⟨a0, _, a3⟩ := aar S.up3
 simp [a0]
 have S1 : St w0 (w.alloc (.cells #[.int .u64 0, .slice none 0 0] T.n)) (akB w.heap.size 0 (.slice none 0 0) :: _) := S.mkB #[.int .u64 0, .slice none 0 0] T.n
 generalize w.heap.size = kb at *
 generalize w.alloc _ = w1 at *
 refine St.put (vs := [.int .u64 tr, .slice none 0 0]) (cs' := #[.int .u64 tr, .slice none 0 0]) S1 (by simp [kh]) (by simp) rfl fun w2 S2 => ?_
 obtain ⟨_, _, a3'⟩ := aar S2.up4
 have S2r : St w0 w2 (rdA 8 ir v ls :: akB kb tr (.slice none 0 0) :: ko q hb p r false :: jq r .u64 (mmE cs) :: lc es cs :: tg ab tr b v :: rdA 8 ir v3 fl :: ii tb (pkC pkZ).toArray T.a :: R) := up6 S2
 have hlv : ∀ w' K, biT P .len #[T.d] T.b [false] [v] w' K = K (.int .i64 ls.length) w' := fun w' K => (S2r.rd : SlS w2 v ls).iy (by kernel_rfl) [false]
 simp [a3', hlv]
 refine bhf (v := v) (ls := ls) S2 (fun w' L' S' => ?_) (by omega) fun w3 v2 S3 => ?_
 ·have S6 : St w0 w' ((L' ++ [ko q hb p r false, jq r .u64 (mmE cs), lc es cs, tg ab tr b v, rdA 8 ir v3 fl]) ++ (rdA 8 ir v ls :: ii tb (pkC pkZ).toArray T.a :: R)) := by simpa using S'
  exact (S6.perm List.perm_middle).rd
 unfold M.e.j3
 obtain ⟨_, k1, _⟩ := ajt S3
 simp [k1]
 have S3r := S3.swap
 refine bgf S3r (by simp; omega) fun w4 S4 => ?_
 have S4v : St w0 w4 (rdA 8 ir v3 fl :: ni T.g 1 oe v2 (qf ls) :: akB kb tr v2 :: ko q hb p r false :: jq r .u64 (mmE cs) :: lc es cs :: tg ab tr b v :: rdA 8 ir v ls :: ii tb (pkC pkZ).toArray T.a :: R) := up6 S4
 have hlf' : ∀ w' K, biT P .len #[T.d] T.b [false] [v3] w' K = K (.int .i64 fl.length) w' := fun w' K => (S4v.rd : SlS w4 v3 fl).iy (by kernel_rfl) [false]
 simp [hlf']
 have S5 : St w0 w4 (ko q hb p r false :: jq r .u64 (mmE cs) :: lc es cs :: tg ab tr b v :: rdA 8 ir v3 fl :: ni T.g 1 oe v2 (qf ls) :: akB kb tr v2 :: rdA 8 ir v ls :: ii tb (pkC pkZ).toArray T.a :: R) := S4.perm ((List.perm_append_comm (l₁ := [ni T.g 1 oe v2 (qf ls), akB kb tr v2]) (l₂ := [ko q hb p r false, jq r .u64 (mmE cs), lc es cs, tg ab tr b v, rdA 8 ir v3 fl])).append_right _)
 refine bbf S5 hc he hb' hkf (by omega) fun w5 cs' hc' S6 => ?_
 unfold M.e.j7
 obtain ⟨_, _, kl⟩ := ajt (up6 S6)
 simp [kl]
 have S6u : St w0 w5 (ni T.g 1 oe v2 (qf ls) :: ko q hb p r false :: jq r .u64 (mmE cs') :: lc (fl.foldl (mh b) es) cs' :: tg ab tr b v :: rdA 8 ir v3 fl :: akB kb tr v2 :: rdA 8 ir v ls :: ii tb (pkC pkZ).toArray T.a :: R) := up5 S6
 have hll : (qf ls).length = ls.length := by rw [(Suint64.nu _).length_eq, List.length_map]
 refine awa (S6u.row vq) (by omega) htu (bcn htr hne hl hn hk) fun w6 v6 s6 o6 f6 => ?_
 have hv6 : ∃ bb, v6.ownBlock = some bb ∧ bb < w6.heap.size := by
  have hpos := List.length_pos_iff.2 hne
  obtain ⟨x, hx⟩ := List.exists_mem_of_length_pos (l := qf ls) (by omega)
  exact s6.lt hx
 have S7 : St w0 w6 (rdA 1 oe v6 (qf ls) :: _) := S6u.add f6 (a := rdA 1 oe v6 (qf ls)) (B := fun y => v6.ownBlock = some y) ⟨s6, fun y hy => hy⟩ fun y hy => by
  obtain ⟨bb, h1, h2⟩ := hv6
  rw [h1] at hy
  cases hy
  exact ⟨o6 _ h1, h2⟩
 simp
 have S8 := abx S7
 generalize w6.heap.size = pb at *
 generalize w6.alloc _ = w7 at *
 have one6 := aah (tr := tr) s6
 rw [acs]
 refine afi (q := tj tr v6) S8 rfl one6 fun w8 S9 => ?_
 have pl := fun K => wj S9 K
 simp [pl]
 rw [acs]
 have S9t : St w0 w8 (ii tb (pkC pkZ).toArray T.a :: ii pb (pkC (tj tr v6)).toArray T.a :: rdA 1 oe v6 (qf ls) :: ni T.g 1 oe v2 (qf ls) :: ko q hb p r false :: jq r .u64 (mmE cs') :: lc (fl.foldl (mh b) es) cs' :: tg ab tr b v :: rdA 8 ir v3 fl :: akB kb tr v2 :: rdA 8 ir v ls :: R) := S9.perm (List.perm_middle (l₁ := [_, _, _, _, _, _, _, _, _, _]))
 refine ave S9t rfl one6 (K := fun r0 w => K (.tuple #[r0, v3, .int .i64 0]) w) fun w9 S10 => ?_
 refine h w9 cs' v6 hc' ?_
 have T1 : St w0 w9 (rdA 1 oe v6 (qf ls) :: ni T.g 1 oe v2 (qf ls) :: ko q hb p r false :: jq r .u64 (mmE cs') :: lc (fl.foldl (mh b) es) cs' :: tg ab tr b v :: rdA 8 ir v3 fl :: akB kb tr v2 :: rdA 8 ir v ls :: R) := S10.drop.drop
 have T2 := T1.swap.drop
 -- [rd v6, sto, map, cel, std, rd v3, ak, rd v, R]
 have T3 : St w0 w9 (rdA 8 ir v ls :: akB kb tr v2 :: tg ab tr b v :: rdA 1 oe v6 (qf ls) :: ko q hb p r false :: jq r .u64 (mmE cs') :: lc (fl.foldl (mh b) es) cs' :: rdA 8 ir v3 fl :: R) := by
  have U1 : St w0 w9 (tg ab tr b v :: rdA 1 oe v6 (qf ls) :: ko q hb p r false :: jq r .u64 (mmE cs') :: lc (fl.foldl (mh b) es) cs' :: rdA 8 ir v3 fl :: akB kb tr v2 :: rdA 8 ir v ls :: R) := T2.up4
  have U2 : St w0 w9 (akB kb tr v2 :: tg ab tr b v :: rdA 1 oe v6 (qf ls) :: ko q hb p r false :: jq r .u64 (mmE cs') :: lc (fl.foldl (mh b) es) cs' :: rdA 8 ir v3 fl :: rdA 8 ir v ls :: R) := up6 U1
  exact U2.perm (List.perm_middle (l₁ := [_, _, _, _, _, _, _]))
 have T4 := T3.drop.drop.drop
 have T5 : St w0 w9 (rdA 8 ir v3 fl :: rdA 1 oe v6 (qf ls) :: ko q hb p r false :: jq r .u64 (mmE cs') :: lc (fl.foldl (mh b) es) cs' :: R) := T4.up4
 exact T5.swap
end
section
variable {w0 w : World} {R : List Asn} {q hb : Nat} {es : List EnS} {L : Lg} {dn : Bool} {D : Dk} {s f : Int} {p : Pk} {ls : List Spn} {lm : List Mem} {lu : List Int}
theorem azn {tb : Nat} {R1 : List Asn} (S : St w0 w (ii tb (pkC pkZ).toArray T.a :: R1)) {k : Int} {K : KV} (h : ∀ w', St w0 w' R1 → K (.tuple #[pkA pkZ, .slice none 0 0, .int .i64 k]) w') :
  stN P tb 0 [.int .i64 0, .int .u64 0, .int .u64 0, .int .u64 0, .int .u64 0, .int .u64 0, .int .i64 0, .bool false, .slice none 0 0, .slice none 0 0, .slice none 0 0] w fun _ w => pw P T.a (.pointer (some ⟨tb, 0, none⟩)) w fun r0 w' => w' = w ∧ K (.tuple #[r0, .slice none 0 0, .int .i64 k]) w :=
 ave (q := pkZ) S rfl (awo _ _ _ _ _ _) (K := fun r0 w => K (.tuple #[r0, .slice none 0 0, .int .i64 k]) w) fun w' S' => h w' S'.drop
theorem up7 {a b c d e f g i : Asn} (h : St w0 w (a :: b :: c :: d :: e :: f :: g :: i :: R)) : St w0 w (i :: a :: b :: c :: d :: e :: f :: g :: R) := h.perm (List.perm_middle (l₁ := [a, b, c, d, e, f, g]))
theorem up8 {a b c d e f g i j : Asn} (h : St w0 w (a :: b :: c :: d :: e :: f :: g :: i :: j :: R)) : St w0 w (j :: a :: b :: c :: d :: e :: f :: g :: i :: R) := h.perm (List.perm_middle (l₁ := [a, b, c, d, e, f, g, i]))
theorem up9 {a b c d e f g i j k : Asn} (h : St w0 w (a :: b :: c :: d :: e :: f :: g :: i :: j :: k :: R)) : St w0 w (k :: a :: b :: c :: d :: e :: f :: g :: i :: j :: R) := h.perm (List.perm_middle (l₁ := [a, b, c, d, e, f, g, i, j]))
theorem bhh (S : St w0 w (ou q hb es L dn :: il hb D :: R)) (hp : ∀ w' R', St w0 w' (R' ++ R) → pn w' p ls lm lu) (hr : vu p) (hls : ∀ s ∈ ls, wg s) (he : yc es) (hG : dn = false → D.je = false → ∃ G, ri s f L G D) (hf : f + (jm L.gy).length + 1 ≤ 1000000000000) {K : KV}
  (hno : wrE p ls lm lu = false → ∀ w', St w0 w' (ou q hb es L dn :: il hb D :: R) → K (.tuple #[pkA pkZ, .slice none 0 0, .int .i64 6]) w')
  (hdn : wrE p ls lm lu = true → (dn || D.je) = true → ∀ w', St w0 w' (ou q hb es L dn :: il hb D :: R) → K (.tuple #[pkA pkZ, .slice none 0 0, .int .i64 10]) w')
  (hbad : wrE p ls lm lu = true → dn = false → D.je = false → (oz L D p.b (jw es ls)).2 ≠ 0 → ∀ w', St w0 w' (ou q hb es (oz L D p.b (jw es ls)).1.1 (decide ((oz L D p.b (jw es ls)).2 = 10)) :: il hb (oz L D p.b (jw es ls)).1.2 :: R) → K (.tuple #[pkA pkZ, .slice none 0 0, .int .i64 (oz L D p.b (jw es ls)).2]) w')
  (hok : wrE p ls lm lu = true → dn = false → D.je = false → (oz L D p.b (jw es ls)).2 = 0 → ∀ w' v' v3, St w0 w' (rdA 1 oe v' (qf ls) :: rdA 8 ir v3 (jw es ls) :: ou q hb ((jw es ls).foldl (mh p.b) es) (oz L D p.b (jw es ls)).1.1 false :: il hb (oz L D p.b (jw es ls)).1.2 :: R) → K (.tuple #[pkA (tj p.tr v'), v3, .int .i64 0]) w') :
  gi P F.bb [jx q, pkA p] w K := by
 rw [M.e.fcall]
 apply M.e.calls
 unfold M.e jx
 refine St.tz S fun pb w1 S1 => ?_
 have S1' : St w0 w1 (ii pb (pkC p).toArray T.a :: ou q hb es L dn :: il hb D :: R) := S1
 simp
 have S2 := abx S1'
 generalize w1.heap.size = tb at *
 generalize w1.alloc _ = w2 at *
 unfold M.e.j0
 simp [fun K => wj S2.swap K]
 have hp2 : pn w2 p ls lm lu := hp w2 (ii tb (pkC pkZ).toArray T.a :: ii pb (pkC p).toArray T.a :: ou q hb es L dn :: il hb D :: []) S2
 -- what is no write
 have noS : ∀ (t : Value) (w3 : World), wrE p ls lm lu = false → (∀ w' K', taT P t T.ap T.h true w' K' = K' (.tuple #[.agg #[.int .u64 0, .int .u64 0, .int .u64 0, .slice none 0 0], .bool false]) w') → St w0 w3 (ii tb (pkC pkZ).toArray T.a :: ii pb (pkC p).toArray T.a :: ou q hb es L dn :: il hb D :: R) → True := fun _ _ _ _ _ => trivial
 refine bfa hp2 hr (fun hre w3 t ht hown f3 => ?_) (fun hre w3 f3 => ?_)
 ·have S3 := S2.jo f3
  by_cases hk : p.ie = 9
  ·have hae : wrE p ls lm lu = true := by unfold wrE; rw [hre]; simpa using hk
   obtain ⟨_, W⟩ := ajc hae
   obtain ⟨v, rfl, hsv⟩ := auo ht hk
   have hv3 : ∃ bb, v.ownBlock = some bb ∧ bb < w3.heap.size := by
    obtain ⟨x, hx⟩ := List.exists_mem_of_ne_nil _ W.ne
    exact hsv.lt hx
   have S3v : St w0 w3 (rdA 8 ir v ls :: _) := S2.add f3 (a := rdA 8 ir v ls) (B := fun y => v.ownBlock = some y) ⟨hsv, fun y hy => hy⟩ fun y hy => by
    obtain ⟨bb, h1, h2⟩ := hv3
    have h3 := hown _ _ _ _ rfl y hy
    rw [h1] at hy
    cases hy
    exact ⟨h3, h2⟩
   obtain ⟨va, vc, hve, _⟩ := id hsv
   simp
   have S4 : St w0 (w3.alloc (.cells #[.int .u64 0, .int .u64 0, .int .u64 0, .slice none 0 0] T.h)) (ii w3.heap.size #[.int .u64 0, .int .u64 0, .int .u64 0, .slice none 0 0] T.h :: _) := S3v.mkB #[.int .u64 0, .int .u64 0, .int .u64 0, .slice none 0 0] T.h
   generalize w3.heap.size = ab at *
   generalize w3.alloc _ = w4 at *
   refine St.put (cs' := #[.int .u64 p.tr, .int .u64 p.b.n, .int .u64 p.b.jf, v]) (vs := [.int .u64 p.tr, .int .u64 p.b.n, .int .u64 p.b.jf, v]) S4 (by rw [hve]; simp [kh]) (by simp) rfl fun w5 S5 => ?_
   have S5' : St w0 w5 (tg ab p.tr p.b v :: rdA 8 ir v ls :: ii tb (pkC pkZ).toArray T.a :: ii pb (pkC p).toArray T.a :: ou q hb es L dn :: il hb D :: R) := S5
   obtain ⟨lp, r, cs, hc, Su⟩ := alv (St.up4 S5')
   obtain ⟨c0, _, _, c3⟩ := tc Su
   have outDn : (dn || D.je) = true → stN P tb 0 [.int .i64 0, .int .u64 0, .int .u64 0, .int .u64 0, .int .u64 0, .int .u64 0, .int .i64 0, .bool false, .slice none 0 0, .slice none 0 0, .slice none 0 0] w5 fun _ w => pw P T.a (.pointer (some ⟨tb, 0, none⟩)) w fun r0 w' => w' = w ∧ K (.tuple #[r0, .slice none 0 0, .int .i64 10]) w := fun hd =>
    azn S5'.drop.drop fun w' S' => hdn hae hd w' S'.drop
   cases dn with
   | true =>
    have od := outDn rfl
    simp [c3]
    exact od
   | false =>
    simp [c3, c0]
    refine amx (up5 S5') ?_
    cases hd : D.je with
    | true =>
     have od := outDn (by simp [hd])
     simp
     exact od
    | false =>
     simp
     obtain ⟨G, hg⟩ := hG rfl hd
     have hbad' := hbad hae rfl hd
     have hok' := hok hae rfl hd
     clear hno hdn hbad hok outDn noS
     unfold M.e.j1
     obtain ⟨_, _, a3⟩ := aar S5'
     simp [a3]
     refine aos S5' S5'.swap.rd (by have := W.len; omega) fun w6 v2 S6 => ?_
     rw [ahp]
     obtain ⟨lp, r, cs, hc, S6u⟩ := alv (up5 S6)
     have S6r : St w0 w6 (ky v2 ls :: ko q hb lp r false :: jq r .u64 (mmE cs) :: lc es cs :: mi lp hb L :: tg ab p.tr p.b v :: rdA 8 ir v ls :: ii tb (pkC pkZ).toArray T.a :: ii pb (pkC p).toArray T.a :: il hb D :: R) := S6u.up4
     refine bjb S6r (bhb hc) (by have := W.len; omega) fun w7 v3 S7 => ?_
     have S7' : St w0 w7 (rdA 8 ir v3 (jw es ls) :: ko q hb lp r false :: jq r .u64 (mmE cs) :: lc es cs :: mi lp hb L :: tg ab p.tr p.b v :: rdA 8 ir v ls :: ii tb (pkC pkZ).toArray T.a :: ii pb (pkC p).toArray T.a :: il hb D :: R) := S7
     obtain ⟨_, bl, _⟩ := aar (up5 S7')
     simp [bl]
     have S8 : St w0 w7 (ko q hb lp r false :: mi lp hb L :: il hb D :: rdA 8 ir v3 (jw es ls) :: jq r .u64 (mmE cs) :: lc es cs :: tg ab p.tr p.b v :: rdA 8 ir v ls :: ii tb (pkC pkZ).toArray T.a :: ii pb (pkC p).toArray T.a :: R) := St.up3 (up5 (up9 S7'))
     have hfl : ∀ z ∈ jw es ls, z ∈ ls := fun z hz => (List.mem_filter.1 hz).1
     have hfll : (jw es ls).length ≤ 16 := Nat.le_trans (List.length_filter_le _ _) W.len
     refine baq S8 (fun w' L' S' => (S'.perm List.perm_middle).rd) (fun z hz => (W.ok z (hfl z hz)).1) (by omega) hg hf fun w8 S9 => ?_
     generalize hL' : (oz L D p.b (jw es ls)).1.1 = L' at *
     generalize hD' : (oz L D p.b (jw es ls)).1.2 = D' at *
     generalize hE' : (oz L D p.b (jw es ls)).2 = e' at *
     by_cases h0 : e' = 0
     ·subst h0
      simp
      refine bkb (tr := p.tr) (b := p.b) (v := v) (fl := jw es ls) (ls := ls) (es := es) (cs := cs) (hb := hb) (p := lp) (r := r) (R := mi lp hb L' :: il hb D' :: ii pb (pkC p).toArray T.a :: R) (S9.perm ?_) hc he hr.b W.tr hr.tr W.ne W.ids (fun z hz => ⟨(W.ok z hz).1, hls z hz⟩) W.len (fun z hz => ⟨(W.ok z (hfl z hz)).1, hls z (hfl z hz)⟩) hfll fun w9 cs' v' hc' T1 => ?_
      ·refine List.Perm.cons _ ?_
       have p1 := (List.perm_append_comm (l₁ := [mi lp hb L', il hb D', rdA 8 ir v3 (jw es ls)]) (l₂ := [jq r .u64 (mmE cs), lc es cs, tg ab p.tr p.b v])).append_right (rdA 8 ir v ls :: ii tb (pkC pkZ).toArray T.a :: ii pb (pkC p).toArray T.a :: R)
       have p2 := (List.perm_append_comm (l₁ := [mi lp hb L', il hb D']) (l₂ := [rdA 8 ir v3 (jw es ls), rdA 8 ir v ls, ii tb (pkC pkZ).toArray T.a])).append_right (ii pb (pkC p).toArray T.a :: R)
       exact p1.trans (List.Perm.cons _ (List.Perm.cons _ (List.Perm.cons _ p2)))
      ·have T2 : St w0 w9 (rdA 1 oe v' (qf ls) :: rdA 8 ir v3 (jw es ls) :: ko q hb lp r false :: jq r .u64 (mmE cs') :: lc ((jw es ls).foldl (mh p.b) es) cs' :: mi lp hb L' :: il hb D' :: R) := (up7 T1).drop
       have T3 := T2.perm ((List.perm_append_comm (l₁ := [rdA 1 oe v' (qf ls), rdA 8 ir v3 (jw es ls)]) (l₂ := [ko q hb lp r false, jq r .u64 (mmE cs'), lc ((jw es ls).foldl (mh p.b) es) cs', mi lp hb L'])).append_right (il hb D' :: R))
       have T4 := aqj hc' T3
       exact hok' rfl w9 v' v3 (St.dn2 T4)
     ·simp [h0]
      refine azn (up8 S9) fun w9 T1 => ?_
      refine hbad' h0 w9 ?_
      have T2 : St w0 w9 (ko q hb lp r (decide (e' = 10)) :: mi lp hb L' :: il hb D' :: jq r .u64 (mmE cs) :: lc es cs :: tg ab p.tr p.b v :: rdA 8 ir v ls :: ii pb (pkC p).toArray T.a :: R) := T1.up3.drop
      have T3 : St w0 w9 (ko q hb lp r (decide (e' = 10)) :: mi lp hb L' :: il hb D' :: jq r .u64 (mmE cs) :: lc es cs :: R) := (up5 (up5 (up5 T2).drop).drop).drop
      have T4 : St w0 w9 (ko q hb lp r (decide (e' = 10)) :: jq r .u64 (mmE cs) :: lc es cs :: mi lp hb L' :: il hb D' :: R) := T3.tail ((List.perm_append_comm (l₁ := [mi lp hb L', il hb D']) (l₂ := [jq r .u64 (mmE cs), lc es cs])).append_right R)
      exact aqj hc T4
  ·have hae : wrE p ls lm lu = false := by
    unfold wrE
    rw [decide_eq_false hk]; rfl
   simp [ard ht hk]
   have S4 := S3.mkB #[.int .u64 0, .int .u64 0, .int .u64 0, .slice none 0 0] T.h
   generalize w3.heap.size = ab at *
   generalize w3.alloc _ = w4 at *
   refine St.put (cs' := #[.int .u64 0, .int .u64 0, .int .u64 0, .slice none 0 0]) (vs := [.int .u64 0, .int .u64 0, .int .u64 0, .slice none 0 0]) S4 (by simp [kh]) (by simp) rfl fun w5 S5 => ?_
   exact azn S5.drop fun w' S' => hno hae w' S'.drop
 ·have hae : wrE p ls lm lu = false := by unfold wrE; rw [hre, Bool.and_false]
  have S3 := S2.jo f3
  simp [agl]
  have S4 := S3.mkB #[.int .u64 0, .int .u64 0, .int .u64 0, .slice none 0 0] T.h
  generalize w3.heap.size = ab at *
  generalize w3.alloc _ = w4 at *
  refine St.put (cs' := #[.int .u64 0, .int .u64 0, .int .u64 0, .slice none 0 0]) (vs := [.int .u64 0, .int .u64 0, .int .u64 0, .slice none 0 0]) S4 (by simp [kh]) (by simp) rfl fun w5 S5 => ?_
  exact azn S5.drop fun w' S' => hno hae w' S'.drop
end
section
variable {w0 w : World} {R : List Asn} {q hb : Nat} {es : List EnS} {L : Lg} {D : Dk} {s f : Int} {p : Pk} {ls : List Spn} {lm : List Mem} {lu : List Int} {ms X : List WrM} {Q : List Prt} {G : Nat} {x : Prop} {ik : Int}
theorem adk (S : St w0 w (il hb D :: R)) (hv : Vir s f Q G D x) (hd : D.je = false) (hm : 64 ≤ ik ∧ ik ≤ 1048576) (hQ : jm Q = X.map ql) (hX : ∀ m ∈ X, okM m) {K : KV}
  (h : ∀ w' q j s' f' L' D', G ≤ (X.take j).length → SI s' f' L' D' (X.take j) → L'.ik = ik → f' ≤ f → (X.take j).length ≤ X.length → D'.jt = D.jt → D'.jb = D.jb → D'.iz ≤ D.iz → L'.gy.length ≤ Q.length → (x → L'.gy = Q) → St w0 w' (ou q hb (jv (X.take j)) L' false :: il hb D' :: R) → K (.tuple #[jx q, .int .i64 0]) w') : gi P F.db [.pointer (some ⟨hb, 0, none⟩), .int .i64 ik] w K := by
 obtain ⟨s', f', Q', D', eo, g, e2, e3, ⟨j, e4⟩, e5, _, e6, e8, e9, e7⟩ := blv hv hd hm
 obtain ⟨y1, y2, y3, y4, _, y6, y7⟩ := apy g.vir g.up
 have hj : jm Q' = (X.take j).map ql := by rw [e4, hQ, List.map_take]
 have hok' : ∀ m ∈ X.take j, okM m := fun m hm => hX m (List.mem_of_mem_take hm)
 refine bfd S (by omega) eo g y1 hj hok' fun w2 q S2 => ?_
 have hl : (jm Q').length = (X.take j).length := by rw [hj, List.length_map]
 have y2' : Vir s' f' Q' (jm Q').length (Lg.nl ⟨ik, Q'⟩ D').1 True := y2
 refine h w2 q j s' f' ⟨ik, Q'⟩ _ (by omega) ⟨⟨?_, g.size, y3⟩, hj, hok'⟩ rfl e7 (List.length_take_le' _ _) (by rw [y4, e2]) (by rw [y6, e3]) (by rw [y7]; exact e9) e8 (fun hx => (e6 hx).2.1) S2
 rw [← hl]
 exact y2'
theorem aou (hr : vu p) (hls : ∀ s ∈ ls, wg s) (W : WrP p ls) (hne : jw es ls ≠ []) : okM (p.b, jw es ls) :=
 ⟨hr.b, hne, fun s hs => ⟨(W.ok s (List.mem_filter.1 hs).1).1, hls s (List.mem_filter.1 hs).1⟩, fun s hs s' hs' => by rw [(W.ok s (List.mem_filter.1 hs).1).2, (W.ok s' (List.mem_filter.1 hs').1).2], Nat.le_trans (List.length_filter_le _ _) W.len⟩
theorem avq (W : WrP p ls) : (jw es ls).foldl (mh p.b) es = es ++ (jw es ls).map fun x => (p.b, x) := aym W.ids
def tt (ms : List WrM) (b : Bal) (l : List Spn) : List WrM := if l = [] then ms else ms ++ [(b, l)]
theorem aor (ms : List WrM) (b : Bal) (l : List Spn) : jv (tt ms b l) = l.foldl (mh b) (jv ms) := by
 unfold tt
 split
 ·rename_i h; subst h; rfl
 ·rw [apa]; rfl
theorem bgx (ms : List WrM) (b : Bal) (l : List Spn) : (tt ms b l).length ≤ ms.length + 1 := by unfold tt; split <;> simp
inductive air (s f ik B : Int) (arm : Bool) (jb : Int) (ms : List WrM) (b : Bal) (l : List Spn) : Int → List WrM → Bool → Lg → Dk → Prop
 | ok (L : Lg) (D : Dk) : SI s f L D (tt ms b l) → L.ik = ik → f + (tt ms b l).length ≤ B → (arm = false → D.jt = false) → D.jb = jb → air s f ik B arm jb ms b l 0 (tt ms b l) false L D
 | vk (L : Lg) (D : Dk) : SI s f L D ms → L.ik = ik → f + ms.length ≤ B → (arm = false → D.jt = false) → D.jb = jb → air s f ik B arm jb ms b l 9 ms false L D
 | je (L : Lg) (D : Dk) (Q : List Prt) (Y : List WrM) : arm = true → D.je = true → Vir s f Q ms.length D False → jm Q = Y.map ql → (Y = ms ∨ Y = tt ms b l) → (∀ m ∈ Y, okM m) → f + Y.length ≤ B → D.jb = jb → air s f ik B arm jb ms b l 10 ms true L D
theorem bhz {B : Int} (I : SI s f L D ms) {b : Bal} {l : List Spn} (hm : l ≠ [] → okM (b, l)) (hB : f + ms.length + 1 ≤ B) (hB2 : B ≤ 1000000000000) :
  air s f L.ik B D.jt D.jb ms b l (oz L D b l).2 (if (oz L D b l).2 = 0 then tt ms b l else ms) (decide ((oz L D b l).2 = 10)) (oz L D b l).1.1 (oz L D b l).1.2 := by
 unfold oz
 by_cases he : l = []
 ·rw [if_pos he]
  have e : tt ms b l = ms := by unfold tt; rw [if_pos he]
  simp only [if_true]
  have := air.ok (s := s) (f := f) (ik := L.ik) (B := B) (arm := D.jt) (jb := D.jb) (ms := ms) (b := b) (l := l) L D (by rw [e]; exact I) rfl (by rw [e]; omega) id rfl
  simpa using this
 ·rw [if_neg he]
  have ho := hm he
  have e : tt ms b l = ms ++ [(b, l)] := by unfold tt; rw [if_neg he]
  have hl := avw (B := B) I ho (by rw [I.len]; omega) hB2
  have er : ql (b, l) = nc b l := rfl
  rw [er] at hl
  rw [e]
  generalize wrF L D [nc b l] = z at *
  obtain ⟨⟨L', D'⟩, k⟩ := z
  simp only at hl ⊢
  cases hl with
  | ok _ _ i1 i2 i3 i4 i5 => rw [i1.len] at i3; simpa [e] using air.ok (s := s) (f := f) (ik := L.ik) (B := B) (arm := D.jt) (jb := D.jb) (ms := ms) (b := b) (l := l) L' D' (by rw [e]; exact i1) i2 (by rw [e]; exact i3) i4 i5
  | vk _ _ i1 i2 i3 i4 i5 => rw [i1.len] at i3; exact .vk L' D' i1 i2 i3 i4 i5
  | je _ _ Q Y i1 i2 i3 i4 i5 i6 i7 i8 i9 =>
   have hlQ : (jm Q).length = Y.length := by rw [i4, List.length_map]
   refine .je L' D' Q Y i1 i2 i3 i4 (by rw [e]; exact i5) ?_ (by omega) i7
   rcases i5 with rfl | rfl
   ·exact I.ok
   ·intro m hm'
    rcases List.mem_append.1 hm' with hm' | hm'
    ·exact I.ok m hm'
    ·rw [List.mem_singleton.1 hm']; exact ho
theorem bfc {b : Bal} {l : List Spn} (I : SI s f L D ms) (hm : l ≠ [] → okM (b, l)) (hn : f + ms.length + 1 ≤ 1000000000000) (h1 : L.gy.length < 63) (h2 : D.jt = false) (h3 : (D.iz : Int) + 1752 ≤ D.jb) : (oz L D b l).2 = 0 ∧ (oz L D b l).1.2.iz ≤ D.iz + 1752 ∧ (oz L D b l).1.1.gy.length ≤ L.gy.length + 1 := by
 unfold oz
 by_cases he : l = []
 ·rw [if_pos he]
  exact ⟨rfl, by simp, by simp⟩
 rw [if_neg he]
 have hb := asj (hm he)
 have er : ql (b, l) = nc b l := rfl
 rw [er] at hb
 have ha := big (b := nc b l) I.abj (by rw [I.len]; omega)
 have h0 : (L.append D (nc b l)).2 = 0 := by
  generalize L.append D (nc b l) = z at *
  cases ha with
  | amh hx => omega
  | vk D' hx _ _ _ => rcases hx with hx | hx <;> omega
  | je D' Q hx => rw [h2] at hx; cases hx
  | ok => rfl
 rw [arh h0]
 generalize L.append D (nc b l) = z at *
 cases ha with
 | amh hx => simp at h0
 | vk => simp at h0
 | je => simp at h0
 | ok L' D' g' e1 e2 e3 e4 e5 e6 e7 =>
  have e0 : wrF L' D' [] = ((L', (L'.nl D').1), (L'.nl D').2) := by unfold wrF ss; simp
  rw [e0]
  obtain ⟨y1, _, _, _, _, _, y7⟩ := apy g'.vir g'.up
  exact ⟨y1, by rw [y7]; omega, e2⟩
theorem alt (S : St w0 w (ou q hb (jv ms) L false :: il hb D :: R)) (hp : ∀ w' R', St w0 w' (R' ++ R) → pn w' p ls lm lu) (hr : vu p) (hls : ∀ s ∈ ls, wg s) (I : SI s f L D ms) (hn : f + ms.length + 1 ≤ 1000000000000) (hw : wrE p ls lm lu = true) (h1 : L.gy.length < 63) (h2 : D.jt = false) (h3 : (D.iz : Int) + 1752 ≤ D.jb) {K : KV}
  (h : ∀ w' v' v3 L' D', SI s f L' D' (tt ms p.b (jw (jv ms) ls)) → L'.ik = L.ik → D'.jt = false → D'.jb = D.jb → D'.iz ≤ D.iz + 1752 → L'.gy.length ≤ L.gy.length + 1 → St w0 w' (rdA 1 oe v' (qf ls) :: rdA 8 ir v3 (jw (jv ms) ls) :: ou q hb (jv (tt ms p.b (jw (jv ms) ls))) L' false :: il hb D' :: R) → K (.tuple #[pkA (tj p.tr v'), v3, .int .i64 0]) w') :
  gi P F.bb [jx q, pkA p] w K := by
 have up : D.je = false := I.abj.up
 obtain ⟨_, W⟩ := ajc hw
 obtain ⟨s1, s2, s3⟩ := bfc (b := p.b) (l := jw (jv ms) ls) I (fun hne => aou hr hls W hne) hn h1 h2 h3
 have hl := bhz (B := f + ms.length + 1) (b := p.b) (l := jw (jv ms) ls) I (fun hne => aou hr hls W hne) (Int.le_refl _) hn
 rw [if_pos s1, s1] at hl
 refine bhh (s := s) (f := f) S hp hr hls (axk I.ok) (fun _ _ => ⟨_, I.abj⟩) (by rw [I.len]; omega) (fun h => by rw [hw] at h; cases h) (fun _ hd => by rw [up] at hd; cases hd) (fun _ _ _ h0 => absurd s1 h0) fun _ _ _ _ w' v' v3 S' => ?_
 rw [← aor] at S'
 generalize (oz L D p.b (jw (jv ms) ls)).1.1 = L' at *
 generalize (oz L D p.b (jw (jv ms) ls)).1.2 = D' at *
 generalize hdd : decide ((0 : Int) = 10) = dd at hl
 cases hl with
 | ok _ _ i1 i2 i3 i4 i5 => exact h w' v' v3 L' D' i1 i2 (i4 h2) i5 s2 s3 S'
end
end Go.Proofs.YtfnhoaemapheoaaGreat
