/-
  Sorting a row of spans: an element read and written, two swapped; the insertion sort. No condition.
-/
import Derived.Test.YtfnhoaemapheoaaGreatZRef3
import Derived.Test.YtfnhoaemapheoaaGreatZMs2
import Derived.Test.YtfnhoaemapheoaaGreatZEngSl
set_option maxRecDepth 100000
namespace Go.Proofs.YtfnhoaemapheoaaGreat
open Go.Eng Go.Proofs.YtfnhoaemapheoaaGreat.Sint
abbrev vS (g n cap : Nat) : Value := .slice (some ⟨g, 0, none⟩) n cap
abbrev CF : Value := .func (.func F.dp) #[] #[]
theorem tx {g n cap i : Nat} (h : i < n) (w : World) (K : KV) : iaT P T.c (vS g n cap) (.int .i64 (i : Nat)) w K = K (.pointer (some ⟨g, i * 8, none⟩)) w := by simp [h]
theorem xe (b o : Nat) (x : Spn) (w : World) (K : KV) : stT P T.e (.pointer (some ⟨b, o, none⟩)) (jx x) w K = stN P b o (gy x) w K := by
 unfold jx
 simp [gy]
theorem wr1 {x : Nat} (h : x < 1000000) : IntKind.i64.wrap ((x : Int) + 1) = ((x + 1 : Nat) : Int) := by rw [gm (by omega) (by omega)]; rfl
theorem wrm {x y : Nat} (h : y ≤ x) (hx : x < 1000000) : IntKind.i64.wrap ((x : Int) - (y : Nat)) = ((x - y : Nat) : Int) := by rw [gm (by omega) (by omega)]; omega
theorem ayo {x : Nat} (h : 1 ≤ x) (hx : x < 1000000) : IntKind.i64.wrap ((x : Int) - 1) = ((x - 1 : Nat) : Int) := by rw [gm (by omega) (by omega)]; omega
theorem wra {x y : Nat} (h : x + y < 1000000) : IntKind.i64.wrap ((x : Int) + (y : Nat)) = ((x + y : Nat) : Int) := by rw [gm (by omega) (by omega)]; omega
section
variable {w0 w : World} {R : List Asn} {g n cap : Nat} {l : List Spn}
theorem ajl (S : St w0 w (kg (vS g n cap) l :: R)) {i : Nat} (hi : i < l.length) (K : KV) : ldN P 8 g (i * 8) w K = K (jx l[i]) w := by
 obtain ⟨b, o, c, hv, _, _, hc⟩ := (S.row lk : SlS w (vS g n cap) l).at hi
 injection hv with h1 h2 h3
 injection h1 with h1
 injection h1 with h1 h4
 subst h1 h4
 exact rh (gy l[i]) 8 rfl (fun k u hk => by have := hc k u hk; rwa [Nat.zero_add] at this) K
theorem yn (S : St w0 w (kg (vS g n cap) l :: R)) {i : Nat} (hi : i < l.length) (x : Spn) {K : KV} (h : ∀ w', St w0 w' (kg (vS g n cap) (l.set i x) :: R) → K undef w') : stT P T.e (.pointer (some ⟨g, i * 8, none⟩)) (jx x) w K := by
 obtain ⟨b, c, hv, hs⟩ := St.blx lk nq S hi x
 injection hv with h1 h2 h3
 injection h1 with h1
 injection h1 with h1 h4
 subst h1
 rw [xe]
 have := hs K h
 rwa [Nat.zero_add] at this
theorem ajx (S : St w0 w R) (x y : Spn) {K : KV} (h : ∀ w', St w0 w' R → K (.int .i64 (aam x y)) w') : wi P CF [jx x, jx y] w K := by
 have := bfr (P := P) F.dp [] [] [jx x, jx y] w K
 rw [show (CF : Value) = .func (.func F.dp) ([] : List Value).toArray ([] : List Value).toArray from rfl, this]
 exact bax x y fun w' f => h w' (S.jg f)
theorem td (S : St w0 w (kg (vS g n cap) l :: R)) : l.length = n := by
 obtain ⟨_, _, hv, _⟩ := (S.row lk : SlS w (vS g n cap) l)
 injection hv with _ h _
 exact h.symm
end
def bmt (w0 : World) (g n cap a : Nat) (X Z S : List Spn) (x : Spn) (R : List Asn) : KL := fun v w1 => ∃ (j : Nat) (S1 S2 : List Spn), v = [.int .i64 (j : Nat)] ∧ j = a + S1.length ∧ X.length = a ∧ nw (S1 ++ S2) ∧ (∀ y ∈ S2, leS x y) ∧ (S1 ++ S2).Perm S ∧ St w0 w1 (kg (vS g n cap) (X ++ (S1 ++ x :: S2) ++ Z) :: R)
def bjp (w0 : World) (g n cap a b : Nat) (X A Y : List Spn) (R : List Asn) : KL := fun v w1 => ∃ (u : Value) (i : Nat) (S Q : List Spn), v = [u, .int .i64 (i : Nat)] ∧ i = a + S.length ∧ S.length + Q.length = A.length ∧ 1 ≤ S.length ∧ nw S ∧ (S ++ Q).Perm A ∧ St w0 w1 (kg (vS g n cap) (X ++ S ++ Q ++ Y) :: R)
section
variable {w0 w : World} {R : List Asn} {g n cap : Nat} {l : List Spn}
theorem bbn {a b : Nat} {X A Y : List Spn} (S : St w0 w (kg (vS g n cap) (X ++ A ++ Y) :: R)) (hn : n < 100000) (ha : X.length = a) (hb : a + A.length = b) {K : KV}
  (h : ∀ w' C, nw C → C.Perm A → St w0 w' (kg (vS g n cap) (X ++ C ++ Y) :: R) → K (.tuple #[]) w') : gb P F.ak [vS g n cap, .int .i64 (a : Nat), .int .i64 (b : Nat), CF] w K := by
 have hlen := td S
 simp only [List.length_append] at hlen
 rw [M.d.fcall]
 apply M.d.calls
 unfold M.d
 simp only [kh, wr1 (show a < 1000000 by omega)]
 by_cases hA : A = []
 ·subst hA
  simp only [List.length_nil] at hb
  refine ⟨fun v w1 => v = [undef, .int .i64 ((a + 1 : Nat) : Int)] ∧ w1 = w, fun _ _ => 0, ⟨rfl, rfl⟩, ?_⟩
  rintro v w1 ⟨rfl, rfl⟩
  unfold M.d.j0
  have g1 : gv [undef, Value.int .i64 ((a + 1 : Nat) : Int)] 1 = .int .i64 ((a + 1 : Nat) : Int) := rfl
  have hlt : ¬ ((a + 1 : Nat) : Int) < (b : Int) := by omega
  simp only [gg, g1, km, hlt, decide_false, Eng.cond_false]
  exact h w1 [] List.Pairwise.nil (List.Perm.refl _) S
 have hAl : 0 < A.length := List.length_pos_iff.2 hA
 refine ⟨bjp w0 g n cap a b X A Y R, fun v _ => b - ms v 1, ⟨_, a + 1, [A[0]], A.drop 1, rfl, rfl, by simp; omega, by simp, by simp, ?_, ?_⟩, ?_⟩
 ·rw [List.singleton_append, show A[0] :: A.drop 1 = A from by rw [← List.drop_eq_getElem_cons hAl, List.drop_zero]]
 ·have e : X ++ [A[0]] ++ A.drop 1 ++ Y = X ++ A ++ Y := by
   rw [List.append_assoc X, List.singleton_append, show A[0] :: A.drop 1 = A from by rw [← List.drop_eq_getElem_cons hAl, List.drop_zero]]
  rw [e]; exact S
 rintro v w1 ⟨u, i, S0, Q, rfl, hi, hl0, h1, hS, hp, T1⟩
 have g1 : gv [u, Value.int .i64 (i : Nat)] 1 = .int .i64 (i : Nat) := rfl
 unfold M.d.j0
 simp only [gg, g1, km]
 by_cases hib : i < b
 ·have hib' : (i : Int) < b := by omega
  have hQ : 0 < Q.length := by omega
  obtain ⟨x, Q', rfl⟩ := List.exists_cons_of_length_pos hQ
  simp only [hib', decide_true, Eng.cond_true]
  refine ⟨bmt w0 g n cap a X (Q' ++ Y) S0 x R, fun v _ => ms v 0, ⟨i, S0, [], rfl, hi, ha, by simpa using hS, by simp, by simp, by simpa using T1⟩, ?_⟩
  rintro v w2 ⟨j, S1, S2, rfl, hj, _, hs12, hle, hp12, T2⟩
  have hl12 := hp12.length_eq
  rw [List.length_append] at hl12
  simp only [List.length_cons] at hl0
  have done : ∀ v w3, nw (S1 ++ x :: S2) → St w0 w3 (kg (vS g n cap) (X ++ (S1 ++ x :: S2) ++ (Q' ++ Y)) :: R) → bjp w0 g n cap a b X A Y R [v, .int .i64 (IntKind.i64.wrap ((i : Int) + 1))] w3 ∧ b - ms [v, .int .i64 (IntKind.i64.wrap ((i : Int) + 1))] 1 < b - ms [u, .int .i64 (i : Nat)] 1 := by
   intro v w3 hasc T3
   rw [wr1 (by omega)]
   refine ⟨⟨v, i + 1, S1 ++ x :: S2, Q', rfl, by simp; omega, by simp; omega, by simp; omega, hasc, ?_, by simpa using T3⟩, by simp [ms, gv]; omega⟩
   refine List.Perm.trans ?_ hp
   rw [show S0 ++ x :: Q' = (S0 ++ [x]) ++ Q' from by simp]
   refine List.Perm.append_right _ ?_
   refine List.Perm.trans List.perm_middle ?_
   refine List.Perm.trans (List.Perm.cons x hp12) ?_
   exact (List.perm_append_comm (l₁ := S0) (l₂ := [x])).symm
  have g0 : gv [Value.int .i64 (j : Nat)] 0 = .int .i64 (j : Nat) := rfl
  unfold M.d.j3
  simp only [gg, g0]
  have T3 := T2.jg ((Fr.refl _ w2).dr 1)
  by_cases hja : a < j
  ·have hS1 : 0 < S1.length := by omega
   obtain ⟨S1', y, rfl⟩ : ∃ S1' y, S1 = S1' ++ [y] := ⟨S1.dropLast, S1.getLast (List.ne_nil_of_length_pos hS1), (List.dropLast_concat_getLast _).symm⟩
   have hja' : (a : Int) < (j : Int) := by omega
   simp only [List.length_append, List.length_singleton] at hj hl12
   have ej : j - 1 = X.length + S1'.length := by omega
   have eL : X ++ (S1' ++ [y] ++ x :: S2) ++ (Q' ++ Y) = (X ++ S1') ++ y :: ([] ++ x :: (S2 ++ (Q' ++ Y))) := by simp
   have eL2 : X ++ (S1' ++ x :: (y :: S2)) ++ (Q' ++ Y) = (X ++ S1') ++ x :: ([] ++ y :: (S2 ++ (Q' ++ Y))) := by simp
   have j1 : j < (X ++ (S1' ++ [y] ++ x :: S2) ++ (Q' ++ Y)).length := by simp; omega
   have j2 : j - 1 < (X ++ (S1' ++ [y] ++ x :: S2) ++ (Q' ++ Y)).length := by omega
   have r1 : (X ++ (S1' ++ [y] ++ x :: S2) ++ (Q' ++ Y))[j] = x := by
    have hjj : j = (X ++ S1' ++ [y]).length := by simp; omega
    have e : X ++ (S1' ++ [y] ++ x :: S2) ++ (Q' ++ Y) = (X ++ S1' ++ [y]) ++ x :: (S2 ++ (Q' ++ Y)) := by simp
    simp only [e, hjj]
    simp
   have r2 : (X ++ (S1' ++ [y] ++ x :: S2) ++ (Q' ++ Y))[j - 1] = y := by
    have hjj : j - 1 = (X ++ S1').length := by simp; omega
    have e : X ++ (S1' ++ [y] ++ x :: S2) ++ (Q' ++ Y) = (X ++ S1') ++ y :: (x :: S2 ++ (Q' ++ Y)) := by simp
    simp only [e, hjj]
    simp
   have d1 := ajl T3 j1
   have d2 := ajl T3 j2
   rw [r1] at d1
   rw [r2] at d2
   have i1 := fun w K => tx (g := g) (cap := cap) (show j < n by omega) w K
   have i2 := fun w K => tx (g := g) (cap := cap) (show j - 1 < n by omega) w K
   have hw := ayo (x := j) (by omega) (by omega)
   have b1 : (j : Int) < n := by omega
   have b2 : ((j - 1 : Nat) : Int) < n := by omega
   simp [hja, hja', hw, i1, i2, b1, b2, d1, d2]
   refine ajx T3 x y fun w4 T4 => ?_
   by_cases hc : leS y x
   ·have hlt : ¬ aam x y < 0 := fun hh => yj.1 hh hc
    simp [hlt]
    refine done _ _ ?_ T4
    have h12 := List.pairwise_append.1 hs12
    refine List.pairwise_append.2 ⟨h12.1, List.pairwise_cons.2 ⟨hle, h12.2.1⟩, fun c hcm q hq => ?_⟩
    rcases List.mem_cons.1 hq with rfl | hq
    ·rcases List.mem_append.1 hcm with hcm | hcm
     ·exact ((List.pairwise_append.1 h12.1).2.2 c hcm y (by simp)).trans hc
     ·rw [List.mem_singleton.1 hcm]; exact hc
    ·exact h12.2.2 c hcm q hq
   ·have hlt : aam x y < 0 := yj.2 hc
    simp [hlt]
    unfold M.d.j4
    have T5 := T4.jg ((Fr.refl _ w4).dr 1)
    have d1 := ajl T5 j1
    have d2 := ajl T5 j2
    rw [r1] at d1
    rw [r2] at d2
    simp [hw, i1, i2, b1, b2, d1, d2]
    refine yn T5 j1 y fun w6 T6 => ?_
    refine yn T6 (by simpa using j2) x fun w7 T7 => ?_
    have e : ((X ++ (S1' ++ [y] ++ x :: S2) ++ (Q' ++ Y)).set j y).set (j - 1) x = X ++ (S1' ++ x :: (y :: S2)) ++ (Q' ++ Y) := by
     have := auw (X ++ S1') [] (S2 ++ (Q' ++ Y)) y x (l := X ++ (S1' ++ [y] ++ x :: S2) ++ (Q' ++ Y)) (i := j - 1) (j := j) eL (by simp; omega) (by simp; omega) j2 j1
     unfold awr at this
     rw [r1, r2] at this
     rw [eL2, ← this, List.set_comm _ _ (by omega)]
    rw [e] at T7
    refine ⟨⟨j - 1, S1', y :: S2, rfl, by omega, ha, by simpa using hs12, fun z hz => ?_, by simpa using hp12, T7⟩, by simp [ms, gv]; omega⟩
    rcases List.mem_cons.1 hz with rfl | hz
    ·exact leS.of hc
    ·exact hle z hz
  ·have hja' : ¬ (a : Int) < (j : Int) := by omega
   have hS1 : S1 = [] := List.length_eq_zero_iff.1 (by omega)
   subst hS1
   simp [hja, hja']
   have := done (.int .i64 (j : Nat)) _ (List.pairwise_cons.2 ⟨hle, by simpa using hs12⟩) T3
   simpa using this
 ·have hib' : ¬ (i : Int) < b := by omega
  have hQ : Q = [] := List.length_eq_zero_iff.1 (by omega)
  subst hQ
  simp only [hib', decide_false, Eng.cond_false]
  exact h w1 S0 hS (by simpa using hp) (by simpa using T1)
end
set_option maxRecDepth 100000
open Go.Eng Go.Proofs.YtfnhoaemapheoaaGreat.Sint
theorem aiy {P Q R : List Spn} {x y : Spn} {L : List Spn} {i j : Nat} (hL : L = P ++ x :: (Q ++ y :: R)) (hi : i = P.length) (hj : j = P.length + 1 + Q.length) :
  ∃ (h1 : i < L.length) (h2 : j < L.length), L[i] = x ∧ L[j] = y ∧ (L.set i y).set j x = P ++ y :: (Q ++ x :: R) ∧ (L.set j x).set i y = P ++ y :: (Q ++ x :: R) := by
 have h1 : i < L.length := by rw [hL]; simp; omega
 have h2 : j < L.length := by rw [hL]; simp; omega
 have e1 : L[i] = x := by simp only [hL, hi]; simp
 have e2 : L[j] = y := by
  have e : P ++ x :: (Q ++ y :: R) = (P ++ x :: Q) ++ y :: R := by simp
  have ej : j = (P ++ x :: Q).length := by simp; omega
  simp only [hL, e, ej]
  simp
 have h3 := auw P Q R x y hL hi hj h1 h2
 unfold awr at h3
 rw [e1, e2] at h3
 exact ⟨h1, h2, e1, e2, h3, by rw [List.set_comm _ _ (by omega)]; exact h3⟩
def bmp (w0 : World) (g n cap : Nat) (X A Mi B Y : List Spn) (R : List Asn) : KL := fun v w1 => ∃ (i : Nat), v = [.int .i64 (i : Nat)] ∧ i ≤ A.length ∧ St w0 w1 (kg (vS g n cap) (X ++ (B.take i ++ A.drop i) ++ Mi ++ (A.take i ++ B.drop i) ++ Y) :: R)
section
variable {w0 w : World} {R : List Asn} {g n cap : Nat} {X A Mi B Y U V : List Spn}
theorem uj {l : List Spn} (S : St w0 w (kg (vS g n cap) l :: R)) {i : Nat} (hi : i < l.length) {x : Spn} (e : l[i] = x) (K : KV) : ldN P 8 g (i * 8) w K = K (jx x) w := by rw [← e]; exact ajl S hi K
theorem aoz {a b k : Nat} (S : St w0 w (kg (vS g n cap) (X ++ A ++ Mi ++ B ++ Y) :: R)) (hn : n < 100000) (ha : X.length = a) (hA : A.length = k) (hB : B.length = k) (hb : b = a + k + Mi.length) {K : KV}
  (h : ∀ w', St w0 w' (kg (vS g n cap) (X ++ B ++ Mi ++ A ++ Y) :: R) → K (.tuple #[]) w') : gb P F.aj [vS g n cap, .int .i64 (a : Nat), .int .i64 (b : Nat), .int .i64 (k : Nat), CF] w K := by
 have hlen := td S
 simp only [List.length_append] at hlen
 rw [M.y.fcall]
 apply M.y.calls
 unfold M.y
 refine ⟨bmp w0 g n cap X A Mi B Y R, fun v _ => k - ms v 0, ⟨0, rfl, Nat.zero_le _, by simpa using S⟩, ?_⟩
 rintro v w1 ⟨i, rfl, hi, T1⟩
 have g0 : gv [Value.int .i64 (i : Nat)] 0 = .int .i64 (i : Nat) := rfl
 simp only [gg, g0, km]
 by_cases hik : i < k
 ·have hik' : (i : Int) < k := by omega
  simp only [hik', decide_true, Eng.cond_true]
  unfold M.y.j1
  have hA' : A.drop i = A[i] :: A.drop (i + 1) := List.drop_eq_getElem_cons (by omega)
  have hB' : B.drop i = B[i] :: B.drop (i + 1) := List.drop_eq_getElem_cons (by omega)
  have eL : X ++ (B.take i ++ A.drop i) ++ Mi ++ (A.take i ++ B.drop i) ++ Y = (X ++ B.take i) ++ A[i] :: ((A.drop (i + 1) ++ Mi ++ A.take i) ++ B[i] :: (B.drop (i + 1) ++ Y)) := by rw [hA', hB']; simp only [List.append_assoc, List.cons_append]
  have eR : (X ++ B.take i) ++ B[i] :: ((A.drop (i + 1) ++ Mi ++ A.take i) ++ A[i] :: (B.drop (i + 1) ++ Y)) = X ++ (B.take (i + 1) ++ A.drop (i + 1)) ++ Mi ++ (A.take (i + 1) ++ B.drop (i + 1)) ++ Y := by
   rw [List.take_add_one, List.take_add_one, List.getElem?_eq_getElem (show i < A.length by omega), List.getElem?_eq_getElem (show i < B.length by omega)]
   simp only [Option.toList_some, List.append_assoc, List.cons_append, List.nil_append]
  rw [eL] at T1
  have T2 := T1.jg ((Fr.refl _ w1).dr 1)
  obtain ⟨h1, h2, e1, e2, e3, _⟩ := aiy (L := (X ++ B.take i) ++ A[i] :: ((A.drop (i + 1) ++ Mi ++ A.take i) ++ B[i] :: (B.drop (i + 1) ++ Y))) (i := a + i) (j := b + i) rfl (by simp; omega) (by simp; omega)
  have d1 := uj T2 h1 e1
  have d2 := uj T2 h2 e2
  have i1 := fun w K => tx (g := g) (cap := cap) (show a + i < n by omega) w K
  have i2 := fun w K => tx (g := g) (cap := cap) (show b + i < n by omega) w K
  have w1' := wra (x := a) (y := i) (by omega)
  have w2' := wra (x := b) (y := i) (by omega)
  have b1 : ((a + i : Nat) : Int) < n := by omega
  have b2 : ((b + i : Nat) : Int) < n := by omega
  simp [-Int.natCast_add, g0, w1', w2', i1, i2, b1, b2, d1, d2]
  refine yn T2 h1 B[i] fun w3 T3 => ?_
  refine yn T3 (by rw [List.length_set]; exact h2) A[i] fun w4 T4 => ?_
  rw [e3, eR] at T4
  simp only [kh, wr1 (show i < 1000000 by omega)]
  exact ⟨⟨i + 1, rfl, by omega, T4⟩, by simp [ms, gv]; omega⟩
 ·have hik' : ¬ (i : Int) < k := by omega
  have hik2 : i = k := by omega
  simp only [hik', decide_false, Eng.cond_false]
  refine h w1 ?_
  subst hik2
  have q1 : B.take i = B := List.take_of_length_le (by omega)
  have q2 : A.drop i = [] := List.drop_of_length_le (by omega)
  have q3 : A.take i = A := List.take_of_length_le (by omega)
  have q4 : B.drop i = [] := List.drop_of_length_le (by omega)
  rw [q1, q2, q3, q4] at T1
  simpa using T1
def bmi (w0 : World) (g n cap m : Nat) (G : List Spn) (R : List Asn) : KL := fun v w1 => ∃ (i j : Nat) (X U V Y : List Spn), v = [.int .i64 (i : Nat), .int .i64 (j : Nat)] ∧ U.length = i ∧ V.length = j ∧ X.length + i = m ∧ 0 < i ∧ 0 < j ∧ G = X ++ V ++ U ++ Y ∧ St w0 w1 (kg (vS g n cap) (X ++ U ++ V ++ Y) :: R)
theorem bjq {a m b : Nat} (S : St w0 w (kg (vS g n cap) (X ++ U ++ V ++ Y) :: R)) (hn : n < 100000) (ha : X.length = a) (hm : a + U.length = m) (hb : m + V.length = b) (hU : U ≠ []) (hV : V ≠ []) {K : KV}
  (h : ∀ w', St w0 w' (kg (vS g n cap) (X ++ V ++ U ++ Y) :: R) → K (.tuple #[]) w') : gb P F.bi [vS g n cap, .int .i64 (a : Nat), .int .i64 (m : Nat), .int .i64 (b : Nat), CF] w K := by
 have hlen := td S
 simp only [List.length_append] at hlen
 have hU' := List.length_pos_iff.2 hU
 have hV' := List.length_pos_iff.2 hV
 rw [M.ad.fcall]
 apply M.ad.calls
 unfold M.ad
 simp only [kt, wrm (show a ≤ m by omega) (show m < 1000000 by omega), wrm (show m ≤ b by omega) (show b < 1000000 by omega), gg]
 generalize hG : X ++ V ++ U ++ Y = G at h
 refine ⟨bmi w0 g n cap m G R, fun v _ => ms v 0 + ms v 1, ⟨m - a, b - m, X, U, V, Y, rfl, by omega, by omega, by omega, by omega, by omega, hG.symm, S⟩, ?_⟩
 clear hG S ha hm hb hU hV hU' hV' hlen
 rintro v w1 ⟨i, j, X, U, V, Y, rfl, hU, hV, hX, hi, hj, hG, T1⟩
 have hlen := td T1
 simp only [List.length_append] at hlen
 have g0 : gv [Value.int .i64 (i : Nat), .int .i64 (j : Nat)] 0 = .int .i64 (i : Nat) := rfl
 have g1 : gv [Value.int .i64 (i : Nat), .int .i64 (j : Nat)] 1 = .int .i64 (j : Nat) := rfl
 have wmi := wrm (show i ≤ m by omega) (show m < 1000000 by omega)
 simp only [g0, g1, ahi]
 by_cases hij : i = j
 ·subst hij
  simp only [ne_eq, not_true_eq_false, decide_false, Eng.cond_false, kt, wmi]
  have T2 : St w0 w1 (kg (vS g n cap) (X ++ U ++ [] ++ V ++ Y) :: R) := by simpa using T1
  refine aoz (a := m - i) (b := m) (k := i) T2 hn (by omega) hU (by omega) (by simp; omega) fun w2 T3 => ?_
  refine h w2 ?_
  rw [hG]
  simpa using T3
 ·have hij' : ¬ (i : Int) = j := by omega
  simp only [ne_eq, hij', not_false_eq_true, decide_true, Eng.cond_true]
  unfold M.ad.j2
  simp only [g0, g1, qp, kt, kh, wmi]
  by_cases hgt : j < i
  ·have hgt' : (j : Int) < i := by omega
   simp only [hgt', decide_true, Eng.cond_true]
   have eU : U = U.take j ++ U.drop j := (List.take_append_drop j U).symm
   have T2 : St w0 w1 (kg (vS g n cap) (X ++ U.take j ++ U.drop j ++ V ++ Y) :: R) := by
    rw [show X ++ U.take j ++ U.drop j = X ++ U from by rw [List.append_assoc, List.take_append_drop]]
    exact T1
   refine aoz T2 hn (show X.length = m - i by omega) (by rw [List.length_take]; omega) hV (by rw [List.length_drop]; omega) fun w2 T3 => ?_
   simp only [wrm (show j ≤ i by omega) (show i < 1000000 by omega)]
   refine ⟨⟨i - j, j, X ++ V, U.drop j, U.take j, Y, rfl, by rw [List.length_drop]; omega, by rw [List.length_take]; omega, by rw [List.length_append]; omega, by omega, hj, ?_, by simpa using T3⟩, by simp [ms, gv]; omega⟩
   rw [hG]
   conv => lhs; rw [eU]
   simp
  ·have hgt' : ¬ (j : Int) < i := by omega
   simp only [hgt', decide_false, Eng.cond_false]
   have eV : V = V.take (j - i) ++ V.drop (j - i) := (List.take_append_drop _ V).symm
   have T2 : St w0 w1 (kg (vS g n cap) (X ++ U ++ V.take (j - i) ++ V.drop (j - i) ++ Y) :: R) := by
    rw [show X ++ U ++ V.take (j - i) ++ V.drop (j - i) = X ++ U ++ V from by rw [List.append_assoc, List.take_append_drop]]
    exact T1
   simp only [wra (show m + j < 1000000 by omega), wrm (show i ≤ m + j by omega) (show m + j < 1000000 by omega)]
   refine aoz T2 hn (show X.length = m - i by omega) hU (by rw [List.length_drop]; omega) (by rw [List.length_take]; omega) fun w2 T3 => ?_
   simp only [wrm (show i ≤ j by omega) (show j < 1000000 by omega)]
   refine ⟨⟨i, j - i, X, V.drop (j - i), V.take (j - i), U ++ Y, rfl, by rw [List.length_drop]; omega, by rw [List.length_take]; omega, hX, hi, by omega, ?_, by simpa using T3⟩, by simp [ms, gv]; omega⟩
   rw [hG]
   conv => lhs; rw [eV]
   simp
end
set_option maxRecDepth 100000
open Go.Eng Go.Proofs.YtfnhoaemapheoaaGreat.Sint
section
variable {w : World} {K : KV}
theorem hf1 {x : Nat} (h : x < 1000000) (w : World) (K : KV) : cvT P T.b T.au (.int .i64 (x : Nat)) w K = K (.int .u64 (x : Nat)) w := by rw [nl (ks := .i64) (kd := .u64) (by kernel_rfl) (by kernel_rfl), abb (by omega)]
theorem hf3 {x : Nat} (h : x < 1000000) (w : World) (K : KV) : cvT P T.au T.b (.int .u64 (x : Nat)) w K = K (.int .i64 (x : Nat)) w := by rw [nl (ks := .u64) (kd := .i64) (by kernel_rfl) (by kernel_rfl), akr (by omega)]
theorem hf2 {x : Nat} (h : x < 1000000) {t : TypeId} {rx ry : Operand} (w : World) (K : KV) : ga P .shr t rx ry (.int .u64 (x : Nat)) (.int .u64 1) w K = K (.int .u64 ((x / 2 : Nat) : Int)) w := by
 rw [abj (by omega)]
 have e : min (1 : Int).toNat IntKind.u64.bits = 1 := by decide
 rw [e, ahu, Nat.pow_one]
end
def S1I (w0 : World) (m : Nat) (B : List Spn) (x : Spn) (L : List Asn) : KL := fun v w1 => ∃ (u : Value) (p q : Nat), v = [u, .int .i64 ((m + p : Nat) : Int), .int .i64 ((m + q : Nat) : Int)] ∧ p ≤ q ∧ q ≤ B.length ∧ (p = 0 ∨ ∃ h : p - 1 < B.length, leS B[p - 1] x) ∧ (q = B.length ∨ ∃ h : q < B.length, leS x B[q]) ∧ St w0 w1 L
def S4I (w0 : World) (g n cap a : Nat) (X B Y : List Spn) (x : Spn) (p : Nat) (R : List Asn) : KL := fun v w1 => ∃ (t : Nat), v = [.int .i64 ((a + t : Nat) : Int)] ∧ t ≤ p ∧ St w0 w1 (kg (vS g n cap) (X ++ (B.take t ++ x :: B.drop t) ++ Y) :: R)
def S3I (w0 : World) (s0 r0 N a m : Nat) (A B : List Spn) (L : List Asn) : KL := fun v w1 => ∃ (u : Value) (s r : Nat), v = [u, .int .i64 (s : Nat), .int .i64 (r : Nat)] ∧ s0 ≤ s ∧ s ≤ r ∧ r ≤ r0 ∧ (s = s0 ∨ ∃ (h1 : s - 1 - a < A.length) (h2 : N - s - m < B.length), leS A[s - 1 - a] B[N - s - m]) ∧ (r = r0 ∨ ∃ (h1 : N - 1 - r - m < B.length) (h2 : r - a < A.length), leS B[N - 1 - r - m] A[r - a]) ∧ St w0 w1 L
section
variable {w0 w : World} {R : List Asn} {g n cap : Nat} {X A B Y : List Spn}
theorem amc {X B Y : List Spn} {m i : Nat} (hX : X.length = m) (hi : i < B.length) : ∃ h : m + i < (X ++ B ++ Y).length, (X ++ B ++ Y)[m + i] = B[i] := by
 refine ⟨by simp; omega, ?_⟩
 have h1 : m + i < (X ++ B).length := by simp; omega
 rw [List.getElem_append_left h1, List.getElem_append_right (by omega)]
 simp only [hX, Nat.add_sub_cancel_left]
theorem bir {a m b : Nat} {x : Spn} (S : St w0 w (kg (vS g n cap) (X ++ [x] ++ B ++ Y) :: R)) (hn : n < 100000) (ha : X.length = a) (hm : a + 1 = m) (hb : m + B.length = b) (hB : nw B) {K : KV}
  (h : ∀ w' C, nw C → C.Perm (x :: B) → St w0 w' (kg (vS g n cap) (X ++ C ++ Y) :: R) → K (.tuple #[]) w') : gb P F.j [vS g n cap, .int .i64 (a : Nat), .int .i64 (m : Nat), .int .i64 (b : Nat), CF] w K := by
 have hlen := td S
 simp only [List.length_append, List.length_singleton] at hlen
 rw [M.a.fcall]
 apply M.a.calls
 unfold M.a
 have e1 : ((m - a : Nat) : Int) = 1 := by omega
 simp only [kt, wrm (show a ≤ m by omega) (show m < 1000000 by omega), gg, te, e1, decide_true, Eng.cond_true]
 refine ⟨S1I w0 m B x (kg (vS g n cap) (X ++ [x] ++ B ++ Y) :: R), fun v _ => ms v 2 - ms v 1, ⟨undef, 0, B.length, by simp [hb], Nat.zero_le _, Nat.le_refl _, .inl rfl, .inl rfl, S⟩, ?_⟩
 rintro v w1 ⟨u, p, q, rfl, hpq, hq, h1, h2, T1⟩
 have g1 : gv [u, Value.int .i64 ((m + p : Nat) : Int), .int .i64 ((m + q : Nat) : Int)] 1 = .int .i64 ((m + p : Nat) : Int) := rfl
 have g2 : gv [u, Value.int .i64 ((m + p : Nat) : Int), .int .i64 ((m + q : Nat) : Int)] 2 = .int .i64 ((m + q : Nat) : Int) := rfl
 simp only [g1, g2, km]
 by_cases hlt : p < q
 ·have hlt' : ((m + p : Nat) : Int) < ((m + q : Nat) : Int) := by omega
  simp only [hlt', decide_true, Eng.cond_true]
  unfold M.a.j3
  have es : m + p + (m + q) = 2 * m + (p + q) := by omega
  have eh : (m + p + (m + q)) / 2 = m + (p + q) / 2 := by omega
  have hc : (p + q) / 2 < B.length := by omega
  have w1' := wra (x := m + p) (y := m + q) (by omega)
  simp only [g1, g2, kh, w1', hf1 (show m + p + (m + q) < 1000000 by omega), hf2 (show m + p + (m + q) < 1000000 by omega), hf3 (show (m + p + (m + q)) / 2 < 1000000 by omega)]
  rw [eh]
  generalize hh : (p + q) / 2 = c at *
  have T2 := T1.jg ((Fr.refl _ w1).dr 1)
  obtain ⟨k1, q1⟩ := amc (X := X ++ [x]) (B := B) (Y := Y) (m := m) (by simp; omega) hc
  obtain ⟨k2, q2⟩ := amc (X := X) (B := [x]) (Y := B ++ Y) (m := a) (i := 0) ha (by simp)
  have eL : X ++ [x] ++ (B ++ Y) = X ++ [x] ++ B ++ Y := by simp
  simp only [eL, Nat.add_zero, List.getElem_cons_zero] at k2 q2
  have d1 := uj T2 k1 q1
  have d2 := uj T2 k2 q2
  have i1 := fun w K => tx (g := g) (cap := cap) (show m + c < n by omega) w K
  have i2 := fun w K => tx (g := g) (cap := cap) (show a < n by omega) w K
  have b1 : ((m + c : Nat) : Int) < n := by omega
  have b2 : (a : Int) < n := by omega
  simp [-Int.natCast_add, i1, i2, b1, b2, d1, d2]
  refine ajx T2 B[c] x fun w3 T3 => ?_
  by_cases hle : leS x B[c]
  ·have hno : ¬ aam B[c] x < 0 := fun hh => yj.1 hh hle
   simp [hno, -Int.natCast_add]
   refine ⟨⟨_, p, c, rfl, by omega, by omega, h1, .inr ⟨hc, hle⟩, by simpa using T3⟩, by simp [ms, gv]; omega⟩
  ·have hyes : aam B[c] x < 0 := yj.2 hle
   simp [hyes, -Int.natCast_add]
   rw [wr1 (by omega)]
   refine ⟨⟨_, c + 1, q, rfl, by omega, hq, .inr ⟨by omega, ?_⟩, h2, by simpa using T3⟩, by simp [ms, gv]; omega⟩
   simp only [Nat.add_sub_cancel]
   exact leS.of hle
 ·have hlt' : ¬ ((m + p : Nat) : Int) < ((m + q : Nat) : Int) := by omega
  have hpe : p = q := by omega
  subst hpe
  simp only [hlt', decide_false, Eng.cond_false]
  have T1' : St w0 w1 (kg (vS g n cap) (X ++ (B.take 0 ++ x :: B.drop 0) ++ Y) :: R) := by simpa using T1
  refine ⟨S4I w0 g n cap a X B Y x p R, fun v _ => m + p - ms v 0, ⟨0, by simp, Nat.zero_le _, T1'⟩, ?_⟩
  rintro v w2 ⟨t, rfl, ht, T2⟩
  have g0 : gv [Value.int .i64 ((a + t : Nat) : Int)] 0 = .int .i64 ((a + t : Nat) : Int) := rfl
  have g1' : gv [u, Value.int .i64 ((m + p : Nat) : Int), .int .i64 ((m + p : Nat) : Int)] 1 = .int .i64 ((m + p : Nat) : Int) := rfl
  have gu : gv [u, Value.int .i64 ((m + p : Nat) : Int), .int .i64 ((m + p : Nat) : Int)] 0 = u := rfl
  have g2' : gv [u, Value.int .i64 ((m + p : Nat) : Int), .int .i64 ((m + p : Nat) : Int)] 2 = .int .i64 ((m + p : Nat) : Int) := rfl
  unfold M.a.j5
  simp only [gg, g0, gu, g1', g2', kt, ayo (show 1 ≤ m + p by omega) (show m + p < 1000000 by omega), km]
  by_cases htp : t < p
  ·have htp' : ((a + t : Nat) : Int) < ((m + p - 1 : Nat) : Int) := by omega
   simp only [htp', decide_true, Eng.cond_true]
   unfold M.a.j6
   have hd : B.drop t = B[t] :: B.drop (t + 1) := List.drop_eq_getElem_cons (by omega)
   have eL : X ++ (B.take t ++ x :: B.drop t) ++ Y = (X ++ B.take t) ++ x :: ([] ++ B[t] :: (B.drop (t + 1) ++ Y)) := by rw [hd]; simp only [List.append_assoc, List.cons_append, List.nil_append]
   have eR : (X ++ B.take t) ++ B[t] :: ([] ++ x :: (B.drop (t + 1) ++ Y)) = X ++ (B.take (t + 1) ++ x :: B.drop (t + 1)) ++ Y := by
    rw [List.take_add_one, List.getElem?_eq_getElem (show t < B.length by omega)]
    simp only [Option.toList_some, List.append_assoc, List.cons_append, List.nil_append]
   rw [eL] at T2
   have T3 := T2.jg ((Fr.refl _ w2).dr 1)
   obtain ⟨h1', h2', e1', e2', e3', _⟩ := aiy (L := (X ++ B.take t) ++ x :: ([] ++ B[t] :: (B.drop (t + 1) ++ Y))) (i := a + t) (j := a + t + 1) rfl (by simp; omega) (by simp; omega)
   have d1 := uj T3 h1' e1'
   have d2 := uj T3 h2' e2'
   have i1 := fun w K => tx (g := g) (cap := cap) (show a + t < n by omega) w K
   have i2 := fun w K => tx (g := g) (cap := cap) (show a + t + 1 < n by omega) w K
   have hw := wr1 (x := a + t) (by omega)
   have b1 : ((a + t : Nat) : Int) < n := by omega
   have b2 : ((a + t + 1 : Nat) : Int) < n := by omega
   simp [-Int.natCast_add, g0, hw, i1, i2, b1, b2, d1, d2]
   refine yn T3 h1' B[t] fun w4 T4 => ?_
   refine yn T4 (by rw [List.length_set]; exact h2') x fun w5 T5 => ?_
   rw [e3', eR] at T5
   refine ⟨⟨t + 1, rfl, by omega, T5⟩, by simp [ms, gv]; omega⟩
  ·have htp' : ¬ ((a + t : Nat) : Int) < ((m + p - 1 : Nat) : Int) := by omega
   have hte : t = p := by omega
   subst hte
   simp only [htp', decide_false, Eng.cond_false]
   exact h w2 _ (aso hB hq h1 h2) (asi B x t) T2
end
set_option maxRecDepth 100000
open Go.Eng Go.Proofs.YtfnhoaemapheoaaGreat.Sint
def S2I (w0 : World) (a : Nat) (A : List Spn) (y : Spn) (L : List Asn) : KL := fun v w1 => ∃ (u : Value) (p q : Nat), v = [u, .int .i64 ((a + p : Nat) : Int), .int .i64 ((a + q : Nat) : Int)] ∧ p ≤ q ∧ q ≤ A.length ∧ (p = 0 ∨ ∃ h : p - 1 < A.length, leS A[p - 1] y) ∧ (q = A.length ∨ ∃ h : q < A.length, leS y A[q]) ∧ St w0 w1 L
def S5I (w0 : World) (g n cap a : Nat) (X A Y : List Spn) (y : Spn) (p : Nat) (R : List Asn) : KL := fun v w1 => ∃ (t : Nat), v = [.int .i64 ((a + t : Nat) : Int)] ∧ p ≤ t ∧ t ≤ A.length ∧ St w0 w1 (kg (vS g n cap) (X ++ (A.take t ++ y :: A.drop t) ++ Y) :: R)
section
variable {w0 w : World} {R : List Asn} {g n cap : Nat} {X A B Y : List Spn}
theorem bhr {a m b : Nat} {y : Spn} (S : St w0 w (kg (vS g n cap) (X ++ A ++ [y] ++ Y) :: R)) (hn : n < 100000) (ha : X.length = a) (hm : a + A.length = m) (hb : m + 1 = b) (hA : nw A) (hne : A.length ≠ 1) {K : KV}
  (h : ∀ w' C, nw C → C.Perm (y :: A) → St w0 w' (kg (vS g n cap) (X ++ C ++ Y) :: R) → K (.tuple #[]) w') : gb P F.j [vS g n cap, .int .i64 (a : Nat), .int .i64 (m : Nat), .int .i64 (b : Nat), CF] w K := by
 have hlen := td S
 simp only [List.length_append, List.length_singleton] at hlen
 rw [M.a.fcall]
 apply M.a.calls
 unfold M.a
 have e0 : ¬ ((m - a : Nat) : Int) = 1 := by omega
 have e1 : ((b - m : Nat) : Int) = 1 := by omega
 simp only [kt, wrm (show a ≤ m by omega) (show m < 1000000 by omega), gg, te, e0, decide_false, Eng.cond_false]
 unfold M.a.j0
 simp only [kt, wrm (show m ≤ b by omega) (show b < 1000000 by omega), gg, te, e1, decide_true, Eng.cond_true]
 refine ⟨S2I w0 a A y (kg (vS g n cap) (X ++ A ++ [y] ++ Y) :: R), fun v _ => ms v 2 - ms v 1, ⟨undef, 0, A.length, by simp [hm], Nat.zero_le _, Nat.le_refl _, .inl rfl, .inl rfl, S⟩, ?_⟩
 rintro v w1 ⟨u, p, q, rfl, hpq, hq, h1, h2, T1⟩
 have g1 : gv [u, Value.int .i64 ((a + p : Nat) : Int), .int .i64 ((a + q : Nat) : Int)] 1 = .int .i64 ((a + p : Nat) : Int) := rfl
 have g2 : gv [u, Value.int .i64 ((a + p : Nat) : Int), .int .i64 ((a + q : Nat) : Int)] 2 = .int .i64 ((a + q : Nat) : Int) := rfl
 simp only [g1, g2, km]
 by_cases hlt : p < q
 ·have hlt' : ((a + p : Nat) : Int) < ((a + q : Nat) : Int) := by omega
  simp only [hlt', decide_true, Eng.cond_true]
  unfold M.a.j11
  have eh : (a + p + (a + q)) / 2 = a + (p + q) / 2 := by omega
  have hc : (p + q) / 2 < A.length := by omega
  have w1' := wra (x := a + p) (y := a + q) (by omega)
  simp only [g1, g2, kh, w1', hf1 (show a + p + (a + q) < 1000000 by omega), hf2 (show a + p + (a + q) < 1000000 by omega), hf3 (show (a + p + (a + q)) / 2 < 1000000 by omega)]
  rw [eh]
  generalize hh : (p + q) / 2 = c at *
  have T2 := T1.jg ((Fr.refl _ w1).dr 1)
  obtain ⟨k1, q1⟩ := amc (X := X) (B := A) (Y := [y] ++ Y) (m := a) ha hc
  obtain ⟨k2, q2⟩ := amc (X := X ++ A) (B := [y]) (Y := Y) (m := m) (i := 0) (by simp; omega) (by simp)
  have eL : X ++ A ++ ([y] ++ Y) = X ++ A ++ [y] ++ Y := by simp
  simp only [eL] at k1 q1
  simp only [Nat.add_zero, List.getElem_cons_zero] at k2 q2
  have d1 := uj T2 k1 q1
  have d2 := uj T2 k2 q2
  have i1 := fun w K => tx (g := g) (cap := cap) (show a + c < n by omega) w K
  have i2 := fun w K => tx (g := g) (cap := cap) (show m < n by omega) w K
  have b1 : ((a + c : Nat) : Int) < n := by omega
  have b2 : (m : Int) < n := by omega
  simp [-Int.natCast_add, i1, i2, b1, b2, d1, d2]
  refine ajx T2 y A[c] fun w3 T3 => ?_
  by_cases hle : leS A[c] y
  ·have hno : ¬ aam y A[c] < 0 := fun hh => yj.1 hh hle
   simp [hno, -Int.natCast_add]
   rw [wr1 (by omega)]
   refine ⟨⟨_, c + 1, q, rfl, by omega, hq, .inr ⟨by omega, ?_⟩, h2, by simpa using T3⟩, by simp [ms, gv]; omega⟩
   simp only [Nat.add_sub_cancel]
   exact hle
  ·have hyes : aam y A[c] < 0 := yj.2 hle
   simp [hyes, -Int.natCast_add]
   refine ⟨⟨_, p, c, rfl, by omega, by omega, h1, .inr ⟨hc, leS.of hle⟩, by simpa using T3⟩, by simp [ms, gv]; omega⟩
 ·have hlt' : ¬ ((a + p : Nat) : Int) < ((a + q : Nat) : Int) := by omega
  have hpe : p = q := by omega
  subst hpe
  simp only [hlt', decide_false, Eng.cond_false]
  unfold M.a.j9
  simp only [gg]
  have T1' : St w0 w1 (kg (vS g n cap) (X ++ (A.take A.length ++ y :: A.drop A.length) ++ Y) :: R) := by simpa using T1
  refine ⟨S5I w0 g n cap a X A Y y p R, fun v _ => ms v 0, ⟨A.length, by rw [hm], hq, Nat.le_refl _, T1'⟩, ?_⟩
  rintro v w2 ⟨t, rfl, ht, htA, T2⟩
  have g0 : gv [Value.int .i64 ((a + t : Nat) : Int)] 0 = .int .i64 ((a + t : Nat) : Int) := rfl
  have g1' : gv [u, Value.int .i64 ((a + p : Nat) : Int), .int .i64 ((a + p : Nat) : Int)] 1 = .int .i64 ((a + p : Nat) : Int) := rfl
  have gu : gv [u, Value.int .i64 ((a + p : Nat) : Int), .int .i64 ((a + p : Nat) : Int)] 0 = u := rfl
  have g2' : gv [u, Value.int .i64 ((a + p : Nat) : Int), .int .i64 ((a + p : Nat) : Int)] 2 = .int .i64 ((a + p : Nat) : Int) := rfl
  simp only [g0, gu, g1', g2', qp]
  by_cases htp : p < t
  ·have htp' : ((a + p : Nat) : Int) < ((a + t : Nat) : Int) := by omega
   simp only [htp', decide_true, Eng.cond_true]
   unfold M.a.j14
   obtain ⟨t, rfl⟩ : ∃ t', t = t' + 1 := ⟨t - 1, by omega⟩
   have hd : A.drop t = A[t] :: A.drop (t + 1) := List.drop_eq_getElem_cons (by omega)
   have eL : X ++ (A.take (t + 1) ++ y :: A.drop (t + 1)) ++ Y = (X ++ A.take t) ++ A[t] :: ([] ++ y :: (A.drop (t + 1) ++ Y)) := by
    rw [List.take_add_one, List.getElem?_eq_getElem (show t < A.length by omega)]
    simp only [Option.toList_some, List.append_assoc, List.cons_append, List.nil_append]
   have eR : (X ++ A.take t) ++ y :: ([] ++ A[t] :: (A.drop (t + 1) ++ Y)) = X ++ (A.take t ++ y :: A.drop t) ++ Y := by rw [hd]; simp only [List.append_assoc, List.cons_append, List.nil_append]
   rw [eL] at T2
   have T3 := T2.jg ((Fr.refl _ w2).dr 1)
   obtain ⟨h1', h2', e1', e2', _, e3'⟩ := aiy (L := (X ++ A.take t) ++ A[t] :: ([] ++ y :: (A.drop (t + 1) ++ Y))) (i := a + t) (j := a + (t + 1)) rfl (by simp; omega) (by simp; omega)
   have d1 := uj T3 h1' e1'
   have d2 := uj T3 h2' e2'
   have i1 := fun w K => tx (g := g) (cap := cap) (show a + t < n by omega) w K
   have i2 := fun w K => tx (g := g) (cap := cap) (show a + (t + 1) < n by omega) w K
   have hw : IntKind.i64.wrap (((a + (t + 1) : Nat) : Int) - 1) = ((a + t : Nat) : Int) := by rw [ayo (by omega) (by omega)]; congr 1
   have b1 : ((a + t : Nat) : Int) < n := by omega
   have b2 : ((a + (t + 1) : Nat) : Int) < n := by omega
   simp [-Int.natCast_add, g0, hw, i1, i2, b1, b2, d1, d2]
   refine yn T3 h2' A[t] fun w4 T4 => ?_
   refine yn T4 (by rw [List.length_set]; exact h1') y fun w5 T5 => ?_
   rw [e3', eR] at T5
   refine ⟨⟨t, rfl, by omega, by omega, T5⟩, by simp [ms, gv]; omega⟩
  ·have htp' : ¬ ((a + p : Nat) : Int) < ((a + t : Nat) : Int) := by omega
   have hte : t = p := by omega
   subst hte
   simp only [htp', decide_false, Eng.cond_false]
   exact h w2 _ (aso hA hq h1 h2) (asi A y t) T2
set_option maxHeartbeats 1000000 in
theorem bbq : ∀ (d : Nat) {w : World} {X A B Y : List Spn} {a m b : Nat} (_ : St w0 w (kg (vS g n cap) (X ++ A ++ B ++ Y) :: R)) (_ : A.length + B.length ≤ d) (_ : n < 100000) (_ : X.length = a) (_ : a + A.length = m) (_ : m + B.length = b) (_ : 0 < A.length) (_ : 0 < B.length) (_ : nw A) (_ : nw B) {K : KV}
  (_ : ∀ w' C, nw C → C.Perm (A ++ B) → St w0 w' (kg (vS g n cap) (X ++ C ++ Y) :: R) → K (.tuple #[]) w'), gb P F.j [vS g n cap, .int .i64 (a : Nat), .int .i64 (m : Nat), .int .i64 (b : Nat), CF] w K := by
 intro d
 induction d with
 | zero => intro w X A B Y a m b S hd hn ha hm hb hA0 hB0; omega
 | succ d ih =>
 intro w X A B Y a m b S hd hn ha hm hb hA0 hB0 hA hB K h
 have hlen := td S
 simp only [List.length_append] at hlen
 by_cases hA1 : A.length = 1
 ·obtain ⟨x, rfl⟩ := List.length_eq_one_iff.1 hA1
  exact bir S hn ha hm hb hB fun w' C c1 c2 S' => h w' C c1 (by simpa using c2) S'
 by_cases hB1 : B.length = 1
 ·obtain ⟨y, rfl⟩ := List.length_eq_one_iff.1 hB1
  exact bhr S hn ha hm hb hA hA1 fun w' C c1 c2 S' => h w' C c1 (c2.trans (List.perm_append_comm (l₁ := [y]) (l₂ := A))) S'
 rw [M.a.fcall]
 apply M.a.calls
 unfold M.a
 have e0 : ¬ ((m - a : Nat) : Int) = 1 := by omega
 have e1 : ¬ ((b - m : Nat) : Int) = 1 := by omega
 simp only [kt, wrm (show a ≤ m by omega) (show m < 1000000 by omega), gg, te, e0, decide_false, Eng.cond_false]
 unfold M.a.j0
 simp only [kt, wrm (show m ≤ b by omega) (show b < 1000000 by omega), gg, te, e1, decide_false, Eng.cond_false]
 unfold M.a.j8
 simp only [kh, wra (show a + b < 1000000 by omega), hf1 (show a + b < 1000000 by omega), hf2 (show a + b < 1000000 by omega), hf3 (show (a + b) / 2 < 1000000 by omega), gg, qp]
 generalize hmid : (a + b) / 2 = mid
 simp only [wra (show mid + m < 1000000 by omega)]
 generalize hN : mid + m = N
 -- behind the choice of the search's bounds
 have main : ∀ (s0 r0 : Nat), s0 ≤ r0 → a ≤ s0 → r0 ≤ m → r0 ≤ mid → N ≤ s0 + b → (s0 = a ∨ s0 + b = N) → (r0 = mid ∨ r0 = m) → M.a.j16 (.int .i64 (N : Nat)) [.int .i64 (s0 : Nat), .int .i64 (r0 : Nat)] (vS g n cap) CF (.int .i64 (m : Nat)) (.int .i64 (a : Nat)) (.int .i64 (mid : Nat)) (.int .i64 (b : Nat)) w K := by
  intro s0 r0 hsr has hrm hrmid hNs hs0 hr0
  unfold M.a.j16
  have gs0 : gv [Value.int .i64 (s0 : Nat), .int .i64 (r0 : Nat)] 0 = .int .i64 (s0 : Nat) := rfl
  have gs1 : gv [Value.int .i64 (s0 : Nat), .int .i64 (r0 : Nat)] 1 = .int .i64 (r0 : Nat) := rfl
  simp only [kt, ayo (show 1 ≤ N by omega) (show N < 1000000 by omega), gg, gs0, gs1]
  refine ⟨S3I w0 s0 r0 N a m A B (kg (vS g n cap) (X ++ A ++ B ++ Y) :: R), fun v _ => ms v 2 - ms v 1, ⟨_, s0, r0, rfl, Nat.le_refl _, hsr, Nat.le_refl _, .inl rfl, .inl rfl, S⟩, ?_⟩
  rintro v w1 ⟨u, s, r, rfl, q1, q2, q3, c1, c2, T1⟩
  have g1 : gv [u, Value.int .i64 (s : Nat), .int .i64 (r : Nat)] 1 = .int .i64 (s : Nat) := rfl
  have g2 : gv [u, Value.int .i64 (s : Nat), .int .i64 (r : Nat)] 2 = .int .i64 (r : Nat) := rfl
  simp only [g1, g2, km]
  by_cases hlt : s < r
  ·have hlt' : (s : Int) < (r : Int) := by omega
   simp only [hlt', decide_true, Eng.cond_true]
   unfold M.a.j19
   simp only [g1, g2, kh, wra (show s + r < 1000000 by omega), hf1 (show s + r < 1000000 by omega), hf2 (show s + r < 1000000 by omega), hf3 (show (s + r) / 2 < 1000000 by omega)]
   generalize hcc : (s + r) / 2 = c
   have T2 := T1.jg ((Fr.refl _ w1).dr 1)
   have hcA : c - a < A.length := by omega
   have hcB : N - 1 - c - m < B.length := by omega
   obtain ⟨k1, x1⟩ := amc (X := X) (B := A) (Y := B ++ Y) (m := a) ha hcA
   obtain ⟨k2, x2⟩ := amc (X := X ++ A) (B := B) (Y := Y) (m := m) (by simp; omega) hcB
   have eL : X ++ A ++ (B ++ Y) = X ++ A ++ B ++ Y := by simp
   have ec : a + (c - a) = c := by omega
   have ep : m + (N - 1 - c - m) = N - 1 - c := by omega
   simp only [eL, ec] at k1 x1
   simp only [ep] at k2 x2
   have d1 := uj T2 k1 x1
   have d2 := uj T2 k2 x2
   have i1 := fun w K => tx (g := g) (cap := cap) (show c < n by omega) w K
   have i2 := fun w K => tx (g := g) (cap := cap) (show N - 1 - c < n by omega) w K
   have hw := wrm (show c ≤ N - 1 by omega) (show N - 1 < 1000000 by omega)
   have b1 : (c : Int) < n := by omega
   have b2 : ((N - 1 - c : Nat) : Int) < n := by omega
   simp [-Int.natCast_add, hw, i1, i2, b1, b2, d1, d2]
   refine ajx T2 B[N - 1 - c - m] A[c - a] fun w3 T3 => ?_
   by_cases hle : leS A[c - a] B[N - 1 - c - m]
   ·have hno : ¬ aam B[N - 1 - c - m] A[c - a] < 0 := fun hh => yj.1 hh hle
    simp [hno, -Int.natCast_add]
    rw [wr1 (by omega)]
    refine ⟨⟨_, c + 1, r, rfl, by omega, by omega, q3, .inr ?_, c2, by simpa using T3⟩, by simp [ms, gv]; omega⟩
    have e1 : c + 1 - 1 - a = c - a := by omega
    have e2 : N - (c + 1) - m = N - 1 - c - m := by omega
    simp only [e1, e2]
    exact ⟨hcA, hcB, hle⟩
   ·have hyes : aam B[N - 1 - c - m] A[c - a] < 0 := yj.2 hle
    simp [hyes, -Int.natCast_add]
    exact ⟨⟨_, s, c, rfl, q1, by omega, by omega, c1, .inr ⟨hcB, hcA, leS.of hle⟩, by simpa using T3⟩, by simp [ms, gv]; omega⟩
  ·have hlt' : ¬ (s : Int) < (r : Int) := by omega
   have hse : r = s := by omega
   subst hse
   simp only [hlt', decide_false, Eng.cond_false]
   unfold M.a.j17
   have he := wrm (show r ≤ N by omega) (show N < 1000000 by omega)
   have g1' : gv [u, Value.int .i64 (r : Nat), .int .i64 (r : Nat)] 1 = .int .i64 (r : Nat) := rfl
   have gu : gv [u, Value.int .i64 (r : Nat), .int .i64 (r : Nat)] 0 = u := rfl
   have g2' : gv [u, Value.int .i64 (r : Nat), .int .i64 (r : Nat)] 2 = .int .i64 (r : Nat) := rfl
   simp only [gu, g1', g2', kt, he, gg, km]
   -- the gk
   have htA : r - a ≤ A.length := by omega
   have htB : mid - r ≤ B.length := by omega
   have f1 : r - a = 0 ∨ mid - r = B.length ∨ ∃ (h1 : r - a - 1 < A.length) (h2 : mid - r < B.length), leS A[r - a - 1] B[mid - r] := by
    rcases c1 with hh | ⟨k1, k2, hh⟩
    ·rcases hs0 with h0 | h0
     ·exact .inl (by omega)
     ·exact .inr (.inl (by omega))
    ·have e1 : r - 1 - a = r - a - 1 := by omega
     have e2 : N - r - m = mid - r := by omega
     simp only [e1, e2] at k1 k2 hh
     exact .inr (.inr ⟨k1, k2, hh⟩)
   have f2 : mid - r = 0 ∨ r - a = A.length ∨ ∃ (h1 : mid - r - 1 < B.length) (h2 : r - a < A.length), leS B[mid - r - 1] A[r - a] := by
    rcases c2 with hh | ⟨k1, k2, hh⟩
    ·rcases hr0 with h0 | h0
     ·exact .inl (by omega)
     ·exact .inr (.inl (by omega))
    ·have e1 : N - 1 - r - m = mid - r - 1 := by omega
     simp only [e1] at k1 hh
     exact .inr (.inr ⟨k1, k2, hh⟩)
   have lA1 : (A.take (r - a)).length = r - a := by rw [List.length_take]; omega
   have lA2 : (A.drop (r - a)).length = m - r := by rw [List.length_drop]; omega
   have lB1 : (B.take (mid - r)).length = mid - r := by rw [List.length_take]; omega
   have lB2 : (B.drop (mid - r)).length = b - (N - r) := by rw [List.length_drop]; omega
   have hA1' := hA.sublist (List.take_sublist (r - a) A)
   have hA2' := hA.sublist (List.drop_sublist (r - a) A)
   have hB1' := hB.sublist (List.take_sublist (mid - r) B)
   have hB2' := hB.sublist (List.drop_sublist (mid - r) B)
   have fin : ∀ (C1 : List Spn) w2, nw C1 → C1.Perm (A.take (r - a) ++ B.take (mid - r)) → St w0 w2 (kg (vS g n cap) (X ++ C1 ++ A.drop (r - a) ++ B.drop (mid - r) ++ Y) :: R) →
     M.a.j21 (.int .i64 (mid : Nat)) (.int .i64 ((N - r : Nat) : Int)) (.int .i64 (b : Nat)) (vS g n cap) CF w2 K := by
    intro C1 w2 z1 z2 T2
    have hl1 := z2.length_eq
    rw [List.length_append, lA1, lB1] at hl1
    have ky : ∀ (C2 : List Spn) w3, nw C2 → C2.Perm (A.drop (r - a) ++ B.drop (mid - r)) → St w0 w3 (kg (vS g n cap) (X ++ C1 ++ C2 ++ Y) :: R) → K (.tuple #[]) w3 := fun C2 w3 y1 y2 T3 => by
     obtain ⟨r1, r2⟩ := aid hA hB htA htB f1 f2 z1 z2 y1 y2
     exact h w3 (C1 ++ C2) r1 r2 (by simpa using T3)
    unfold M.a.j21
    by_cases u1 : mid < N - r
    ·have u1' : (mid : Int) < ((N - r : Nat) : Int) := by omega
     by_cases u2 : N - r < b
     ·have u2' : ((N - r : Nat) : Int) < (b : Int) := by omega
      simp [u1', u2', -Int.natCast_add]
      have T3 : St w0 w2 (kg (vS g n cap) ((X ++ C1) ++ A.drop (r - a) ++ B.drop (mid - r) ++ Y) :: R) := T2
      refine ih T3 (by omega) hn (by rw [List.length_append]; omega) (by omega) (by omega) (by omega) (by omega) hA2' hB2' fun w3 C2 y1 y2 T4 => ?_
      exact ky C2 w3 y1 y2 T4
     ·have u2' : ¬ ((N - r : Nat) : Int) < (b : Int) := by omega
      simp [u1', u2', -Int.natCast_add]
      have e : B.drop (mid - r) = [] := List.length_eq_zero_iff.1 (by omega)
      rw [e] at T2 ky
      exact ky (A.drop (r - a)) w2 hA2' (by simp) (by simpa using T2)
    ·have u1' : ¬ (mid : Int) < ((N - r : Nat) : Int) := by omega
     simp [u1', -Int.natCast_add]
     have e : A.drop (r - a) = [] := List.length_eq_zero_iff.1 (by omega)
     rw [e] at T2 ky
     exact ky (B.drop (mid - r)) w2 hB2' (by simp) (by simpa using T2)
   have mid1 : ∀ w2, St w0 w2 (kg (vS g n cap) (X ++ A.take (r - a) ++ B.take (mid - r) ++ (A.drop (r - a) ++ B.drop (mid - r) ++ Y)) :: R) →
     M.a.j20 (.int .i64 (a : Nat)) [u, .int .i64 (r : Nat), .int .i64 (r : Nat)] (.int .i64 (mid : Nat)) (vS g n cap) CF (.int .i64 ((N - r : Nat) : Int)) (.int .i64 (b : Nat)) w2 K := by
    intro w2 T2
    unfold M.a.j20
    simp only [g1']
    by_cases u1 : a < r
    ·have u1' : (a : Int) < (r : Int) := by omega
     by_cases u2 : r < mid
     ·have u2' : (r : Int) < (mid : Int) := by omega
      simp [u1', u2', u1, u2]
      refine ih T2 (by omega) hn ha (by omega) (by omega) (by omega) (by omega) hA1' hB1' fun w3 C1 y1 y2 T4 => ?_
      exact fin C1 w3 y1 y2 (by simp only [List.append_assoc] at T4 ⊢; exact T4)
     ·have u2' : ¬ (r : Int) < (mid : Int) := by omega
      simp [u1', u2', u1, u2]
      have e : B.take (mid - r) = [] := List.length_eq_zero_iff.1 (by omega)
      rw [e] at T2 fin
      exact fin (A.take (r - a)) w2 hA1' (by simp) (by simp only [List.append_nil, List.nil_append, List.append_assoc] at T2 ⊢; exact T2)
    ·have u1' : ¬ (a : Int) < (r : Int) := by omega
     simp [u1', u1]
     have e : A.take (r - a) = [] := List.length_eq_zero_iff.1 (by omega)
     rw [e] at T2 fin
     exact fin (B.take (mid - r)) w2 hB1' (by simp) (by simp only [List.append_nil, List.nil_append, List.append_assoc] at T2 ⊢; exact T2)
   have eA : A = A.take (r - a) ++ A.drop (r - a) := (List.take_append_drop _ A).symm
   have eB : B = B.take (mid - r) ++ B.drop (mid - r) := (List.take_append_drop _ B).symm
   have T2 : St w0 w1 (kg (vS g n cap) ((X ++ A.take (r - a)) ++ A.drop (r - a) ++ B.take (mid - r) ++ (B.drop (mid - r) ++ Y)) :: R) := by
    have e : (X ++ A.take (r - a)) ++ A.drop (r - a) ++ B.take (mid - r) ++ (B.drop (mid - r) ++ Y) = X ++ A ++ B ++ Y := by
     have e : (X ++ A.take (r - a)) ++ A.drop (r - a) ++ B.take (mid - r) ++ (B.drop (mid - r) ++ Y) = X ++ (A.take (r - a) ++ A.drop (r - a)) ++ (B.take (mid - r) ++ B.drop (mid - r)) ++ Y := by simp only [List.append_assoc]
     rw [e, List.take_append_drop, List.take_append_drop]
    rw [e]; exact T1
   by_cases u1 : r < m
   ·have u1' : (r : Int) < (m : Int) := by omega
    by_cases u2 : m < N - r
    ·have u2' : (m : Int) < ((N - r : Nat) : Int) := by omega
     simp [u1', u2', u1, -Int.natCast_add]
     refine bjq T2 hn (by rw [List.length_append]; omega) (by omega) (by omega) (fun e => by rw [e] at lA2; simp at lA2; omega) (fun e => by rw [e] at lB1; simp at lB1; omega) fun w2 T3 => ?_
     exact mid1 w2 (by simp only [List.append_assoc] at T3 ⊢; exact T3)
    ·have u2' : ¬ (m : Int) < ((N - r : Nat) : Int) := by omega
     simp [u1', u2', u1, -Int.natCast_add]
     have e : B.take (mid - r) = [] := List.length_eq_zero_iff.1 (by omega)
     rw [e] at T2 mid1
     exact mid1 w1 (by simp only [List.append_nil, List.nil_append, List.append_assoc] at T2 ⊢; exact T2)
   ·have u1' : ¬ (r : Int) < (m : Int) := by omega
    simp [u1', u1, -Int.natCast_add]
    have e : A.drop (r - a) = [] := List.length_eq_zero_iff.1 (by omega)
    rw [e] at T2 mid1
    exact mid1 w1 (by simp only [List.append_nil, List.nil_append, List.append_assoc] at T2 ⊢; exact T2)
 by_cases hgt : mid < m
 ·have hgt' : (mid : Int) < (m : Int) := by omega
  simp only [hgt', decide_true, Eng.cond_true, kt, wrm (show b ≤ N by omega) (show N < 1000000 by omega)]
  exact main (N - b) mid (by omega) (by omega) (by omega) (Nat.le_refl _) (by omega) (.inr (by omega)) (.inl rfl)
 ·have hgt' : ¬ (mid : Int) < (m : Int) := by omega
  simp only [hgt', decide_false, Eng.cond_false]
  exact main a m (by omega) (Nat.le_refl _) (Nat.le_refl _) (by omega) (by omega) (.inl rfl) (.inr rfl)
end
set_option maxRecDepth 100000
open Go.Eng Go.Proofs.YtfnhoaemapheoaaGreat.Sint
def Blk (k : Nat) (Ls : List (List Spn)) : Prop := ∀ s ∈ Ls, s.length = k ∧ nw s
theorem ade {k : Nat} : ∀ {Ls : List (List Spn)}, Blk k Ls → Ls.flatten.length = Ls.length * k
 | [], _ => by simp
 | s :: r, h => by
  rw [List.flatten_cons, List.length_append, (h s (by simp)).1, ade (Ls := r) fun x hx => h x (List.mem_cons_of_mem _ hx), List.length_cons, Nat.add_mul]
  omega
theorem arn {k : Nat} {Ls : List (List Spn)} (h : Blk k Ls) {s : List Spn} (h1 : s.length = k) (h2 : nw s) : Blk k (Ls ++ [s]) := fun x hx => by
 rcases List.mem_append.1 hx with hx | hx
 ·exact h x hx
 ·rw [List.mem_singleton.1 hx]; exact ⟨h1, h2⟩
def bnh (w0 : World) (g n cap : Nat) (l : List Spn) (R : List Asn) : KL := fun v w1 => ∃ (a : Nat) (Ps : List (List Spn)) (Q : List Spn), v = [.int .i64 (a : Nat), .int .i64 ((a + 20 : Nat) : Int)] ∧ a = Ps.length * 20 ∧ Blk 20 Ps ∧ (Ps.flatten ++ Q).Perm l ∧ St w0 w1 (kg (vS g n cap) (Ps.flatten ++ Q) :: R)
def bni (w0 : World) (g n cap : Nat) (l : List Spn) (R : List Asn) : KL := fun v w1 => ∃ (u0 u1 u2 : Value) (k : Nat) (Ls : List (List Spn)) (z : List Spn), v = [u0, u1, u2, .int .i64 (k : Nat)] ∧ 20 ≤ k ∧ Blk k Ls ∧ z.length < k ∧ nw z ∧ (Ls.flatten ++ z).Perm l ∧ St w0 w1 (kg (vS g n cap) (Ls.flatten ++ z) :: R)
def bnf (w0 : World) (g n cap k : Nat) (l : List Spn) (R : List Asn) : KL := fun v w1 => ∃ (a : Nat) (Ps Ls : List (List Spn)) (z : List Spn), v = [.int .i64 (a : Nat), .int .i64 ((a + 2 * k : Nat) : Int)] ∧ a = Ps.length * (2 * k) ∧ a ≤ n ∧ Blk (2 * k) Ps ∧ Blk k Ls ∧ z.length < k ∧ nw z ∧ (Ps.flatten ++ (Ls.flatten ++ z)).Perm l ∧ St w0 w1 (kg (vS g n cap) (Ps.flatten ++ (Ls.flatten ++ z)) :: R)
section
variable {w0 w : World} {R : List Asn} {g n cap : Nat} {l : List Spn}
theorem axs (S : St w0 w (kg (vS g n cap) l :: R)) (hn : n < 100000) {k : Nat} (hk : k < n) (hk20 : 20 ≤ k) {Ls : List (List Spn)} {z : List Spn} (e : l = Ls.flatten ++ z) (hL : Blk k Ls) (hz : z.length < k) (hza : nw z) {u0 u1 u2 : Value} {K : KV} {K3 : KL}
  (h : ∀ w' y0 y1 y2 Ls z, Blk (2 * k) Ls → z.length < 2 * k → nw z → (Ls.flatten ++ z).Perm l → St w0 w' (kg (vS g n cap) (Ls.flatten ++ z) :: R) → K3 [y0, y1, y2, .int .i64 ((2 * k : Nat) : Int)] w') : M.b.j4 [u0, u1, u2, .int .i64 (k : Nat)] (.int .i64 (n : Nat)) (vS g n cap) CF K3 w K := by
 have hlen := td S
 unfold M.b.j4
 have g3 : gv [u0, u1, u2, Value.int .i64 (k : Nat)] 3 = .int .i64 (k : Nat) := rfl
 have wm : IntKind.i64.wrap (2 * (k : Int)) = ((2 * k : Nat) : Int) := by rw [gm (by omega) (by omega)]; omega
 have wm' : IntKind.i64.wrap ((k : Int) * 2) = ((2 * k : Nat) : Int) := by rw [gm (by omega) (by omega)]; omega
 simp only [g3, uk, wm, gg]
 refine ⟨bnf w0 g n cap k l R, fun v _ => n + 2 * k - ms v 1, ⟨0, [], Ls, z, by simp, by simp, Nat.zero_le _, fun s hs => by simp at hs, hL, hz, hza, by rw [e]; simp, by rw [List.flatten_nil, List.nil_append, ← e]; exact S⟩, ?_⟩
 rintro v w1 ⟨a, Ps, Ls, z, rfl, ha, han, hP, hL, hz, hza, hp, T1⟩
 have hlen2 := td T1
 have lP := ade hP
 have lL := ade hL
 simp only [List.length_append, lP, lL] at hlen2
 have g0 : gv [Value.int .i64 (a : Nat), .int .i64 ((a + 2 * k : Nat) : Int)] 0 = .int .i64 (a : Nat) := rfl
 have g1 : gv [Value.int .i64 (a : Nat), .int .i64 ((a + 2 * k : Nat) : Int)] 1 = .int .i64 ((a + 2 * k : Nat) : Int) := rfl
 simp only [g1, abi]
 by_cases hb : a + 2 * k ≤ n
 ·have hb' : ((a + 2 * k : Nat) : Int) ≤ n := by omega
  simp only [hb', decide_true, Eng.cond_true]
  unfold M.b.j7
  simp only [g0, g1, g3, kh, wra (show a + k < 1000000 by omega)]
  obtain ⟨s, t, Ls', rfl⟩ : ∃ s t Ls', Ls = s :: t :: Ls' := by
   match Ls with
   | [] => simp at hlen2; omega
   | [s] => simp at hlen2; omega
   | s :: t :: r => exact ⟨s, t, r, rfl⟩
  obtain ⟨s1, s2⟩ := hL s (by simp)
  obtain ⟨t1, t2⟩ := hL t (by simp)
  have eL : Ps.flatten ++ ((s :: t :: Ls').flatten ++ z) = Ps.flatten ++ s ++ t ++ (Ls'.flatten ++ z) := by simp
  rw [eL] at T1 hp
  refine bbq (g := g) (n := n) (cap := cap) _ T1 (Nat.le_refl _) hn (by omega) (by omega) (by omega) (by omega) (by omega) s2 t2 fun w2 C c1 c2 T2 => ?_
  have wb : IntKind.i64.wrap (((a + 2 * k : Nat) : Int) + ((2 * k : Nat) : Int)) = ((a + 2 * k + 2 * k : Nat) : Int) := wra (by omega)
  simp only [uk, wm, kh, wb]
  have hCl := c2.length_eq
  rw [List.length_append] at hCl
  refine ⟨⟨a + 2 * k, Ps ++ [C], Ls', z, rfl, by rw [List.length_append, List.length_singleton, Nat.add_mul, ha]; omega, by omega, arn hP (by omega) c1, fun x hx => hL x (by simp [hx]), hz, hza, ?_, by simpa using T2⟩, by simp [ms, gv]; omega⟩
  refine List.Perm.trans ?_ hp
  have e1 : (Ps ++ [C]).flatten ++ (Ls'.flatten ++ z) = Ps.flatten ++ C ++ (Ls'.flatten ++ z) := by simp
  have e2 : Ps.flatten ++ s ++ t ++ (Ls'.flatten ++ z) = Ps.flatten ++ (s ++ t) ++ (Ls'.flatten ++ z) := by simp
  rw [e1, e2]
  exact List.Perm.append_right _ (List.Perm.append_left _ c2)
 ·have hb' : ¬ ((a + 2 * k : Nat) : Int) ≤ n := by omega
  simp only [hb', decide_false, Eng.cond_false]
  unfold M.b.j5
  simp only [gg, g0, g3, kh, wra (show a + k < 1000000 by omega), km]
  by_cases hm : a + k < n
  ·have hm' : ((a + k : Nat) : Int) < n := by omega
   simp only [hm', decide_true, Eng.cond_true]
   obtain ⟨s, rfl⟩ : ∃ s, Ls = [s] := by
    match Ls with
    | [] => simp at hlen2; omega
    | [s] => exact ⟨s, rfl⟩
    | s :: t :: r => simp only [List.length_cons, Nat.add_mul] at hlen2; omega
   obtain ⟨s1, s2⟩ := hL s (by simp)
   simp only [List.length_singleton, Nat.one_mul] at hlen2
   have eL : Ps.flatten ++ ([s].flatten ++ z) = Ps.flatten ++ s ++ z ++ [] := by simp
   rw [eL] at T1 hp
   refine bbq (g := g) (n := n) (cap := cap) _ T1 (Nat.le_refl _) hn (by omega) (by omega) (by omega) (by omega) (by omega) s2 hza fun w2 C c1 c2 T2 => ?_
   simp only [uk, wm']
   have hCl := c2.length_eq
   rw [List.length_append] at hCl
   refine h w2 _ _ _ Ps C hP (by omega) c1 ?_ (by simpa using T2)
   refine List.Perm.trans ?_ hp
   have e2 : Ps.flatten ++ s ++ z ++ [] = Ps.flatten ++ (s ++ z) := by simp
   rw [e2]
   exact List.Perm.append_left _ c2
  ·have hm' : ¬ ((a + k : Nat) : Int) < n := by omega
   simp only [hm', decide_false, Eng.cond_false, uk, wm']
   match Ls, hL, lL, hlen2, hp, T1 with
   | [], hL, lL, hlen2, hp, T1 => exact h w1 _ _ _ Ps z hP (by omega) hza (by simpa using hp) (by simpa using T1)
   | [s], hL, lL, hlen2, hp, T1 =>
    obtain ⟨s1, s2⟩ := hL s (by simp)
    simp only [List.length_singleton, Nat.one_mul] at hlen2
    have hz0 : z = [] := List.length_eq_zero_iff.1 (by omega)
    subst hz0
    exact h w1 _ _ _ Ps s hP (by omega) s2 (by simpa using hp) (by simpa using T1)
   | s :: t :: r, hL, lL, hlen2, hp, T1 => simp only [List.length_cons, Nat.add_mul] at hlen2; omega
theorem bay (S : St w0 w (kg (vS g n cap) l :: R)) (hn : n < 100000) {K : KV}
  (h : ∀ w' l', nw l' → l'.Perm l → St w0 w' (kg (vS g n cap) l' :: R) → K (.tuple #[]) w') : gb P F.bh [vS g n cap, .int .i64 (n : Nat), CF] w K := by
 rw [M.b.fcall]
 apply M.b.calls
 unfold M.b
 simp only [gg]
 refine ⟨bnh w0 g n cap l R, fun v _ => n + 20 - ms v 1, ⟨0, [], l, by simp, rfl, fun s hs => by simp at hs, by simp, by simpa using S⟩, ?_⟩
 rintro v w1 ⟨a, Ps, Q, rfl, ha, hP, hp, T1⟩
 have hlen2 := td T1
 have lP := ade hP
 simp only [List.length_append, lP] at hlen2
 have g0 : gv [Value.int .i64 (a : Nat), .int .i64 ((a + 20 : Nat) : Int)] 0 = .int .i64 (a : Nat) := rfl
 have g1 : gv [Value.int .i64 (a : Nat), .int .i64 ((a + 20 : Nat) : Int)] 1 = .int .i64 ((a + 20 : Nat) : Int) := rfl
 unfold M.b.j1
 simp only [gg, g0, g1, abi]
 by_cases hb : a + 20 ≤ n
 ·have hb' : ((a + 20 : Nat) : Int) ≤ n := by omega
  simp only [hb', decide_true, Eng.cond_true]
  have eQ : Ps.flatten ++ Q = Ps.flatten ++ Q.take 20 ++ Q.drop 20 := by rw [List.append_assoc, List.take_append_drop]
  rw [eQ] at T1 hp
  have lQ : (Q.take 20).length = 20 := by rw [List.length_take]; omega
  refine bbn (a := a) (b := a + 20) T1 hn (by omega) (by omega) fun w2 C c1 c2 T2 => ?_
  have hw : IntKind.i64.wrap (((a + 20 : Nat) : Int) + 20) = ((a + 20 + 20 : Nat) : Int) := by rw [gm (by omega) (by omega)]; omega
  simp only [kh, hw]
  have hCl := c2.length_eq
  refine ⟨⟨a + 20, Ps ++ [C], Q.drop 20, rfl, by rw [List.length_append, List.length_singleton, Nat.add_mul, ha], arn hP (by omega) c1, ?_, by simpa using T2⟩, by simp [ms, gv]; omega⟩
  refine List.Perm.trans ?_ hp
  have e1 : (Ps ++ [C]).flatten ++ Q.drop 20 = Ps.flatten ++ C ++ Q.drop 20 := by simp
  rw [e1]
  exact List.Perm.append_right _ (List.Perm.append_left _ c2)
 ·have hb' : ¬ ((a + 20 : Nat) : Int) ≤ n := by omega
  simp only [hb', decide_false, Eng.cond_false]
  unfold M.b.j0
  have T1' : St w0 w1 (kg (vS g n cap) (Ps.flatten ++ Q ++ []) :: R) := by simpa using T1
  simp only [g0, g1]
  refine bbn (a := a) (b := n) T1' hn (by omega) (by omega) fun w2 C c1 c2 T2 => ?_
  have hCl := c2.length_eq
  refine ⟨bni w0 g n cap l R, fun v _ => n - ms v 3, ⟨_, _, _, 20, Ps, C, rfl, Nat.le_refl _, hP, by omega, c1, (List.Perm.append_left _ c2).trans hp, by simpa using T2⟩, ?_⟩
  rintro v w3 ⟨u0, u1, u2, k, Ls, z, rfl, hk20, hL, hz, hza, hp3, T3⟩
  have g3 : gv [u0, u1, u2, Value.int .i64 (k : Nat)] 3 = .int .i64 (k : Nat) := rfl
  simp only [gg, g3, km]
  by_cases hkn : k < n
  ·have hkn' : (k : Int) < n := by omega
   simp only [hkn', decide_true, Eng.cond_true]
   refine axs T3 hn hkn hk20 rfl hL hz hza fun w4 y0 y1 y2 Ls' z' b1 b2 b3 b4 T4 => ?_
   exact ⟨⟨y0, y1, y2, 2 * k, Ls', z', rfl, by omega, b1, b2, b3, b4.trans hp3, T4⟩, by simp [ms, gv]; omega⟩
  ·have hkn' : ¬ (k : Int) < n := by omega
   simp only [hkn', decide_false, Eng.cond_false]
   have hlen3 := td T3
   have lL := ade hL
   simp only [List.length_append, lL] at hlen3
   refine h w3 _ ?_ hp3 T3
   match Ls, hL, hlen3 with
   | [], _, _ => simpa using hza
   | [s], hL, hlen3 =>
    obtain ⟨s1, s2⟩ := hL s (by simp)
    simp only [List.length_singleton, Nat.one_mul] at hlen3
    have hz0 : z = [] := List.length_eq_zero_iff.1 (by omega)
    subst hz0
    simpa using s2
   | s :: t :: r, hL, hlen3 => simp only [List.length_cons, Nat.add_mul] at hlen3; omega
theorem anh {v : Value} (S : St w0 w R) (hs : SlS w v l) (hlen : l.length ≤ 1000000) {K : KV} (h : ∀ w' v', St w0 w' (kg v' l :: R) → K v' w') : gb P F.g [v] w K := by
 rw [M.i.fcall]
 apply M.i.calls
 unfold M.i
 simp only [gg]
 have hs' := hs
 obtain ⟨a, cap, rfl, _⟩ := hs'
 cases a with
 | none =>
  simp
  have hz : l = [] := by
   obtain ⟨a', cap', hv, _, _, h3⟩ := hs
   cases l with
   | nil => rfl
   | cons x l =>
    obtain ⟨b, o, ha, _⟩ := h3 0 x rfl
    injection hv with h1 _ _
    rw [← h1] at ha; cases ha
  subst hz
  exact h w _ (Eng.qz S)
 | some a =>
  simp
  have S1 : St w0 (w.alloc (.cells #[] T.e)) (kg (.slice (some ⟨w.heap.size, 0, none⟩) 0 0) [] :: R) := St.uy (l := ([] : List Spn)) S lk rfl (by simp)
  refine Go.Eng.ud et.c lk nq S1 (hs.fr ((Fr.refl (fun _ => False) w).alloc _) fun _ _ _ h => h) (by simp; omega) (by decide) fun w2 v2 S2 => ?_
  exact h w2 v2 S2
theorem bdt {v : Value} (S : St w0 w R) (hs : SlS w v l) (hne : l ≠ []) (hlen : l.length < 100000) {K : KV} (h : ∀ w' v' l', nw l' → l'.Perm l → St w0 w' (kg v' l' :: R) → K v' w') : gb P F.eu [v] w K := by
 rw [M.ej.fcall]
 apply M.ej.calls
 unfold M.ej
 refine anh S hs (by omega) fun w1 v1 S1 => ?_
 obtain ⟨b, cap, cur, rfl, _⟩ := S1.alt (k := 0) (List.length_pos_iff.2 hne)
 rw [M.aj.fcall]
 apply M.aj.calls
 unfold M.aj
 have hl : ∀ w' K, biT P .len #[T.c] T.b [false] [vS b l.length cap] w' K = K (.int .i64 l.length) w' := fun w' K => (S1.row lk : SlS w1 _ l).im (by kernel_rfl) [false]
 rw [hl]
 refine bay S1 hlen fun w2 l' c1 c2 S2 => ?_
 exact h w2 _ l' c1 c2 S2
end
set_option maxRecDepth 100000
open Go.Eng Go.Proofs.YtfnhoaemapheoaaGreat.Sint
abbrev TC := Int × Nat × Nat
abbrev trB (tb mr : Nat) (b : Bal) : Asn := gp tb #[.map (some mr), .int .u64 b.n, .int .u64 b.iy] T.am
def tcA (es : List EnS) (c : TC) : Asn := pg [trB c.2.1 c.2.2 (bOf es c.1), ji c.2.2 .u64 (oo (mo es c.1))]
def mmE (cs : List TC) : MP := cs.map fun c => (c.1, jv c.2.1)
abbrev ki (es : List EnS) (cs : List TC) : Asn := pg (cs.map (tcA es))
def rp (q hb : Nat) (es : List EnS) (L : Lg) (dn : Bool) : Asn where
 ok w B := ∃ p r cs, cs.map (·.1) = qf es ∧ Rs [jw q hb p r dn, ji r .u64 (mmE cs), ki es cs, lj p hb L] w B
 jy := by
  rintro w w' B S ⟨p, r, cs, h1, h2⟩ hf hn
  exact ⟨p, r, cs, h1, h2.jy hf hn⟩
theorem apy : ∀ {m : MP} {k : Int} {v : Value}, (ke m).Nodup → (k, v) ∈ m → lb m k = some v
 | [], _, _, _, h => by simp at h
 | (y, u) :: m, k, v, hn, h => by
  show (if y = k then some u else lb m k) = some v
  simp only [ke, List.map_cons, List.nodup_cons] at hn
  rcases List.mem_cons.1 h with h | h
  ·cases h; simp
  ·by_cases hy : y = k
   ·exact absurd (List.mem_map.2 ⟨_, h, hy.symm⟩) hn.1
   ·rw [if_neg hy]; exact apy hn.2 h
theorem aux (cs : List TC) : ke (mmE cs) = cs.map (·.1) := by unfold ke mmE; rw [List.map_map]; rfl
theorem ali {cs : List TC} {t : Int} (h : t ∉ cs.map (·.1)) : lb (mmE cs) t = none := (afe _ _).2 (by rw [aux]; exact h)
theorem ame {cs : List TC} (hn : (cs.map (·.1)).Nodup) {j : Nat} (hj : j < cs.length) : lb (mmE cs) cs[j].1 = some (jv cs[j].2.1) :=
 apy (by rw [aux]; exact hn) (List.mem_map.2 ⟨cs[j], List.getElem_mem hj, rfl⟩)
section
variable {w0 w : World} {R : List Asn} {q hb p r : Nat} {es : List EnS} {L : Lg} {dn : Bool} {cs : List TC} {x : Spn} {b : Bal}
theorem awh (S : St w0 w (rp q hb es L dn :: R)) : ∃ p r cs, cs.map (·.1) = qf es ∧ St w0 w (jw q hb p r dn :: ji r .u64 (mmE cs) :: ki es cs :: lj p hb L :: R) := by
 obtain ⟨B, ⟨p, r, cs, h1, h2⟩, _, cl⟩ := S.open
 exact ⟨p, r, cs, h1, cl w [jw q hb p r dn, ji r .u64 (mmE cs), ki es cs, lj p hb L] (Fr.refl _ _) (h2.mono fun b hb => .inl hb)⟩
theorem awx (h : cs.map (·.1) = qf es) (S : St w0 w (jw q hb p r dn :: ji r .u64 (mmE cs) :: ki es cs :: lj p hb L :: R)) : St w0 w (rp q hb es L dn :: R) := by
 obtain ⟨U, h4, _, g⟩ := St.aaz (L := [jw q hb p r dn, ji r .u64 (mmE cs), ki es cs, lj p hb L]) (R := R) S
 exact g w [rp q hb es L dn] (Fr.refl _ _) ⟨U, ⟨p, r, cs, h, h4⟩, fun b hb => .inl hb, trivial⟩
theorem apc (b : Bal) {c : TC} (h : x.il ≠ c.1) : tcA (es ++ [(b, x)]) c = tcA es c := by
 unfold tcA
 rw [aii, if_neg h, azt b x h]
theorem apg {j : Nat} (hj : j < cs.length) (S : St w0 w (ki es cs :: R)) : St w0 w (trB cs[j].2.1 cs[j].2.2 (bOf es cs[j].1) :: ji cs[j].2.2 .u64 (oo (mo es cs[j].1)) :: pg ((cs.map (tcA es)).eraseIdx j) :: R) := by
 have S1 := St.aka (j := j) (by simpa using hj) S
 rw [List.getElem_map] at S1
 exact St.all.1 S1
theorem bgy {j : Nat} (hj : j < cs.length) (hn : (cs.map (·.1)).Nodup) (hx : cs[j].1 = x.il) (S : St w0 w (trB cs[j].2.1 cs[j].2.2 (bOf (es ++ [(b, x)]) x.il) :: ji cs[j].2.2 .u64 (oo (mo es x.il ++ [x])) :: pg ((cs.map (tcA es)).eraseIdx j) :: R)) : St w0 w (ki (es ++ [(b, x)]) cs :: R) := by
 have S1 : St w0 w (tcA (es ++ [(b, x)]) cs[j] :: pg ((cs.map (tcA es)).eraseIdx j) :: R) := by
  refine St.all.2 ?_
  rw [hx, aii, if_pos rfl]
  exact S
 have S2 := St.ala (j := j) (by simpa using hj) S1
 have e : (cs.map (tcA es)).set j (tcA (es ++ [(b, x)]) cs[j]) = cs.map (tcA (es ++ [(b, x)])) := by
  refine List.ext_getElem (by simp) fun i h1 h2 => ?_
  simp only [List.getElem_set, List.getElem_map]
  split
  ·rename_i h; subst h; rfl
  ·rename_i h
   have hi : i < cs.length := by simpa using h2
   have hne : x.il ≠ cs[i].1 := fun e => by
    have hp := List.pairwise_iff_getElem.1 (List.nodup_iff_pairwise_ne.1 hn)
    simp only [List.length_map, List.getElem_map] at hp
    rcases Nat.lt_or_gt_of_ne h with h' | h'
    ·exact hp j i hj hi h' (hx.trans e)
    ·exact hp i j hi hj h' (hx.trans e).symm
   exact (apc b hne).symm
 rw [e] at S2
 exact S2
theorem ain (hc : cs.map (·.1) = qf es) {t : Int} (ht : t ∈ qf es) : ∃ (j : Nat) (hj : j < cs.length), cs[j].1 = t := by
 rw [← hc] at ht
 obtain ⟨j, hj, h⟩ := List.mem_iff_getElem.1 ht
 exact ⟨j, by simpa using hj, by simpa using h⟩
end
def vj : Spn := ⟨0, 0, 0, 0, 0, ⟨#[]⟩, ⟨#[]⟩, false⟩
theorem aqd (l : List Spn) (k : Int) : ∃ s, (lb (oo l) k).getD (.agg #[.int .u64 0, .int .u64 0, .int .u64 0, .int .u64 0, .int .u64 0, .string ⟨#[]⟩, .string ⟨#[]⟩, .bool false]) = jx s := by
 unfold oo
 rw [aru (fun s : Spn => s.id) jx]
 cases l.find? fun s => decide (s.id = k) with
 | none => exact ⟨vj, rfl⟩
 | some s => exact ⟨s, rfl⟩
section
variable {w0 w : World} {R : List Asn} {q hb p r : Nat} {es : List EnS} {L : Lg} {dn : Bool} {cs : List TC}
theorem bgz (S : St w0 w (jw q hb p r dn :: ji r .u64 (mmE cs) :: ki es cs :: R)) (hc : cs.map (·.1) = qf es) (x : Spn) {K : KV} (h : ∀ w', Fr (fun _ => False) w w' → K (.bool (wq es x)) w') : gb P F.an [jv q, jx x] w K := by
 have hq := S.blk
 have hr := (tt S.swap).1
 rw [M.bl.fcall]
 apply M.bl.calls
 unfold M.bl jv
 refine St.sx (St.jh w) fun b w1 S1 => ?_
 have S1' : St w w1 (spB b x :: []) := S1
 have S2 := S1'.jg ((Fr.refl _ w1).dr 1)
 have f2 := S2.fr
 have c2 : gi (dr w1 1) q 2 = some (.map (some r)) := by rw [gj (f2.heap hq fun h => h)]; rfl
 have x0 : gi (dr w1 1) b 0 = some (.int .u64 x.il) := by rw [S2.cell]; rfl
 have l2 := fun K => aay mt.x (hr.vh (f2.jy r hr.lt fun h => h)) x.il K
 by_cases ht : x.il ∈ qf es
 ·obtain ⟨j, hj, hjt⟩ := ain hc ht
  have hn : (cs.map (·.1)).Nodup := by rw [hc]; exact afr es
  have hg := ame hn hj
  rw [hjt] at hg
  have Sc := apg hj S.up2
  have hb := Sc.blk
  have hm := (tt Sc.swap).1
  rw [hjt] at hm
  generalize cs[j].2.1 = tb at *
  generalize cs[j].2.2 = mr at *
  simp [c2, x0, l2, hg, jv]
  unfold M.bl.j0
  have S3 := S2.jg ((Fr.refl _ (dr w1 1)).dr 1)
  simp only [so]
  generalize dr (dr w1 1) 1 = w3 at *
  have f3 := S3.fr
  have d0 : gi w3 tb 0 = some (.map (some mr)) := by rw [gj (f3.heap hb fun h => h)]; rfl
  have x1 : gi w3 b 1 = some (.int .u64 x.id) := by rw [S3.cell]; rfl
  have l3 := fun K => ahl mt.r (hm.vh (f3.jy mr hm.lt fun h => h)) x.id K
  have S4 : St w (w3.alloc (.cells (gy vj).toArray T.e)) (spB w3.heap.size vj :: spB b x :: []) := S3.mkB (gy vj).toArray T.e
  have e4 : w3.alloc (.cells (gy vj).toArray T.e) = w3.alloc (.cells #[.int .u64 0, .int .u64 0, .int .u64 0, .int .u64 0, .int .u64 0, .string ⟨#[]⟩, .string ⟨#[]⟩, .bool false] T.e) := rfl
  rw [e4] at S4
  have f4 := S4.fr
  have d0' : gi (w3.alloc (.cells #[.int .u64 0, .int .u64 0, .int .u64 0, .int .u64 0, .int .u64 0, .string ⟨#[]⟩, .string ⟨#[]⟩, .bool false] T.e)) tb 0 = some (.map (some mr)) := by rw [gj (f4.heap hb fun h => h)]; rfl
  have x1' : gi (w3.alloc (.cells #[.int .u64 0, .int .u64 0, .int .u64 0, .int .u64 0, .int .u64 0, .string ⟨#[]⟩, .string ⟨#[]⟩, .bool false] T.e)) b 1 = some (.int .u64 x.id) := by rw [S4.swap.cell]; rfl
  have l4 := fun K => ahl mt.r (hm.vh (f4.jy mr hm.lt fun h => h)) x.id K
  have hhas := arz es x
  obtain ⟨s, hs⟩ := aqd (mo es x.il) x.id
  rw [hs, hhas] at l3 l4
  simp [d0, x1, l3, d0', x1', l4]
  rw [xe]
  refine St.put (vs := gy s) (cs' := (gy s).toArray) S4 (nq s) (by simp [gy]) rfl fun w5 S5 => ?_
  exact h w5 S5.fr
 ·have hg := ali (cs := cs) (t := x.il) (by rw [hc]; exact ht)
  have hh : wq es x = false := by
   rw [aml, aer ht]; rfl
  rw [hh] at h
  simp [c2, x0, l2, hg]
  exact h _ S2.fr
end
set_option maxRecDepth 100000
open Go.Eng Go.Proofs.YtfnhoaemapheoaaGreat.Sint
section
variable {w0 w : World} {R : List Asn} {q hb p r tb mr xb bb : Nat} {es : List EnS} {L : Lg} {dn : Bool} {cs : List TC} {x : Spn} {b bt : Bal} {l : List Spn}
theorem aex (S : St w0 w (trB tb mr b :: R)) : gi w tb 0 = some (.map (some mr)) ∧ ∀ K, ldN P 2 tb 1 w K = K (kj b) w :=
 ⟨by rw [S.cell]; rfl, fun K => S.ldA [.int .u64 b.n, .int .u64 b.iy] rfl rfl K⟩
theorem sm (S : St w0 w (spB xb x :: R)) : gi w xb 0 = some (.int .u64 x.il) ∧ gi w xb 1 = some (.int .u64 x.id) ∧ ∀ K, ldN P 8 xb 0 w K = K (jx x) w :=
 ⟨by rw [S.cell]; rfl, by rw [S.cell]; rfl, fun K => S.ldA (n := 8) (i := 0) (gy x) rfl rfl K⟩
theorem azm (h : lb (oo l) x.id = none) : sd (oo l) x.id (jx x) = oo (l ++ [x]) := by
 rw [aqe h]
 unfold oo
 simp
theorem auk (S : St w0 w (trB tb mr bt :: ji mr .u64 (oo l) :: spB xb x :: baB bb b :: R)) {K : KV}
  (h1 : (lb (oo l) x.id).isSome = true → ∀ w', St w0 w' (trB tb mr bt :: ji mr .u64 (oo l) :: R) → K (.tuple #[]) w')
  (h2 : (lb (oo l) x.id).isSome = false → ∀ w', St w0 w' (trB tb mr (ta ic [bt, b]) :: ji mr .u64 (oo (l ++ [x])) :: R) → K (.tuple #[]) w') :
  M.bk.j0 [jv tb] (.pointer (some ⟨xb, 0, none⟩)) (.pointer (some ⟨bb, 0, none⟩)) w K := by
 unfold M.bk.j0 jv
 simp only [so]
 have S1 := S.jg ((Fr.refl _ w).dr 1)
 generalize dr w 1 = w1 at *
 obtain ⟨c0, _⟩ := aex S1
 obtain ⟨_, x1, _⟩ := sm S1.up2
 have l1 := fun K => ahl mt.r (tt S1.swap).1 x.id K
 have S2 : St w0 (w1.alloc (.cells #[.int .u64 0, .int .u64 0, .int .u64 0, .int .u64 0, .int .u64 0, .string ⟨#[]⟩, .string ⟨#[]⟩, .bool false] T.e)) (spB w1.heap.size vj :: _) := S1.mkB (gy vj).toArray T.e
 obtain ⟨c0', _⟩ := aex S2.swap
 obtain ⟨_, x1', _⟩ := sm S2.up3
 have l1' := fun K => ahl mt.r (tt S2.up2).1 x.id K
 obtain ⟨s, hs⟩ := aqd l x.id
 rw [hs] at l1 l1'
 have g0 : gv [Value.pointer (some ⟨tb, 0, none⟩)] 0 = .pointer (some ⟨tb, 0, none⟩) := rfl
 cases hh : (lb (oo l) x.id).isSome with
 | true =>
  rw [hh] at l1 l1'
  simp [c0, x1, l1, c0', x1', l1']
  rw [xe]
  refine St.put (vs := gy s) (cs' := (gy s).toArray) S2 (nq s) (by simp [gy]) rfl fun w5 S5 => ?_
  have S6 := (S5.drop.up2.drop).up2.drop
  exact h1 hh w5 S6
 | false =>
  rw [hh] at l1 l1'
  simp [c0, x1, l1, c0', x1', l1']
  rw [xe]
  refine St.put (vs := gy s) (cs' := (gy s).toArray) S2 (nq s) (by simp [gy]) rfl fun w5 S5 => ?_
  have S6 := S5.drop.jg ((Fr.refl _ w5).dr 1)
  generalize dr w5 1 = w6 at *
  obtain ⟨d0, _⟩ := aex S6
  obtain ⟨_, y1, yl⟩ := sm S6.up2
  simp [d0, y1, yl]
  refine aos mt.r (tt S6.swap).1 x.id _ _ fun ob hob => ?_
  have S7 := asu S6.swap hob
  rw [azm (by simpa using hh)] at S7
  generalize World.setObj w6 mr ob = w7 at *
  have S8 := S7.swap.jg ((Fr.refl _ w7).dr 1)
  generalize dr w7 1 = w8 at *
  obtain ⟨_, e1⟩ := aex S8
  obtain ⟨_, _, bl⟩ := qn S8.up3
  have S9 : St w0 (w8.alloc (.cells #[.int .u64 bt.n, .int .u64 bt.iy, .int .u64 b.n, .int .u64 b.iy] T.d)) (ni T.d 2 ajf (.slice (some ⟨w8.heap.size, 0, none⟩) 2 2) [bt, b] :: _) := St.uy (l := [bt, b]) S8 amy rfl (by simp [maxLen])
  simp [e1, bl]
  unfold kj
  simp
  refine bks S9 (fun w' L' S' => (S'.perm List.perm_middle).row amy) (by simp) fun w9 S10 => ?_
  have S11 : St w0 w9 (trB tb mr bt :: ji mr .u64 (oo (l ++ [x])) :: spB xb x :: baB bb b :: R) := S10.drop
  generalize ta ic [bt, b] = bm at *
  unfold kj
  simp
  refine St.put (i := 1) (vs := [.int .u64 bm.n, .int .u64 bm.iy]) (cs' := #[.map (some mr), .int .u64 bm.n, .int .u64 bm.iy]) S11 (by simp [jz]) (by simp) rfl fun w12 S12 => ?_
  exact h2 hh w12 (S12.up2.drop.up2.drop)
theorem avi (S : St w0 w (jw q hb p r dn :: ji r .u64 (mmE cs) :: ki es cs :: R)) (hc : cs.map (·.1) = qf es) (hr : ∀ e ∈ es, e.1.rng) (b : Bal) (x : Spn) {K : KV}
  (h : ∀ w' cs', cs'.map (·.1) = qf (ll b es x) → St w0 w' (jw q hb p r dn :: ji r .u64 (mmE cs') :: ki (ll b es x) cs' :: R) → K (.tuple #[]) w') : gb P F.cq [jv q, kj b, jx x] w K := by
 rw [M.bk.fcall]
 apply M.bk.calls
 unfold M.bk
 refine St.sx S fun bb w1 S1 => ?_
 have S1' : St w0 w1 (baB bb b :: jw q hb p r dn :: ji r .u64 (mmE cs) :: ki es cs :: R) := S1
 refine St.sx S1' fun xb w2 S2 => ?_
 have S2' : St w0 w2 (spB xb x :: baB bb b :: jw q hb p r dn :: ji r .u64 (mmE cs) :: ki es cs :: R) := S2
 simp only [so]
 have S3 := S2'.jg ((Fr.refl _ w2).dr 1)
 generalize dr w2 1 = w3 at *
 obtain ⟨x0, _, _⟩ := sm S3
 obtain ⟨_, _, c2, _⟩ := uo S3.up2
 have l1 := fun K => aay mt.x (tt S3.up3).1 x.il K
 by_cases ht : x.il ∈ qf es
 ·obtain ⟨j, hj, hjt⟩ := ain hc ht
  have hn : (cs.map (·.1)).Nodup := by rw [hc]; exact afr es
  have hg := ame hn hj
  rw [hjt] at hg
  unfold jv at hg
  unfold jv
  simp [c2, x0, l1, hg]
  have S4 : St w0 w3 (ki es cs :: spB xb x :: baB bb b :: jw q hb p r dn :: ji r .u64 (mmE cs) :: R) := S3.up4
  have S5 := apg hj S4
  rw [hjt] at S5
  have S6 : St w0 w3 (trB cs[j].2.1 cs[j].2.2 (bOf es x.il) :: ji cs[j].2.2 .u64 (oo (mo es x.il)) :: spB xb x :: baB bb b :: pg ((cs.map (tcA es)).eraseIdx j) :: jw q hb p r dn :: ji r .u64 (mmE cs) :: R) := S5.perm (List.Perm.cons _ (List.Perm.cons _ (List.perm_middle (l₁ := [spB xb x, baB bb b])).symm))
  have hh := arz es x
  refine auk S6 (fun hs w4 S7 => ?_) (fun hs w4 S7 => ?_)
  ·rw [hh] at hs
   have e : ll b es x = es := by unfold ll; rw [if_pos hs]
   rw [e] at h
   refine h w4 cs hc ?_
   have S8 : St w0 w4 (tcA es cs[j] :: pg ((cs.map (tcA es)).eraseIdx j) :: jw q hb p r dn :: ji r .u64 (mmE cs) :: R) := by
    refine St.all.2 ?_
    rw [hjt]
    exact S7
   have S9 := St.ala (j := j) (by simpa using hj) S8
   have e2 : (cs.map (tcA es)).set j (tcA es cs[j]) = cs.map (tcA es) := by
    rw [← List.getElem_map (tcA es) (h := by simpa using hj), List.set_getElem_self]
   rw [e2] at S9
   exact St.dn2 S9
  ·rw [hh] at hs
   have e : ll b es x = es ++ [(b, x)] := by unfold ll; rw [if_neg (by simp [hs])]
   rw [e] at h
   rw [← aph hr b x] at S7
   have S8 := bgy hj hn hjt S7
   refine h w4 cs ?_ (St.dn2 S8)
   rw [asw, hc]
   unfold acu
   rw [if_pos ht]
 ·have hg := ali (cs := cs) (t := x.il) (by rw [hc]; exact ht)
  unfold jv
  simp [c2, x0, l1, hg]
  rw [ajg]
  have S4 := auo S3
  generalize w3.heap.size = mr at *
  generalize w3.alloc _ = w4 at *
  simp
  have S5 : St w0 (w4.alloc (.cells #[.map (some mr), .int .u64 0, .int .u64 0] T.am)) (trB w4.heap.size mr ic :: _) := S4.mkB #[.map (some mr), .int .u64 0, .int .u64 0] T.am
  generalize w4.heap.size = tb at *
  generalize w4.alloc _ = w5 at *
  have S6 := S5.jg ((Fr.refl _ w5).dr 1)
  generalize dr w5 1 = w6 at *
  obtain ⟨y0, _, _⟩ := sm S6.up2
  obtain ⟨_, _, d2, _⟩ := uo S6.up4
  simp [y0, d2]
  have S7 : St w0 w6 (ji r .u64 (mmE cs) :: trB tb mr ic :: ji mr .u64 [] :: spB xb x :: baB bb b :: jw q hb p r dn :: ki es cs :: R) := up5 S6
  refine aos mt.x (tt S7).1 x.il _ _ fun ob hob => ?_
  have S8 := asu S7 hob
  generalize World.setObj w6 r ob = w8 at *
  have em : sd (mmE cs) x.il (.pointer (some ⟨tb, 0, none⟩)) = mmE (cs ++ [(x.il, tb, mr)]) := by
   rw [aqe hg]
   unfold mmE
   simp [jv]
  rw [em] at S8
  have S9 : St w0 w8 (trB tb mr ic :: ji mr .u64 (oo []) :: spB xb x :: baB bb b :: ji r .u64 (mmE (cs ++ [(x.il, tb, mr)])) :: jw q hb p r dn :: ki es cs :: R) := St.dn4 S8
  refine auk S9 (fun hs => by simp [oo, lb] at hs) (fun _ w9 S10 => ?_)
  have hs : wq es x = false := by rw [aml, aer ht]; rfl
  have e : ll b es x = es ++ [(b, x)] := by unfold ll; rw [if_neg (by simp [hs])]
  rw [e] at h
  have hb0 : bOf es x.il = ic := by unfold bOf; rw [bfd ht]; rfl
  have hb1 := aph hr b x
  rw [hb0] at hb1
  rw [← hb1] at S10
  refine h w9 (cs ++ [(x.il, tb, mr)]) ?_ ?_
  ·rw [asw, List.map_append, hc]
   unfold acu
   rw [if_neg ht]
   rfl
  ·have S11 : St w0 w9 (tcA (es ++ [(b, x)]) (x.il, tb, mr) :: ji r .u64 (mmE (cs ++ [(x.il, tb, mr)])) :: jw q hb p r dn :: ki es cs :: R) := by
    refine St.all.2 ?_
    show St w0 w9 (trB tb mr (bOf (es ++ [(b, x)]) x.il) :: ji mr .u64 (oo (mo (es ++ [(b, x)]) x.il)) :: _)
    rw [aii, if_pos rfl, aer ht]
    exact S10
   have S12 : St w0 w9 (ki es cs :: tcA (es ++ [(b, x)]) (x.il, tb, mr) :: jw q hb p r dn :: ji r .u64 (mmE (cs ++ [(x.il, tb, mr)])) :: R) := (S11.up3).perm (List.Perm.cons _ (List.Perm.cons _ (List.Perm.swap _ _ _)))
   have ec : cs.map (tcA (es ++ [(b, x)])) = cs.map (tcA es) := by
    refine List.map_congr_left fun c hcm => apc b fun he => ht ?_
    rw [← hc, he]
    exact List.mem_map_of_mem hcm
   have S13 := St.all.1 S12
   have S14 : St w0 w9 (ki (es ++ [(b, x)]) (cs ++ [(x.il, tb, mr)]) :: jw q hb p r dn :: ji r .u64 (mmE (cs ++ [(x.il, tb, mr)])) :: R) := by
    refine St.all.2 ?_
    rw [List.map_append, ec, List.append_assoc]
    exact S13
   exact St.dn2 S14
end
end Go.Proofs.YtfnhoaemapheoaaGreat
set_option maxRecDepth 100000
namespace Go.Proofs.YtfnhoaemapheoaaGreat.KeyT
open Go.Eng Go.Sort Go.Proofs.YtfnhoaemapheoaaGreat.Suint64
theorem aeq {w : World} {it r : Nat} {k : IntKind} {m : MP} {done : List Int} (h : yx w it r k m done) : done.Nodup ∧ ∀ x ∈ done, x ∈ ke m := by
 obtain ⟨es, clk, since, c0, jd, _, _, _, _, _, _, _, _, _, h1, h2⟩ := h
 exact ⟨h1, h2⟩
end Go.Proofs.YtfnhoaemapheoaaGreat.KeyT
set_option maxRecDepth 100000
namespace Go.Proofs.YtfnhoaemapheoaaGreat
open Go.Eng Go.Proofs.YtfnhoaemapheoaaGreat.Sint
theorem bgj : awj P T.c T.e jx gy 8 80 where
 et := et.c
 by5 := by decide
 ld := fun b i w K => Eq.trans (by kernel_rfl) rfl
 st := fun b i a n c w K => Eq.trans (by kernel_rfl) rfl
 bs := fun x w K => Eq.trans (by kernel_rfl) rfl
 len := lk
 one := nq
 ne := by decide
theorem bjr : bgk P T.e jx gy 8 vj where
 al := fun w K => Eq.trans (by kernel_rfl) rfl
 sv := fun b x w K => xe b 0 x w K
 lv := fun b x w K h => by
  have e : ldT P T.e (.pointer (some ⟨b, 0, none⟩)) w K = ldN P 8 b 0 w K := by simp
  rw [e]
  exact rh (gy x) 8 rfl h K
theorem atp {g : FuncId} {gn : Func} (hg : P.funcs[g]? = some gn) (hgn : (gn.name == "runtime.NumGoroutine") = false) (hgb : gn.body.isNone = false) {cap : List Value} {w : World} {Out : List Spn → Prop} (hs : alw P g cap jx Out 60000 w) {K : KV}
  (h : ∀ w' v xs, Out xs → Ow w' w.heap.size T.e 8 gy v xs → Fr (fun _ => False) w w' → K v w') : jr P F.bc [.func (.func g) #[] cap.toArray] w K := by
 apply M.br.calls
 unfold M.br
 have hf : ∀ (args : List Value) (w : World) (K : KV), gb P F.f args w K = jr P F.f args w K := fun args w K => agh FN.f.at (by kernel_rfl) (by kernel_rfl) args w K
 rw [hf]
 exact agk (tQ := T.bg) (bap bgj bjr) bgj.ld FN.f.at (by kernel_rfl) (by kernel_rfl) (by kernel_rfl) hg hgn hgb hs h
def VsI (w W : World) (r : Nat) (l : List Spn) (J : List Spn → Asn) : KL := fun x w1 => ∃ (ps : List Spn) (U1 : Nat → Prop), x.length = 0 ∧ yx w1 W.heap.size r .u64 (oo l) (ps.map Spn.id).reverse ∧ (∀ s ∈ ps, s ∈ l) ∧ (J ps).ok w1 U1 ∧ (∀ b, U1 b → w.heap.size ≤ b ∧ b < w1.heap.size ∧ b ≠ W.heap.size) ∧ Fr (fun b => w.heap.size ≤ b) W w1
theorem bal (l : List Spn) : ke (oo l) = l.map Spn.id := by unfold ke oo; rw [List.map_map]; rfl
theorem bfw {w : World} {r Bm : Nat} {l : List Spn} {e : TypeId} (hm : pk w r .u64 (oo l)) (hn : (l.map Spn.id).Nodup) (hB : w.heap[Bm]? = some (.cells #[.map (some r)] e (0, 0))) (hl : l.length < 60000) :
  alw P F.a [.pointer (some ⟨Bm, 0, none⟩)] jx (fun xs => xs.Perm l) 60000 w := by
 intro lp J W U K hf hJ hU hround hend
 apply M.m.calls
 unfold M.m
 have hnk : (ke (oo l)).Nodup := by rw [bal]; exact hn
 have hBm : W.heap[Bm]? = some (.cells #[.map (some r)] e (0, 0)) := hf.heap hB fun h => h
 have c0 := gj hBm 0
 simp only [List.size_toArray, List.getElem?_toArray, List.getElem?_cons_zero] at c0
 have hm' : pk W r .u64 (oo l) := hm.vh (hf.jy r hm.lt fun h => h)
 have hrw := hm.lt
 simp [c0]
 refine aza mt.r hm' fun w1 hi f1 => ?_
 have hWs := hf.size
 have hWlt := (hi.lt).1
 refine ⟨VsI w W r l J, fun _ w1 => wh w1 W.heap.size (oo l).length, ⟨[], U, rfl, hi, by simp, (J []).jy hJ f1 fun _ _ h => h, fun b hb => ?_, f1.mono fun _ _ h => h.elim⟩, ?_⟩
 ·have := hU b hb
  have := f1.size
  exact ⟨by omega, by omega, by omega⟩
 rintro x w2 ⟨ps, U1, hx1, hi2, hps, hJ2, hU2, f2⟩
 obtain ⟨hd1, hd2⟩ := KeyT.aeq hi2
 replace hd1 := (List.reverse_perm (ps.map Spn.id)).nodup_iff.1 hd1
 refine bce hi2 hnk T.bi (fun hall => ?_) fun y v w3 hy hyd hc3 f3 hlt => ?_
 ·have e0 : ∀ w K, exT P (.tuple #[.bool false]) 0 w K = K (.bool false) w := fun _ _ => rfl
  simp [e0]
  refine hend _ w2 ps U1 ?_ hJ2 f2
  have n1 : ps.Nodup := by
   rw [List.nodup_iff_pairwise_ne, List.pairwise_map] at hd1
   exact List.nodup_iff_pairwise_ne.2 (hd1.imp fun h e => h (by rw [e]))
  have n2 : l.Nodup := by
   have := hn
   rw [List.nodup_iff_pairwise_ne, List.pairwise_map] at this
   exact List.nodup_iff_pairwise_ne.2 (this.imp fun h e => h (by rw [e]))
  refine (List.perm_ext_iff_of_nodup n1 n2).2 fun z => ⟨hps z, fun hz => ?_⟩
  have hz' := hall (z.id, jx z) (List.mem_map.2 ⟨z, hz, rfl⟩)
  rw [List.mem_reverse] at hz'
  obtain ⟨z', hz1, hz2⟩ := List.mem_map.1 hz'
  have : z' = z := xm hn (hps z' hz1) hz hz2
  rw [← this]; exact hz1
 ·obtain ⟨s, hs, he⟩ := List.mem_map.1 hy
  cases he
  simp
  unfold M.m.j1
  rw [bcd hc3]
  simp
  have hnit : ∀ b, U1 b → ¬ b = W.heap.size := fun b hb => (hU2 b hb).2.2
  have hJ3 := (J ps).jy hJ2 f3 hnit
  have hlen : ps.length < l.length := by
   have := uz (l := s.id :: ps.map Spn.id) (l' := l.map Spn.id) (List.nodup_cons.2 ⟨by simpa using hyd, hd1⟩) fun z hz => by
    rcases List.mem_cons.1 hz with rfl | hz
    ·exact List.mem_map_of_mem hs
    ·obtain ⟨z', hz1, rfl⟩ := List.mem_map.1 hz
     exact List.mem_map_of_mem (hps z' hz1)
   simp only [List.length_map, List.length_cons] at this
   omega
  have hs3 := f3.size
  -- the span's own block
  have Sx : St w3 (w3.alloc (.cells #[.int .u64 0, .int .u64 0, .int .u64 0, .int .u64 0, .int .u64 0, .string ⟨#[]⟩, .string ⟨#[]⟩, .bool false] T.e)) (spB w3.heap.size vj :: []) := (St.jh w3).mkB (gy vj).toArray T.e
  rw [xe]
  refine St.put (vs := gy s) (cs' := (gy s).toArray) Sx (nq s) (by simp [gy]) rfl fun w4 S4 => ?_
  obtain ⟨_, _, sl⟩ := sm S4
  have f4 := S4.fr
  simp [sl]
  have hJ4 := (J ps).jy hJ3 f4 fun _ _ h => h
  have hs4 := f4.size
  refine hround ps s w4 U1 _ hJ4 (fun b hb => ⟨(hU2 b hb).1, by have := (hU2 b hb).2.1; omega⟩) (by omega) fun w5 U5 hJ5 hU5 f5 => ?_
  simp
  have hit : ¬ U1 W.heap.size := fun h => hnit _ h rfl
  have hr1 : ¬ U1 r := fun h => by have := (hU2 r h).1; omega
  have hi3 : yx w3 W.heap.size r .u64 (oo l) (s.id :: (ps.map Spn.id).reverse) := hc3.1
  have hi4 := hi3.jy (f4.jy _ hi3.lt.1 fun h => h) (f4.jy _ hi3.lt.2 fun h => h)
  have hi5 := hi4.jy (f5.jy _ hi4.lt.1 hit) (f5.jy _ hi4.lt.2 hr1)
  refine ⟨⟨ps ++ [s], U5, rfl, by simpa using hi5, fun z hz => ?_, hJ5, fun b hb => ?_, ?_⟩, ?_⟩
  ·rcases List.mem_append.1 hz with hz | hz
   ·exact hps z hz
   ·rw [List.mem_singleton.1 hz]; exact hs
  ·have := hi4.lt.1
   have := hi3.lt.1
   have := f5.size
   have := f2.size
   rcases hU5 b hb with h | h
   ·have := hU2 b h
    exact ⟨by omega, by omega, by omega⟩
   ·exact ⟨by omega, by omega, by omega⟩
  ·refine ((f2.me f3 fun b hb he => by omega).me f4 fun b hb he => he.elim).me f5 fun b hb he => (hU2 b he).1
  ·have : wh w5 W.heap.size (oo l).length = wh w3 W.heap.size (oo l).length := by
    unfold wh
    rw [f5.jy _ hi4.lt.1 hit, f4.jy _ hi3.lt.1 fun h => h]
   rw [this]; exact hlt
theorem bih {w : World} {r : Nat} {l : List Spn} (hm : pk w r .u64 (oo l)) (hn : (l.map Spn.id).Nodup) (hl : l.length < 60000) {K : KV}
  (h : ∀ w' v xs, xs.Perm l → Ow w' w.heap.size T.e 8 gy v xs → Fr (fun _ => False) w w' → K v w') :
  gb P F.ae [.map (some r)] w fun t w => gb P F.bc [t] w K := by
 rw [M.v.fcall]
 apply M.v.calls
 unfold M.v
 rw [xc, aku]
 show gb P F.bc _ _ K
 rw [M.br.fcall]
 have f1 : Fr (fun _ => False) w (w.alloc (.cells #[.map (some r)] T.r)) := (Fr.refl _ w).alloc _
 have hB : (w.alloc (.cells #[.map (some r)] T.r)).heap[w.heap.size]? = some (.cells #[.map (some r)] T.r (0, 0)) := by rw [ie, if_pos rfl]
 have hsz : w.heap.size ≤ (w.alloc (.cells #[.map (some r)] T.r)).heap.size := by simp
 refine atp FN.a.at (by kernel_rfl) (by kernel_rfl) (bfw (hm.vh (f1.jy r hm.lt fun h => h)) hn hB hl) fun w2 v xs hx o2 f2 => ?_
 exact h w2 v xs hx (o2.mono hsz) (f1.trans f2)
set_option maxRecDepth 100000
theorem bbk {es : List EnS} (h : vp es) (t : Int) : ((mo es t).map Spn.id).Nodup := by
 unfold mo
 rw [List.nodup_iff_pairwise_ne, List.map_map, List.pairwise_map]
 refine (List.Pairwise.filter _ h).imp_of_mem fun {a b} ha hb hab he => hab ⟨?_, he⟩
 have h1 := (List.mem_filter.1 ha).2
 have h2 := (List.mem_filter.1 hb).2
 simp only [isE, decide_eq_true_eq] at h1 h2
 rw [h1, h2]
theorem als (es : List EnS) (t : Int) : (mo es t).length ≤ es.length := by
 unfold mo
 rw [List.length_map]
 exact List.length_filter_le _ _
theorem bjm {es : List EnS} {t : Int} (h : t ∈ qf es) : mo es t ≠ [] := by
 obtain ⟨e, he, ht⟩ := alo.1 h
 intro hn
 have : e.2 ∈ mo es t := avw.2 ⟨e.1, he, ht⟩
 rw [hn] at this
 simp at this
section
variable {w0 w : World} {R : List Asn} {q hb : Nat} {es : List EnS} {L : Lg} {dn : Bool}
theorem zz (S : St w0 w (rp q hb es L dn :: R)) (hu : vp es) (hl : es.length < 60000) (t : Int) {K : KV}
  (h : ∀ w' v' l', nw l' → l'.Perm (mo es t) → St w0 w' (rdA 8 gy v' l' :: rp q hb es L dn :: R) → K v' w') : gb P F.bb [jv q, .int .u64 t] w K := by
 obtain ⟨p, r, cs, hc, S1⟩ := awh S
 rw [M.bi.fcall]
 apply M.bi.calls
 unfold M.bi jv
 obtain ⟨_, _, c2, _⟩ := uo S1
 have l1 := fun K => aay mt.x (tt S1.swap).1 t K
 by_cases ht : t ∈ qf es
 ·obtain ⟨j, hj, hjt⟩ := ain hc ht
  have hn : (cs.map (·.1)).Nodup := by rw [hc]; exact afr es
  have hg := ame hn hj
  rw [hjt] at hg
  have Sc := apg hj S1.up2
  have hb := Sc.blk
  have hm := (tt Sc.swap).1
  rw [hjt] at hm
  generalize cs[j].2.1 = tb at *
  generalize cs[j].2.2 = mr at *
  have d0 : gi w tb 0 = some (.map (some mr)) := by rw [gj hb]; rfl
  simp [c2, l1, hg, jv]
  unfold M.bi.j0
  simp [c2, l1, hg, jv, d0]
  refine bih hm (bbk hu t) (by have := als es t; omega) fun w2 v xs hx o2 f2 => ?_
  have hxl := hx.length_eq
  have hne : xs ≠ [] := fun e => bjm ht (by rw [e] at hx; exact hx.symm.eq_nil)
  have S2 := S.jg f2
  refine bdt S2 (o2.sl lk) hne (by have := als es t; omega) fun w3 v3 l3 g1 g2 S3 => ?_
  refine h w3 v3 l3 g1 (g2.trans hx) ?_
  obtain ⟨B, ⟨k1, k2⟩, hB, cl⟩ := S3.open
  exact cl w3 [rdA 8 gy v3 l3] (Fr.refl _ _) (Rs.one (B := B) ⟨k1.sl lk, k2⟩ fun x hx => .inl hx)
 ·have hg := ali (cs := cs) (t := t) (by rw [hc]; exact ht)
  simp [c2, l1, hg]
  refine h w _ [] List.Pairwise.nil (by rw [aer ht]) ?_
  exact S.add (Fr.refl _ w) (B := fun _ => False) ⟨Sl.nil, fun b hb => by simp [Value.ownBlock] at hb⟩ fun b hb => hb.elim
end
set_option maxRecDepth 100000
open Go.Eng Go.Proofs.YtfnhoaemapheoaaGreat.Sint
def bmx (w0 : World) (g n cap : Nat) (pf : Spn → Bool) (l : List Spn) (R : List Asn) : KL := fun v w1 => ∃ (i j : Nat) (l' : List Spn), v = [.int .i64 (i : Nat), .int .i64 (j : Nat)] ∧ i < j ∧ j ≤ n ∧ l'.take i = (l.take j).filter (fun x => !pf x) ∧ l'.drop j = l.drop j ∧ St w0 w1 (kg (vS g n cap) l' :: R)
section
variable {w0 w : World} {R : List Asn} {v fv : Value} {l : List Spn} {pf : Spn → Bool} {g n cap : Nat}
theorem bjk (S : St w0 w (kg v l :: R)) : St w0 w (rdA 8 gy v l :: R) := by
 obtain ⟨B, ⟨k1, k2⟩, hB, cl⟩ := S.open
 exact cl w [rdA 8 gy v l] (Fr.refl _ _) (Rs.one (B := B) ⟨k1.sl lk, k2⟩ fun x hx => .inl hx)
theorem amb.mono (h : amb w0 R fv pf) (X : List Asn) : amb w0 (X ++ R) fv pf := fun w' L x K S' hK => h w' (L ++ X) x K (by rw [List.append_assoc]; exact S') hK
theorem bip (S : St w0 w (kg v l :: R)) (hf : amb w0 R fv pf) (hl : l.length ≤ 100000) {K : KV}
  (h : ∀ w' v', St w0 w' (rdA 8 gy v' (l.filter fun x => !pf x) :: R) → K v' w') : gb P F.aw [v, fv] w K := by
 rw [M.f.fcall]
 apply M.f.calls
 unfold M.f
 refine azx S (fun w' L S' => (S'.perm List.perm_middle).row lk) (hf.mono [kg v l]) (by omega) (fun hno w1 S1 => ?_) fun i hi hpi hpre w1 S1 => ?_
 ·simp
  have e : (l.filter fun x => !pf x) = l := List.filter_eq_self.2 fun x hx => by rw [hno x hx]; rfl
  have := h w1 v
  rw [e] at this
  exact this (bjk S1)
 ·have hne : ¬ ((i : Int) = -1) := by omega
  simp [hne]
  unfold M.f.j0
  obtain ⟨g, cap, cur, rfl, _, n1, _⟩ := S1.alt (k := i) hi
  clear S
  obtain ⟨n, hn⟩ : ∃ n, l.length = n := ⟨_, rfl⟩
  rw [hn] at S1 ⊢
  simp only [gg, kh, wr1 (show i < 1000000 by omega)]
  have hlenT : ∀ w' K, biT P .len #[T.c] T.b [false] [vS g n cap] w' K = K (.int .i64 n) w' := fun w' K => by simp
  have t0 : l.take i = (l.take (i + 1)).filter fun x => !pf x := by
   rw [List.take_add_one, List.getElem?_eq_getElem hi, List.filter_append]
   have e1 : (l.take i).filter (fun x => !pf x) = l.take i := List.filter_eq_self.2 fun x hx => by
    obtain ⟨k, hk, rfl⟩ := List.mem_iff_getElem.1 hx
    rw [List.length_take] at hk
    rw [List.getElem_take, hpre k (by omega) (by omega)]; rfl
   rw [e1]
   simp [hpi]
  refine ⟨bmx w0 g n cap pf l R, fun v _ => n - ms v 1, ⟨i, i + 1, l, rfl, by omega, by omega, t0, rfl, S1⟩, ?_⟩
  clear t0 S1
  rintro v w2 ⟨i, j, l', rfl, hij, hjn, ht, hd, S2⟩
  have hl' := td S2
  have g0 : gv [Value.int .i64 (i : Nat), .int .i64 (j : Nat)] 0 = .int .i64 (i : Nat) := rfl
  have g1 : gv [Value.int .i64 (i : Nat), .int .i64 (j : Nat)] 1 = .int .i64 (j : Nat) := rfl
  unfold M.f.j2
  simp only [gg, hlenT, g0, g1, km]
  by_cases hj : j < n
  ·have hj' : (j : Int) < (n : Int) := by omega
   simp only [hj', decide_true, Eng.cond_true]
   unfold M.f.j3
   simp only [gg, g0, g1]
   have hjl : j < l.length := by omega
   have hjl' : j < l'.length := by omega
   have ej : l'[j] = l[j] := by
    have e1 := List.drop_eq_getElem_cons hjl'
    have e2 := List.drop_eq_getElem_cons hjl
    rw [e1, e2] at hd
    exact (List.cons.inj hd).1
   have ed : l'.drop (j + 1) = l.drop (j + 1) := by
    have e1 := List.drop_eq_getElem_cons hjl'
    have e2 := List.drop_eq_getElem_cons hjl
    rw [e1, e2] at hd
    exact (List.cons.inj hd).2
   have ef : (l.take (j + 1)).filter (fun x => !pf x) = (l.take j).filter (fun x => !pf x) ++ (if pf l[j] = true then [] else [l[j]]) := by
    rw [List.take_add_one, List.getElem?_eq_getElem hjl, List.filter_append]
    congr 1
    cases hp : pf l[j] <;> simp [hp]
   have i1 := fun w K => tx (g := g) (cap := cap) hj w K
   have i2 := fun w K => tx (g := g) (cap := cap) (show i < n by omega) w K
   have d1 := uj S2 hjl' ej
   simp [i1, d1, hj]
   have S3 : St w0 (w2.alloc (.cells #[.int .u64 0, .int .u64 0, .int .u64 0, .int .u64 0, .int .u64 0, .string ⟨#[]⟩, .string ⟨#[]⟩, .bool false] T.e)) (spB w2.heap.size vj :: _) := S2.mkB (gy vj).toArray T.e
   generalize w2.heap.size = sb at *
   generalize w2.alloc _ = w3 at *
   rw [xe]
   refine St.put (vs := gy l[j]) (cs' := (gy l[j]).toArray) S3 (nq _) (by simp [gy]) rfl fun w4 S4 => ?_
   obtain ⟨_, _, sl⟩ := sm S4
   simp [sl]
   refine hf w4 [spB sb l[j], kg (vS g n cap) l'] l[j] _ S4 fun w5 f5 => ?_
   have S5 := S4.jg f5
   obtain ⟨_, _, sl5⟩ := sm S5
   cases hp : pf l[j] with
   | true =>
    rw [hp] at ef
    simp only [if_true, List.append_nil] at ef
    simp
    rw [wr1 (by omega)]
    exact ⟨⟨i, j + 1, l', rfl, by omega, by omega, by rw [ef]; exact ht, ed, S5.drop⟩, by simp [ms, gv]; omega⟩
   | false =>
    rw [hp] at ef
    simp only [Bool.false_eq_true, if_false] at ef
    have hi2 : (i : Int) < n := by omega
    simp [sl5, i2, hi2]
    refine yn S5.drop (show i < l'.length by omega) l[j] fun w6 S6 => ?_
    rw [wr1 (show i < 1000000 by omega), wr1 (show j < 1000000 by omega)]
    refine ⟨⟨i + 1, j + 1, l'.set i l[j], rfl, by omega, by omega, ?_, ?_, S6⟩, by simp [ms, gv]; omega⟩
    ·rw [ef, ← ht, List.take_add_one, List.getElem?_set_self (by omega), List.take_set_of_le (Nat.le_refl i)]
     rfl
    ·rw [List.drop_set_of_lt (by omega)]
     exact ed
  ·have hj' : ¬ (j : Int) < (n : Int) := by omega
   have hje : j = n := by omega
   simp only [hj', decide_false, Eng.cond_false]
   have gx : gv [Value.int .i64 (j : Nat), .int .i64 (i : Nat)] 1 = .int .i64 (i : Nat) := rfl
   have hin : i < n := by omega
   have e1 : ∀ w' K, slT P T.c (vS g n cap) (some (.int .i64 (i : Nat))) none none w' K = K (.slice (some ⟨g, i * 8, none⟩) (n - i) (cap - i)) w' := fun w' K => by
    rw [blo (by kernel_rfl) (by omega) (by omega), show szE P T.c = 8 from by kernel_rfl]
    have : ¬ cap = i := by omega
    simp [this]
   have e2 : ∀ w' K, slT P T.c (vS g n cap) none (some (.int .i64 (i : Nat))) none w' K = K (vS g i cap) w' := fun w' K => by
    rw [bgn (by kernel_rfl) (by omega) (by omega)]
    simp
   simp only [gx, e1]
   refine beo (by' := 80) et.c (by kernel_rfl) lk S2 hin fun w3 S3 => ?_
   rw [e2]
   refine h w3 _ ?_
   rw [ht, hje, List.take_of_length_le (by omega)] at S3
   exact S3
end
set_option maxRecDepth 100000
open Go.Eng Go.Proofs.YtfnhoaemapheoaaGreat.Sint
abbrev osL (q hb p r : Nat) (es : List EnS) (cs : List TC) (lv : Value) (vs : List SV) (ii : List (List Int)) (L : Lg) (D : Dk) (R : List Asn) : List Asn :=
 jw q hb p r false :: ji r .u64 (mmE cs) :: ki es cs :: Eng.kw T.f 1 qa lv vs :: pg (pi vs ii) :: lj p hb L :: ig hb D :: R
def OsI (w0 : World) (q hb p r : Nat) (lv : Value) (vs : List SV) (ms : List WrM) (L : Lg) (D : Dk) (R : List Asn) : KL := fun x w1 => ∃ (i : Nat) (cs : List TC), gv x 9 = .int .i64 (i : Nat) ∧ i ≤ ms.length ∧ cs.map (·.1) = qf (jt (ms.take i)) ∧ St w0 w1 (osL q hb p r (jt (ms.take i)) cs lv vs (ms.map pr) L D R)
def OsJ (w0 : World) (q hb p r : Nat) (es : List EnS) (b : Bal) (l : List Spn) (X : List Asn) : KL := fun x w1 => ∃ (j : Nat) (cs : List TC), x = [.int .i64 (j : Nat)] ∧ j ≤ l.length ∧ cs.map (·.1) = qf ((l.take j).foldl (ll b) es) ∧ St w0 w1 (jw q hb p r false :: ji r .u64 (mmE cs) :: ki ((l.take j).foldl (ll b) es) cs :: X)
section
variable {w0 w : World} {R : List Asn} {q hb p r : Nat} {L : Lg} {D D' : Dk} {G : Nat} {s f : Int} {ib : Int} {Q' : List Prt} {ms : List WrM}
theorem avs {es : List EnS} (h : xk es) : ∀ e ∈ es, e.1.rng := fun e he => (h.rng e he).1
theorem bfk (S : St w0 w (ig hb D :: R)) (hmx : ib < 9223372036854775808) (eo : zu D ib = ((D', some Q'), 0)) (g : qq s f ⟨ib, Q'⟩ G D') (es : (Lg.my ⟨ib, Q'⟩ D').2 = 0) (hr : jf Q' = ms.map pr) (hok : ∀ m ∈ ms, okM m) {K : KV}
  (h : ∀ w' q, St w0 w' (rp q hb (jt ms) ⟨ib, Q'⟩ false :: ig hb (Lg.my ⟨ib, Q'⟩ D').1 :: R) → K (.tuple #[jv q, .int .i64 0]) w') : gb P F.dl [.pointer (some ⟨hb, 0, none⟩), .int .i64 ib] w K := by
 rw [M.ap.fcall]
 apply M.ap.calls
 unfold M.ap
 refine bjf S hmx (fun w2 hn _ => by rw [eo] at hn; cases hn) fun w2 p qs hs S2 => ?_
 rw [eo] at hs S2
 have hqs : qs = Q' := by simpa using (congrArg (·.1.2) hs).symm
 subst hqs
 simp only at S2
 simp only [jv]
 simp
 unfold M.ap.j0
 rw [ajg]
 have S3 := auo S2
 have z3 : (w2.alloc (.map #[] 0)).heap.size = w2.heap.size + 1 := jl _ _
 generalize hrr : w2.heap.size = r at *
 generalize w2.alloc (.map #[] 0) = w3 at *
 have e : jp P T.aj #[(0, .pointer (some ⟨hb, 0, none⟩)), (1, .pointer (some ⟨p, 0, none⟩)), (2, .map (some r))] w3 = fun K => K (.agg (aik hb p r false)) w3 := by funext K; simp [aik]
 rw [e]
 refine St.sx S3 fun q w4 S4 => ?_
 have S4c : St w0 w4 (ki [] [] :: gp q (aik hb p r false) T.aj :: ji r .u64 [] :: lj p hb ⟨ib, qs⟩ :: ig hb D' :: R) := St.all.2 S4
 have S5 : St w0 w4 (lj p hb ⟨ib, qs⟩ :: ig hb D' :: jw q hb p r false :: ji r .u64 (mmE []) :: ki [] [] :: R) := S4c.perm ((List.perm_append_comm (l₁ := [ki [] [], jw q hb p r false, ji r .u64 (mmE [])]) (l₂ := [lj p hb ⟨ib, qs⟩, ig hb D'])).append_right R |>.trans (List.Perm.cons _ (List.Perm.cons _ (List.perm_middle (l₁ := [jw q hb p r false, ji r .u64 (mmE [])])).symm)))
 simp
 refine bdg S5 g fun w5 rv S6 => ?_
 have hlen := fun w' K => aed S6 w' K
 have hall := app S6.swap.drop.swap g
 obtain ⟨vs, hvs, S6u⟩ := adv S6
 simp only at hlen S6 hall S6u
 rw [hr] at hlen hvs S6u hall
 rw [List.length_map] at hlen hall hvs
 have S7 : St w0 w5 (osL q hb p r (jt (ms.take 0)) [] rv vs (ms.map pr) ⟨ib, qs⟩ D' R) := S6u.perm ((List.perm_append_comm (l₁ := [Eng.kw T.f 1 qa rv vs, pg (pi vs (ms.map pr)), lj p hb ⟨ib, qs⟩, ig hb D']) (l₂ := [jw q hb p r false, ji r .u64 (mmE []), ki [] []])).append_right R)
 simp [hlen]
 refine ⟨OsI w0 q hb p r rv vs ms ⟨ib, qs⟩ D' R, fun x _ => ms.length - Eng.ms x 9, ⟨0, [], rfl, Nat.zero_le _, rfl, S7⟩, ?_⟩
 rintro x w6 ⟨i, cs, e9, hi, hc, S8⟩
 have hm9 : Eng.ms x 9 = i := by unfold Eng.ms; rw [e9]; simp
 unfold M.ap.j2
 rw [e9]
 by_cases hil : i < ms.length
 ·have hwi : IntKind.i64.wrap ((i : Int) + 1) = ((i + 1 : Nat) : Int) := by rw [gm (by omega) (by omega)]; rfl
  have hili : (i : Int) < (ms.length : Int) := by omega
  simp [hil]
  unfold M.ap.j3
  rw [e9]
  obtain ⟨okb, okn, oks, okt, okl⟩ := hok _ (List.getElem_mem hil)
  have hivs : i < vs.length := by omega
  have Srow : St w0 w6 (Eng.kw T.f 1 qa rv vs :: jw q hb p r false :: ji r .u64 (mmE cs) :: ki (jt (ms.take i)) cs :: pg (pi vs (ms.map pr)) :: lj p hb ⟨ib, qs⟩ :: ig hb D' :: R) := St.up3 S8
  obtain ⟨b, o, cap, hv, _, _, hcc⟩ := (Srow.kw th : Sl w6 1 qa rv vs).at hivs
  have c0 := hcc 0 _ rfl
  simp only [Nat.mul_one, Nat.add_zero] at c0
  have hia : ∀ w' K, iaT P T.j rv (.int .i64 (i : Nat)) w' K = K (.pointer (some ⟨b, o + i, none⟩)) w' := fun w' K => by rw [hv]; simp [hivs]
  simp [hia, c0]
  have hrd : Rdv w0 (osL q hb p r (jt (ms.take i)) cs rv vs (ms.map pr) ⟨ib, qs⟩ D' R) (vs[i]).v (lz ms[i].1 ms[i].2) := fun w' L' S' => by
   have S6 : St w0 w' (pg (pi vs (ms.map pr)) :: ((L' ++ [jw q hb p r false, ji r .u64 (mmE cs), ki (jt (ms.take i)) cs, Eng.kw T.f 1 qa rv vs]) ++ (lj p hb ⟨ib, qs⟩ :: ig hb D' :: R))) := S'.perm (by
    have := List.perm_middle (l₁ := L' ++ [jw q hb p r false, ji r .u64 (mmE cs), ki (jt (ms.take i)) cs, Eng.kw T.f 1 qa rv vs]) (a := pg (pi vs (ms.map pr))) (l₂ := lj p hb ⟨ib, qs⟩ :: ig hb D' :: R)
    simpa using this)
   have S7 := St.aka (j := i) (L := pi vs (ms.map pr)) (by simp [pi]; omega) S6
   unfold pi at S7
   rw [List.getElem_zipWith] at S7
   have := S7.row jj
   simpa [pr] using this
  refine bcl S8 hrd okb okn oks okt (by omega) fun w7 v5 S9 => ?_
  simp
  have S10 := aot S9
  generalize w7.heap.size = tb at *
  generalize w7.alloc _ = w8 at *
  refine akw (y := ms[i].1) S10 fun w9 S11 => ?_
  unfold M.ap.j5
  have S11r : St w0 w9 (kg v5 ms[i].2 :: baB tb ms[i].1 :: osL q hb p r (jt (ms.take i)) cs rv vs (ms.map pr) ⟨ib, qs⟩ D' R) := S11.swap
  have hlv : ∀ w' K, biT P .len #[T.c] T.b [false] [v5] w' K = K (.int .i64 ms[i].2.length) w' := fun w' K => (S11r.row lk).im (by kernel_rfl) [false]
  simp [hlv]
  have S12 : St w0 w9 (jw q hb p r false :: ji r .u64 (mmE cs) :: ki (jt (ms.take i)) cs :: kg v5 ms[i].2 :: baB tb ms[i].1 :: Eng.kw T.f 1 qa rv vs :: pg (pi vs (ms.map pr)) :: lj p hb ⟨ib, qs⟩ :: ig hb D' :: R) := S11r.perm ((List.perm_append_comm (l₁ := [kg v5 ms[i].2, baB tb ms[i].1]) (l₂ := [jw q hb p r false, ji r .u64 (mmE cs), ki (jt (ms.take i)) cs])).append_right _)
  have het : xk (jt (ms.take i)) := auv fun m hm => hok m (List.mem_of_mem_take hm)
  refine ⟨OsJ w0 q hb p r (jt (ms.take i)) ms[i].1 ms[i].2 (kg v5 ms[i].2 :: baB tb ms[i].1 :: Eng.kw T.f 1 qa rv vs :: pg (pi vs (ms.map pr)) :: lj p hb ⟨ib, qs⟩ :: ig hb D' :: R), fun y _ => ms[i].2.length - Eng.ms y 0, ⟨0, cs, rfl, Nat.zero_le _, hc, S12⟩, ?_⟩
  rintro y w10 ⟨j, cs2, rfl, hj, hc2, S13⟩
  by_cases hjl : j < ms[i].2.length
  ·have hwj : IntKind.i64.wrap ((j : Int) + 1) = ((j + 1 : Nat) : Int) := by rw [gm (by omega) (by omega)]; rfl
   simp [hjl]
   unfold M.ap.j7
   obtain ⟨b2, o2, cap2, hv2, _, _, hc5⟩ := (S13.up3.row lk : SlS w10 v5 ms[i].2).at hjl
   have hia2 : ∀ w' K, iaT P T.c v5 (.int .i64 (j : Nat)) w' K = K (.pointer (some ⟨b2, o2 + j * 8, none⟩)) w' := fun w' K => by rw [hv2]; simp [hjl]
   have hld : ∀ K, ldN P 8 b2 (o2 + j * 8) w10 K = K (jx ms[i].2[j]) w10 := fun K => rh (gy ms[i].2[j]) 8 rfl hc5 K
   simp [hia2, hld]
   have S14 : St w0 (w10.alloc (.cells #[.int .u64 0, .int .u64 0, .int .u64 0, .int .u64 0, .int .u64 0, .string ⟨#[]⟩, .string ⟨#[]⟩, .bool false] T.e)) (spB w10.heap.size vj :: _) := S13.mkB (gy vj).toArray T.e
   generalize w10.heap.size = sb at *
   generalize w10.alloc _ = w11 at *
   rw [xe]
   refine St.put (vs := gy ms[i].2[j]) (cs' := (gy ms[i].2[j]).toArray) S14 (nq _) (by simp [gy]) rfl fun w12 S15 => ?_
   obtain ⟨_, _, sl⟩ := sm S15
   obtain ⟨_, _, bl⟩ := qn (up5 S15)
   simp [sl, bl]
   have het2 : xk ((ms[i].2.take j).foldl (ll ms[i].1) (jt (ms.take i))) := aej okb (fun z hz => oks z (List.mem_of_mem_take hz)) het
   refine avi S15.drop hc2 (avs het2) ms[i].1 ms[i].2[j] fun w13 cs3 hc3 S16 => ?_
   rw [hwj]
   have ef : (ms[i].2.take (j + 1)).foldl (ll ms[i].1) (jt (ms.take i)) = ll ms[i].1 ((ms[i].2.take j).foldl (ll ms[i].1) (jt (ms.take i))) ms[i].2[j] := by
    rw [List.take_add_one, List.getElem?_eq_getElem hjl, List.foldl_append]
    rfl
   refine ⟨⟨j + 1, cs3, rfl, by omega, by rw [ef]; exact hc3, by rw [ef]; exact S16⟩, by simp [Eng.ms, gv]; omega⟩
  ·have hje : j = ms[i].2.length := by omega
   subst hje
   simp
   rw [List.take_length] at hc2 S13
   have ee : jt (ms.take (i + 1)) = ms[i].2.foldl (ll ms[i].1) (jt (ms.take i)) := by
    rw [List.take_add_one, List.getElem?_eq_getElem hil]
    exact amn _ _
   rw [hwi]
   refine ⟨⟨i + 1, cs2, rfl, by omega, by rw [ee]; exact hc2, ?_⟩, ?_⟩
   ·rw [ee]
    have S14 := (S13.up4.drop).up3.drop
    exact S14
   ·rw [hm9]; simp [Eng.ms, gv]; omega
 ·have hie : i = ms.length := by omega
  subst hie
  rw [List.take_length] at hc S8
  simp
  unfold M.ap.j1
  have S9 : St w0 w6 (lj p hb ⟨ib, qs⟩ :: ig hb D' :: jw q hb p r false :: ji r .u64 (mmE cs) :: ki (jt ms) cs :: R) := by
   have T1 := (S8.up3.drop).up3.drop
   exact T1.perm ((List.perm_append_comm (l₁ := [jw q hb p r false, ji r .u64 (mmE cs), ki (jt ms) cs]) (l₂ := [lj p hb ⟨ib, qs⟩, ig hb D'])).append_right R)
  refine aou (p := p) S9 (by have := g.vir.len; simp only at this ⊢; omega) fun w7 S10 => ?_
  rw [es]
  simp
  have S11 : St w0 w7 ([jw q hb p r false, ji r .u64 (mmE cs), ki (jt ms) cs, lj p hb ⟨ib, qs⟩, ig hb (Lg.my ⟨ib, qs⟩ D').1] ++ R) := S10.perm ((List.perm_append_comm (l₁ := [lj p hb ⟨ib, qs⟩, ig hb (Lg.my ⟨ib, qs⟩ D').1]) (l₂ := [jw q hb p r false, ji r .u64 (mmE cs), ki (jt ms) cs])).append_right R)
  exact h w7 q (awx hc S11)
end
set_option maxRecDepth 100000
open Go.Eng Go.Proofs.YtfnhoaemapheoaaGreat.Sint
theorem afb (w : World) (K : KV) : taT P .nilIface T.an T.h true w K = K (.tuple #[.agg #[.int .u64 0, .int .u64 0, .int .u64 0, .slice none 0 0], .bool false]) w := .trans (by kernel_rfl) rfl
theorem arq {w : World} {p : Pk} {ls : List Spn} {lm : List Mem} {lu : List Int} {t : Value} (h : ThR w p ls lm lu t) (hk : ¬ p.gr = 9) (w' : World) (K : KV) : taT P t T.an T.h true w' K = K (.tuple #[.agg #[.int .u64 0, .int .u64 0, .int .u64 0, .slice none 0 0], .bool false]) w' := by
 cases h with
 | nk v q hs => exact ajk _ _ _
 | agf v q hs => exact ahz _ _ _
 | ask q => exact aog _ _ _
 | yz q => exact ako _ _ _
 | ut q => exact alx _ _ _
 | vz v q hs => exact absurd q hk
 | ym v q hs => exact vr _ _ _
 | none q => exact afb _ _
theorem asj {w : World} {p : Pk} {ls : List Spn} {lm : List Mem} {lu : List Int} {t : Value} (h : ThR w p ls lm lu t) (hk : p.gr = 9) : ∃ v, t = .iface T.h (.agg #[.int .u64 p.tr, .int .u64 p.b.n, .int .u64 p.b.iy, v]) ∧ SlS w v ls := by
 cases h with
 | vz v q hs => exact ⟨v, rfl, hs⟩
 | nk v q hs => omega
 | agf v q hs => omega
 | ask q => omega
 | yz q => omega
 | ut q => omega
 | ym v q hs => omega
 | none q => omega
section
variable {w0 w : World} {R : List Asn} {q hb p r : Nat} {es : List EnS} {L : Lg} {dn : Bool} {D : Dk} {cs : List TC}
theorem bcm (hc : cs.map (·.1) = qf es) {X : List Asn} : amb w0 (jw q hb p r dn :: ji r .u64 (mmE cs) :: ki es cs :: X) (.func (.func F.an) #[jv q] #[]) (wq es) := by
 intro w' L' x K S' hK
 have e := arp (P := P) FN.an.at (by kernel_rfl) (by kernel_rfl) [jv q] [] [jx x] w' K
 rw [show (Value.func (.func F.an) #[jv q] #[]) = .func (.func F.an) ([jv q] : List Value).toArray ([] : List Value).toArray from rfl, e]
 have f := M.bl.fcall [jv q, jx x] w' K
 have S1 : St w0 w' (jw q hb p r dn :: ji r .u64 (mmE cs) :: ki es cs :: (L' ++ X)) := S'.perm (by
  have := (List.perm_append_comm (l₁ := L') (l₂ := [jw q hb p r dn, ji r .u64 (mmE cs), ki es cs])).append_right X
  simpa using this)
 have g := bgz S1 hc x hK
 rw [f] at g
 exact g
theorem bdo {v : Value} {l : List Int} (S : St w0 w (ni T.g 1 mw v l :: R)) (hl : l.length < 60000) {K : KV} (h : ∀ w', St w0 w' (ni T.g 1 mw v (Suint64.oy l) :: R) → K (.tuple #[]) w') : gb P F.d [v] w K := by
 obtain ⟨B, ⟨h1, h2⟩, hB, cl⟩ := S.open
 rw [M.el.fcall]
 rcases h1.2 with ⟨rfl, h0⟩ | ⟨g1, cap1, cur, rfl, hb1, _⟩
 ·refine Suint64.zm (h w ?_)
  have hx0 : l = [] := List.length_eq_zero_iff.1 h0
  subst hx0
  rw [show Suint64.oy [] = [] from by simp [Suint64.oy]]
  exact S
 ·have h1' : Suint64.OwN w 0 (.slice (some ⟨g1, 0, none⟩) l.length cap1) l := h1
  obtain ⟨_, hbg, hcm, hrw⟩ := Suint64.Ow.rw h1'
  refine Suint64.abk hrw (by simp) hl fun w2 H2 => ?_
  have hll : (Suint64.oy l).length = l.length := (Suint64.nn l).length_eq
  have o := Suint64.axa (base := 0) (l := Suint64.oy l) hbg hcm (Suint64.apz H2)
  rw [hll] at o
  refine h w2 (cl w2 [ni T.g 1 mw (.slice (some ⟨g1, 0, none⟩) l.length cap1) (Suint64.oy l)] ((Suint64.awm H2).mono fun b _ hb => by rw [hb]; exact h2 g1 rfl) (Rs.one (B := B) ⟨o, h2⟩ fun x hx => .inl hx))
def ny (L : Lg) (D : Dk) (b : Bal) (l : List Spn) : (Lg × Dk) × Int := if l = [] then ((L, D), 0) else wrF L D [lz b l]
theorem axi {G : Nat} {s f : Int} {lv : Value} {l : List Spn} {b : Bal} (S : St w0 w (jw q hb p r false :: lj p hb L :: ig hb D :: R)) (hs : ∀ w' L', St w0 w' (L' ++ R) → SlS w' lv l) (hr : ∀ s ∈ l, ku s = 0) (hl : l.length ≤ 60) (hg : qq s f L G D) (hn : f + (jf L.gk).length + 1 ≤ 1000000000000) {K : KV}
  (h : ∀ w', St w0 w' (jw q hb p r (decide ((ny L D b l).2 = 10)) :: lj p hb (ny L D b l).1.1 :: ig hb (ny L D b l).1.2 :: R) → K (.int .i64 (ny L D b l).2) w') : gb P F.bo [jv q, kj b, lv] w K := by
 unfold ny at h
 by_cases he : l = []
 ·rw [if_pos he] at h
  subst he
  exact ayi S (hs w [_, _, _] S) fun w' S' => h w' (by simpa using S')
 ·rw [if_neg he] at h
  exact bcb S hs he hr hl hg hn fun w' S' => h w' (by simpa using S')
end
set_option maxRecDepth 100000
open Go.Eng Go.Proofs.YtfnhoaemapheoaaGreat.Sint
abbrev mi (l : List Spn) : List Int := Suint64.oy (l.map Spn.id)
theorem bej (l : List Int) : (Suint64.oy l).Pairwise fun a b => a ≤ b := by
 have := List.pairwise_mergeSort (le := fun x y : Int => decide (x ≤ y)) (fun a b c h1 h2 => by simp at *; omega) (fun a b => by simp; omega) l
 exact this.imp fun h => by simpa using h
theorem avb : ∀ {l : List Int} {x : Int}, (∀ y ∈ l, x < y) → l.Pairwise (fun a b => a < b) → qv x l = true
 | [], _, _, _ => rfl
 | y :: r, x, h, hp => by
  rw [qv]
  rw [List.pairwise_cons] at hp
  simp only [Bool.and_eq_true, decide_eq_true_eq]
  exact ⟨h y (by simp), avb hp.1 hp.2⟩
theorem bbh {s : Spn} (h : ku s = 0) (hr : vk s) : 0 < s.id ∧ 0 < s.il := by
 unfold ku at h
 split at h
 ·cases h
 ·rename_i hn
  have h1 := hr.id.1
  have h2 := hr.tr.1
  have := not_or.1 hn
  have h3 := not_or.1 this.2
  exact ⟨by omega, by omega⟩
theorem azc {tr : Int} {l : List Spn} (ht : 0 < tr) (hne : l ≠ []) (hl : l.length ≤ 16) (hn : (l.map Spn.id).Nodup) (hk : ∀ s ∈ l, ku s = 0 ∧ vk s) (v' : Value) : rl (oe tr v') [] [] (mi l) = true := by
 have hp := Suint64.nn (l.map Spn.id)
 have hlen := hp.length_eq
 rw [List.length_map] at hlen
 have hpos := List.length_pos_iff.2 hne
 have hlt : (mi l).Pairwise fun a b => a < b := by
  have h1 := bej (l.map Spn.id)
  have h2 : (mi l).Nodup := hp.nodup_iff.2 hn
  have h3 := List.nodup_iff_pairwise_ne.1 h2
  exact (h1.and h3).imp fun h => by have := h.1; have := h.2; omega
 have hr : qv 0 (mi l) = true := avb (fun y hy => by
  obtain ⟨s, hs, rfl⟩ := List.mem_map.1 (hp.mem_iff.1 hy)
  exact (bbh (hk s hs).1 (hk s hs).2).1) hlt
 have hle : (mi l).length = l.length := hlen
 unfold rl acr px lr
 simp [oe, kr, oc, og, om, qw, lc, hr, ht, hle, ia]
 omega
abbrev ss (ab : Nat) (tr : Int) (b : Bal) (v : Value) : Asn := gp ab #[.int .u64 tr, .int .u64 b.n, .int .u64 b.iy, v] T.h
abbrev akB (kb : Nat) (tr : Int) (v : Value) : Asn := gp kb #[.int .u64 tr, v] T.m
def bnc (w0 : World) (kb : Nat) (tr : Int) (ls : List Spn) (X : List Asn) : KL := fun x w1 => ∃ (i : Nat) (v : Value), x = [.int .i64 (i : Nat)] ∧ i ≤ ls.length ∧ St w0 w1 (akB kb tr v :: ni T.g 1 mw v ((ls.take i).map Spn.id) :: X)
section
variable {w0 w : World} {R : List Asn} {q hb p r ab tb kb : Nat} {es : List EnS} {L : Lg} {dn : Bool} {D : Dk} {cs : List TC} {tr : Int} {b : Bal} {v v3 : Value} {ls fl : List Spn}
theorem aae (S : St w0 w (ss ab tr b v :: R)) : gi w ab 0 = some (.int .u64 tr) ∧ (∀ K, ldN P 2 ab 1 w K = K (kj b) w) ∧ gi w ab 3 = some v :=
 ⟨by rw [S.cell]; rfl, fun K => S.ldA [.int .u64 b.n, .int .u64 b.iy] rfl rfl K, by rw [S.cell]; rfl⟩
theorem ail (S : St w0 w (akB kb tr v :: R)) : gi w kb 0 = some (.int .u64 tr) ∧ gi w kb 1 = some v ∧ ∀ K, ldN P 2 kb 0 w K = K (.agg #[.int .u64 tr, v]) w :=
 ⟨by rw [S.cell]; rfl, by rw [S.cell]; rfl, fun K => S.ldA (n := 2) (i := 0) [.int .u64 tr, v] rfl rfl K⟩
theorem bdp (S : St w0 w (akB kb tr (.slice none 0 0) :: R)) (hs : ∀ w' L, St w0 w' (L ++ R) → SlS w' v ls) (hl : ls.length ≤ 1000) {G : World → Prop} {K : KV}
  (h : ∀ w' v2, St w0 w' (akB kb tr v2 :: ni T.g 1 mw v2 (ls.map Spn.id) :: R) → G w') :
  ir [.int .i64 0] w fun K4 x4 w => ga P .lss T.b (.tmp 71) (.tmp 70) (gv x4 0) (.int .i64 (ls.length : Nat)) w fun t72 w => ge t72 (M.e.j5 v x4 (.pointer (some ⟨kb, 0, none⟩)) K4 w K) (G w) := by
 have S0 : St w0 w (ni T.g 1 mw (.slice none 0 0) ([] : List Int) :: akB kb tr (.slice none 0 0) :: R) := Go.Eng.qz S
 refine ⟨bnc w0 kb tr ls R, fun x _ => ls.length - ms x 0, ⟨0, _, rfl, Nat.zero_le _, S0.swap⟩, ?_⟩
 rintro x w1 ⟨i, va, rfl, hi, S1⟩
 by_cases hil : i < ls.length
 ·have hwi : IntKind.i64.wrap ((i : Int) + 1) = ((i + 1 : Nat) : Int) := by rw [gm (by omega) (by omega)]; rfl
  simp [hil]
  unfold M.e.j5
  obtain ⟨b2, o2, cap2, hv2, _, _, hc5⟩ := (hs w1 [_, _] S1).at hil
  have hia2 : ∀ w' K, iaT P T.c v (.int .i64 (i : Nat)) w' K = K (.pointer (some ⟨b2, o2 + i * 8, none⟩)) w' := fun w' K => by rw [hv2]; simp [hil]
  have hld : ∀ K, ldN P 8 b2 (o2 + i * 8) w1 K = K (jx ls[i]) w1 := fun K => rh (gy ls[i]) 8 rfl hc5 K
  simp [hia2, hld]
  have S2 : St w0 (w1.alloc (.cells #[.int .u64 0, .int .u64 0, .int .u64 0, .int .u64 0, .int .u64 0, .string ⟨#[]⟩, .string ⟨#[]⟩, .bool false] T.e)) (spB w1.heap.size vj :: _) := S1.mkB (gy vj).toArray T.e
  generalize w1.heap.size = sb at *
  generalize w1.alloc _ = w2 at *
  rw [xe]
  refine St.put (vs := gy ls[i]) (cs' := (gy ls[i]).toArray) S2 (nq _) (by simp [gy]) rfl fun w3 S3 => ?_
  obtain ⟨_, x1, _⟩ := sm S3
  obtain ⟨_, k1, _⟩ := ail S3.swap
  simp [x1, k1]
  have S4 : St w0 (w3.alloc (.cells #[.int .u64 ls[i].id] T.g)) (ni T.g 1 mw (.slice (some ⟨w3.heap.size, 0, none⟩) 1 1) [ls[i].id] :: _) := St.uy (l := [ls[i].id]) S3 ws rfl (by simp [maxLen])
  have S5 := S4.up3
  refine Go.Eng.ud et.k ws aoy S5 (S4.row ws) (by simp; omega) (by decide) fun w5 v5 S6 => ?_
  have S7 : St w0 w5 (akB kb tr va :: ni T.g 1 mw v5 ((ls.take i).map Spn.id ++ [ls[i].id]) :: R) := (S6.swap.drop.swap.drop).swap
  have hst : ∀ w' K, stT P T.k (.pointer (some ⟨kb, 1, none⟩)) v5 w' K = st1 P kb 1 v5 w' K := fun w' K => by
   obtain ⟨a, c, e, _⟩ := (S7.swap.row ws : SlU w5 v5 _)
   rw [e]; simp
  have hv5 : jz v5 = true := by
   obtain ⟨a, c, e, _⟩ := (S7.swap.row ws : SlU w5 v5 _)
   rw [e]; rfl
  simp [hst]
  refine S7.ui hv5 (by simp) fun w8 S8 => ?_
  rw [hwi]
  refine ⟨⟨i + 1, v5, rfl, by omega, ?_⟩, by simp [ms, gv]; omega⟩
  rw [List.take_add_one, List.getElem?_eq_getElem hil, List.map_append]
  exact S8
 ·have hie : i = ls.length := by omega
  subst hie
  rw [List.take_length] at S1
  simp
  exact h w1 va S1
end
set_option maxRecDepth 100000
open Go.Eng Go.Proofs.YtfnhoaemapheoaaGreat.Sint
def bli (w0 : World) (q hb p r : Nat) (es : List EnS) (b : Bal) (l : List Spn) (X : List Asn) : KL := fun x w1 => ∃ (j : Nat) (cs : List TC), x = [.int .i64 (j : Nat)] ∧ j ≤ l.length ∧ cs.map (·.1) = qf ((l.take j).foldl (ll b) es) ∧ St w0 w1 (jw q hb p r false :: ji r .u64 (mmE cs) :: ki ((l.take j).foldl (ll b) es) cs :: X)
section
variable {w0 w : World} {R : List Asn} {q hb p r ab tb kb : Nat} {es : List EnS} {L : Lg} {dn : Bool} {D : Dk} {cs : List TC} {tr : Int} {b : Bal} {v v3 : Value} {ls fl : List Spn}
theorem azf (S : St w0 w (jw q hb p r false :: ji r .u64 (mmE cs) :: ki es cs :: ss ab tr b v :: rdA 8 gy v3 fl :: R)) (hc : cs.map (·.1) = qf es) (he : xk es) (hb' : b.rng) (hk : ∀ s ∈ fl, ku s = 0 ∧ vk s) (hl : fl.length ≤ 1000) {G : World → Prop} {K : KV}
  (h : ∀ w' cs', cs'.map (·.1) = qf (fl.foldl (ll b) es) → St w0 w' (jw q hb p r false :: ji r .u64 (mmE cs') :: ki (fl.foldl (ll b) es) cs' :: ss ab tr b v :: rdA 8 gy v3 fl :: R) → G w') :
  ir [.int .i64 0] w fun K8 x8 w => ga P .lss T.b (.tmp 88) (.tmp 87) (gv x8 0) (.int .i64 (fl.length : Nat)) w fun t89 w => ge t89 (M.e.j9 v3 x8 (.pointer (some ⟨ab, 0, none⟩)) (.pointer (some ⟨q, 0, none⟩)) K8 w K) (G w) := by
 refine ⟨bli w0 q hb p r es b fl (ss ab tr b v :: rdA 8 gy v3 fl :: R), fun x _ => fl.length - ms x 0, ⟨0, cs, rfl, Nat.zero_le _, hc, S⟩, ?_⟩
 rintro x w1 ⟨j, cs2, rfl, hj, hc2, S1⟩
 by_cases hjl : j < fl.length
 ·have hwj : IntKind.i64.wrap ((j : Int) + 1) = ((j + 1 : Nat) : Int) := by rw [gm (by omega) (by omega)]; rfl
  simp [hjl]
  unfold M.e.j9
  have S1r : St w0 w1 (rdA 8 gy v3 fl :: jw q hb p r false :: ji r .u64 (mmE cs2) :: ki ((fl.take j).foldl (ll b) es) cs2 :: ss ab tr b v :: R) := S1.up4
  obtain ⟨b2, o2, cap2, hv2, _, _, hc5⟩ := (S1r.rd : SlS w1 v3 fl).at hjl
  have hia2 : ∀ w' K, iaT P T.c v3 (.int .i64 (j : Nat)) w' K = K (.pointer (some ⟨b2, o2 + j * 8, none⟩)) w' := fun w' K => by rw [hv2]; simp [hjl]
  have hld : ∀ K, ldN P 8 b2 (o2 + j * 8) w1 K = K (jx fl[j]) w1 := fun K => rh (gy fl[j]) 8 rfl hc5 K
  simp [hia2, hld]
  have S2 : St w0 (w1.alloc (.cells #[.int .u64 0, .int .u64 0, .int .u64 0, .int .u64 0, .int .u64 0, .string ⟨#[]⟩, .string ⟨#[]⟩, .bool false] T.e)) (spB w1.heap.size vj :: _) := S1.mkB (gy vj).toArray T.e
  generalize w1.heap.size = sb at *
  generalize w1.alloc _ = w2 at *
  rw [xe]
  refine St.put (vs := gy fl[j]) (cs' := (gy fl[j]).toArray) S2 (nq _) (by simp [gy]) rfl fun w3 S3 => ?_
  obtain ⟨_, _, sl⟩ := sm S3
  obtain ⟨_, bl, _⟩ := aae S3.up4
  simp [sl, bl]
  have he2 : xk ((fl.take j).foldl (ll b) es) := aej hb' (fun z hz => hk z (List.mem_of_mem_take hz)) he
  refine avi S3.drop hc2 (avs he2) b fl[j] fun w4 cs3 hc3 S4 => ?_
  rw [hwj]
  have ef : (fl.take (j + 1)).foldl (ll b) es = ll b ((fl.take j).foldl (ll b) es) fl[j] := by
   rw [List.take_add_one, List.getElem?_eq_getElem hjl, List.foldl_append]
   rfl
  exact ⟨⟨j + 1, cs3, rfl, by omega, by rw [ef]; exact hc3, by rw [ef]; exact S4⟩, by simp [ms, gv]; omega⟩
 ·have hje : j = fl.length := by omega
  subst hje
  simp
  rw [List.take_length] at hc2 S1
  exact h w1 cs2 hc2 S1
theorem bie (S : St w0 w (jw q hb p r false :: ji r .u64 (mmE cs) :: ki es cs :: ss ab tr b v :: rdA 8 gy v3 fl :: rdA 8 gy v ls :: gp tb (pkC pkZ).toArray T.a :: R)) (hc : cs.map (·.1) = qf es) (he : xk es) (hb' : b.rng) (htr : 0 < tr) (htu : sy tr) (hne : ls ≠ []) (hn : (ls.map Spn.id).Nodup) (hk : ∀ s ∈ ls, ku s = 0 ∧ vk s) (hl : ls.length ≤ 16) (hkf : ∀ s ∈ fl, ku s = 0 ∧ vk s) (hlf : fl.length ≤ 16) {K : KV}
  (h : ∀ w' cs' v', cs'.map (·.1) = qf (fl.foldl (ll b) es) → St w0 w' (rdA 1 mw v' (mi ls) :: rdA 8 gy v3 fl :: jw q hb p r false :: ji r .u64 (mmE cs') :: ki (fl.foldl (ll b) es) cs' :: R) → K (.tuple #[pkA (oe tr v'), v3, .int .i64 0]) w') :
  M.e.j2 (.pointer (some ⟨ab, 0, none⟩)) v3 (.pointer (some ⟨q, 0, none⟩)) (.pointer (some ⟨tb, 0, none⟩)) w K := by
 unfold M.e.j2
 obtain ⟨a0, _, a3⟩ := aae S.up3
 simp [a0]
 have S1 : St w0 (w.alloc (.cells #[.int .u64 0, .slice none 0 0] T.m)) (akB w.heap.size 0 (.slice none 0 0) :: _) := S.mkB #[.int .u64 0, .slice none 0 0] T.m
 generalize w.heap.size = kb at *
 generalize w.alloc _ = w1 at *
 refine St.put (vs := [.int .u64 tr, .slice none 0 0]) (cs' := #[.int .u64 tr, .slice none 0 0]) S1 (by simp [jz]) (by simp) rfl fun w2 S2 => ?_
 obtain ⟨_, _, a3'⟩ := aae S2.up4
 have S2r : St w0 w2 (rdA 8 gy v ls :: akB kb tr (.slice none 0 0) :: jw q hb p r false :: ji r .u64 (mmE cs) :: ki es cs :: ss ab tr b v :: rdA 8 gy v3 fl :: gp tb (pkC pkZ).toArray T.a :: R) := up6 S2
 have hlv : ∀ w' K, biT P .len #[T.c] T.b [false] [v] w' K = K (.int .i64 ls.length) w' := fun w' K => (S2r.rd : SlS w2 v ls).im (by kernel_rfl) [false]
 simp [a3', hlv]
 refine bdp (v := v) (ls := ls) S2 (fun w' L' S' => ?_) (by omega) fun w3 v2 S3 => ?_
 ·have S6 : St w0 w' ((L' ++ [jw q hb p r false, ji r .u64 (mmE cs), ki es cs, ss ab tr b v, rdA 8 gy v3 fl]) ++ (rdA 8 gy v ls :: gp tb (pkC pkZ).toArray T.a :: R)) := by simpa using S'
  exact (S6.perm List.perm_middle).rd
 unfold M.e.j3
 obtain ⟨_, k1, _⟩ := ail S3
 simp [k1]
 have S3r := S3.swap
 refine bdo S3r (by simp; omega) fun w4 S4 => ?_
 have S4v : St w0 w4 (rdA 8 gy v3 fl :: ni T.g 1 mw v2 (mi ls) :: akB kb tr v2 :: jw q hb p r false :: ji r .u64 (mmE cs) :: ki es cs :: ss ab tr b v :: rdA 8 gy v ls :: gp tb (pkC pkZ).toArray T.a :: R) := up6 S4
 have hlf' : ∀ w' K, biT P .len #[T.c] T.b [false] [v3] w' K = K (.int .i64 fl.length) w' := fun w' K => (S4v.rd : SlS w4 v3 fl).im (by kernel_rfl) [false]
 simp [hlf']
 have S5 : St w0 w4 (jw q hb p r false :: ji r .u64 (mmE cs) :: ki es cs :: ss ab tr b v :: rdA 8 gy v3 fl :: ni T.g 1 mw v2 (mi ls) :: akB kb tr v2 :: rdA 8 gy v ls :: gp tb (pkC pkZ).toArray T.a :: R) := S4.perm ((List.perm_append_comm (l₁ := [ni T.g 1 mw v2 (mi ls), akB kb tr v2]) (l₂ := [jw q hb p r false, ji r .u64 (mmE cs), ki es cs, ss ab tr b v, rdA 8 gy v3 fl])).append_right _)
 refine azf S5 hc he hb' hkf (by omega) fun w5 cs' hc' S6 => ?_
 unfold M.e.j7
 obtain ⟨_, _, kl⟩ := ail (up6 S6)
 simp [kl]
 have S6u : St w0 w5 (ni T.g 1 mw v2 (mi ls) :: jw q hb p r false :: ji r .u64 (mmE cs') :: ki (fl.foldl (ll b) es) cs' :: ss ab tr b v :: rdA 8 gy v3 fl :: akB kb tr v2 :: rdA 8 gy v ls :: gp tb (pkC pkZ).toArray T.a :: R) := up5 S6
 have hll : (mi ls).length = ls.length := by rw [(Suint64.nn _).length_eq, List.length_map]
 refine att (S6u.row ws) (by omega) htu (azc htr hne hl hn hk) fun w6 v6 s6 o6 f6 => ?_
 have hv6 : ∃ bb, v6.ownBlock = some bb ∧ bb < w6.heap.size := by
  have hpos := List.length_pos_iff.2 hne
  obtain ⟨x, hx⟩ := List.exists_mem_of_length_pos (l := mi ls) (by omega)
  exact s6.lt hx
 have S7 : St w0 w6 (rdA 1 mw v6 (mi ls) :: _) := S6u.add f6 (a := rdA 1 mw v6 (mi ls)) (B := fun y => v6.ownBlock = some y) ⟨s6, fun y hy => hy⟩ fun y hy => by
  obtain ⟨bb, h1, h2⟩ := hv6
  rw [h1] at hy
  cases hy
  exact ⟨o6 _ h1, h2⟩
 simp
 have S8 := zv S7
 generalize w6.heap.size = pb at *
 generalize w6.alloc _ = w7 at *
 have one6 := ye (tr := tr) s6
 rw [aah]
 refine acj (q := oe tr v6) S8 rfl one6 fun w8 S9 => ?_
 have pl := fun K => qc S9 K
 simp [pl]
 rw [aah]
 have S9t : St w0 w8 (gp tb (pkC pkZ).toArray T.a :: gp pb (pkC (oe tr v6)).toArray T.a :: rdA 1 mw v6 (mi ls) :: ni T.g 1 mw v2 (mi ls) :: jw q hb p r false :: ji r .u64 (mmE cs') :: ki (fl.foldl (ll b) es) cs' :: ss ab tr b v :: rdA 8 gy v3 fl :: akB kb tr v2 :: rdA 8 gy v ls :: R) := S9.perm (List.perm_middle (l₁ := [_, _, _, _, _, _, _, _, _, _]))
 refine aqx S9t rfl one6 (K := fun r0 w => K (.tuple #[r0, v3, .int .i64 0]) w) fun w9 S10 => ?_
 refine h w9 cs' v6 hc' ?_
 have T1 : St w0 w9 (rdA 1 mw v6 (mi ls) :: ni T.g 1 mw v2 (mi ls) :: jw q hb p r false :: ji r .u64 (mmE cs') :: ki (fl.foldl (ll b) es) cs' :: ss ab tr b v :: rdA 8 gy v3 fl :: akB kb tr v2 :: rdA 8 gy v ls :: R) := S10.drop.drop
 have T2 := T1.swap.drop
 -- [rd v6, sto, map, cel, std, rd v3, ak, rd v, R]
 have T3 : St w0 w9 (rdA 8 gy v ls :: akB kb tr v2 :: ss ab tr b v :: rdA 1 mw v6 (mi ls) :: jw q hb p r false :: ji r .u64 (mmE cs') :: ki (fl.foldl (ll b) es) cs' :: rdA 8 gy v3 fl :: R) := by
  have U1 : St w0 w9 (ss ab tr b v :: rdA 1 mw v6 (mi ls) :: jw q hb p r false :: ji r .u64 (mmE cs') :: ki (fl.foldl (ll b) es) cs' :: rdA 8 gy v3 fl :: akB kb tr v2 :: rdA 8 gy v ls :: R) := T2.up4
  have U2 : St w0 w9 (akB kb tr v2 :: ss ab tr b v :: rdA 1 mw v6 (mi ls) :: jw q hb p r false :: ji r .u64 (mmE cs') :: ki (fl.foldl (ll b) es) cs' :: rdA 8 gy v3 fl :: rdA 8 gy v ls :: R) := up6 U1
  exact U2.perm (List.perm_middle (l₁ := [_, _, _, _, _, _, _]))
 have T4 := T3.drop.drop.drop
 have T5 : St w0 w9 (rdA 8 gy v3 fl :: rdA 1 mw v6 (mi ls) :: jw q hb p r false :: ji r .u64 (mmE cs') :: ki (fl.foldl (ll b) es) cs' :: R) := T4.up4
 exact T5.swap
end
set_option maxRecDepth 100000
open Go.Eng Go.Proofs.YtfnhoaemapheoaaGreat.Sint
section
variable {w0 w : World} {R : List Asn} {q hb : Nat} {es : List EnS} {L : Lg} {dn : Bool} {D : Dk} {s f : Int} {p : Pk} {ls : List Spn} {lm : List Mem} {lu : List Int}
theorem awu {tb : Nat} {R1 : List Asn} (S : St w0 w (gp tb (pkC pkZ).toArray T.a :: R1)) {k : Int} {K : KV} (h : ∀ w', St w0 w' R1 → K (.tuple #[pkA pkZ, .slice none 0 0, .int .i64 k]) w') :
  stN P tb 0 [.int .i64 0, .int .u64 0, .int .u64 0, .int .u64 0, .int .u64 0, .int .u64 0, .int .i64 0, .bool false, .slice none 0 0, .slice none 0 0, .slice none 0 0] w fun _ w => qg P T.a (.pointer (some ⟨tb, 0, none⟩)) w fun r0 w' => w' = w ∧ K (.tuple #[r0, .slice none 0 0, .int .i64 k]) w :=
 aqx (q := pkZ) S rfl (avk _ _ _ _ _ _) (K := fun r0 w => K (.tuple #[r0, .slice none 0 0, .int .i64 k]) w) fun w' S' => h w' S'.drop
theorem up7 {a b c d e f g i : Asn} (h : St w0 w (a :: b :: c :: d :: e :: f :: g :: i :: R)) : St w0 w (i :: a :: b :: c :: d :: e :: f :: g :: R) := h.perm (List.perm_middle (l₁ := [a, b, c, d, e, f, g]))
theorem up8 {a b c d e f g i j : Asn} (h : St w0 w (a :: b :: c :: d :: e :: f :: g :: i :: j :: R)) : St w0 w (j :: a :: b :: c :: d :: e :: f :: g :: i :: R) := h.perm (List.perm_middle (l₁ := [a, b, c, d, e, f, g, i]))
theorem up9 {a b c d e f g i j k : Asn} (h : St w0 w (a :: b :: c :: d :: e :: f :: g :: i :: j :: k :: R)) : St w0 w (k :: a :: b :: c :: d :: e :: f :: g :: i :: j :: R) := h.perm (List.perm_middle (l₁ := [a, b, c, d, e, f, g, i, j]))
theorem bdc (S : St w0 w (rp q hb es L dn :: ig hb D :: R)) (hp : ∀ w' R', St w0 w' (R' ++ R) → pw w' p ls lm lu) (hr : xn p) (hls : ∀ s ∈ ls, vk s) (he : xk es) (hG : dn = false → D.iu = false → ∃ G, qq s f L G D) (hf : f + (jf L.gk).length + 1 ≤ 1000000000000) {K : KV}
  (hno : wrE p ls lm lu = false → ∀ w', St w0 w' (rp q hb es L dn :: ig hb D :: R) → K (.tuple #[pkA pkZ, .slice none 0 0, .int .i64 6]) w')
  (hdn : wrE p ls lm lu = true → (dn || D.iu) = true → ∀ w', St w0 w' (rp q hb es L dn :: ig hb D :: R) → K (.tuple #[pkA pkZ, .slice none 0 0, .int .i64 10]) w')
  (hbad : wrE p ls lm lu = true → dn = false → D.iu = false → (ny L D p.b (ko es ls)).2 ≠ 0 → ∀ w', St w0 w' (rp q hb es (ny L D p.b (ko es ls)).1.1 (decide ((ny L D p.b (ko es ls)).2 = 10)) :: ig hb (ny L D p.b (ko es ls)).1.2 :: R) → K (.tuple #[pkA pkZ, .slice none 0 0, .int .i64 (ny L D p.b (ko es ls)).2]) w')
  (hok : wrE p ls lm lu = true → dn = false → D.iu = false → (ny L D p.b (ko es ls)).2 = 0 → ∀ w' v' v3, St w0 w' (rdA 1 mw v' (mi ls) :: rdA 8 gy v3 (ko es ls) :: rp q hb ((ko es ls).foldl (ll p.b) es) (ny L D p.b (ko es ls)).1.1 false :: ig hb (ny L D p.b (ko es ls)).1.2 :: R) → K (.tuple #[pkA (oe p.tr v'), v3, .int .i64 0]) w') :
  gb P F.ax [jv q, pkA p] w K := by
 rw [M.e.fcall]
 apply M.e.calls
 unfold M.e jv
 refine St.sx S fun pb w1 S1 => ?_
 have S1' : St w0 w1 (gp pb (pkC p).toArray T.a :: rp q hb es L dn :: ig hb D :: R) := S1
 simp
 have S2 := zv S1'
 generalize w1.heap.size = tb at *
 generalize w1.alloc _ = w2 at *
 unfold M.e.j0
 simp [fun K => qc S2.swap K]
 have hp2 : pw w2 p ls lm lu := hp w2 (gp tb (pkC pkZ).toArray T.a :: gp pb (pkC p).toArray T.a :: rp q hb es L dn :: ig hb D :: []) S2
 -- what is no write
 have noS : ∀ (t : Value) (w3 : World), wrE p ls lm lu = false → (∀ w' K', taT P t T.an T.h true w' K' = K' (.tuple #[.agg #[.int .u64 0, .int .u64 0, .int .u64 0, .slice none 0 0], .bool false]) w') → St w0 w3 (gp tb (pkC pkZ).toArray T.a :: gp pb (pkC p).toArray T.a :: rp q hb es L dn :: ig hb D :: R) → True := fun _ _ _ _ _ => trivial
 refine bdv hp2 hr (fun hre w3 t ht hown f3 => ?_) (fun hre w3 f3 => ?_)
 ·have S3 := S2.jg f3
  by_cases hk : p.gr = 9
  ·have hae : wrE p ls lm lu = true := by unfold wrE; rw [hre]; simpa using hk
   obtain ⟨_, W⟩ := ahy hae
   obtain ⟨v, rfl, hsv⟩ := asj ht hk
   have hv3 : ∃ bb, v.ownBlock = some bb ∧ bb < w3.heap.size := by
    obtain ⟨x, hx⟩ := List.exists_mem_of_ne_nil _ W.ne
    exact hsv.lt hx
   have S3v : St w0 w3 (rdA 8 gy v ls :: _) := S2.add f3 (a := rdA 8 gy v ls) (B := fun y => v.ownBlock = some y) ⟨hsv, fun y hy => hy⟩ fun y hy => by
    obtain ⟨bb, h1, h2⟩ := hv3
    have h3 := hown _ _ _ _ rfl y hy
    rw [h1] at hy
    cases hy
    exact ⟨h3, h2⟩
   obtain ⟨va, vc, hve, _⟩ := id hsv
   simp
   have S4 : St w0 (w3.alloc (.cells #[.int .u64 0, .int .u64 0, .int .u64 0, .slice none 0 0] T.h)) (gp w3.heap.size #[.int .u64 0, .int .u64 0, .int .u64 0, .slice none 0 0] T.h :: _) := S3v.mkB #[.int .u64 0, .int .u64 0, .int .u64 0, .slice none 0 0] T.h
   generalize w3.heap.size = ab at *
   generalize w3.alloc _ = w4 at *
   refine St.put (cs' := #[.int .u64 p.tr, .int .u64 p.b.n, .int .u64 p.b.iy, v]) (vs := [.int .u64 p.tr, .int .u64 p.b.n, .int .u64 p.b.iy, v]) S4 (by rw [hve]; simp [jz]) (by simp) rfl fun w5 S5 => ?_
   have S5' : St w0 w5 (ss ab p.tr p.b v :: rdA 8 gy v ls :: gp tb (pkC pkZ).toArray T.a :: gp pb (pkC p).toArray T.a :: rp q hb es L dn :: ig hb D :: R) := S5
   obtain ⟨lp, r, cs, hc, Su⟩ := awh (St.up4 S5')
   obtain ⟨c0, _, _, c3⟩ := uo Su
   have outDn : (dn || D.iu) = true → stN P tb 0 [.int .i64 0, .int .u64 0, .int .u64 0, .int .u64 0, .int .u64 0, .int .u64 0, .int .i64 0, .bool false, .slice none 0 0, .slice none 0 0, .slice none 0 0] w5 fun _ w => qg P T.a (.pointer (some ⟨tb, 0, none⟩)) w fun r0 w' => w' = w ∧ K (.tuple #[r0, .slice none 0 0, .int .i64 10]) w := fun hd =>
    awu S5'.drop.drop fun w' S' => hdn hae hd w' S'.drop
   cases dn with
   | true =>
    have od := outDn rfl
    simp [c3]
    exact od
   | false =>
    simp [c3, c0]
    refine alf (up5 S5') ?_
    cases hd : D.iu with
    | true =>
     have od := outDn (by simp [hd])
     simp
     exact od
    | false =>
     simp
     obtain ⟨G, hg⟩ := hG rfl hd
     have hbad' := hbad hae rfl hd
     have hok' := hok hae rfl hd
     clear hno hdn hbad hok outDn noS
     unfold M.e.j1
     obtain ⟨_, _, a3⟩ := aae S5'
     simp [a3]
     refine anh S5' S5'.swap.rd (by have := W.len; omega) fun w6 v2 S6 => ?_
     rw [aku]
     obtain ⟨lp, r, cs, hc, S6u⟩ := awh (up5 S6)
     have S6r : St w0 w6 (kg v2 ls :: jw q hb lp r false :: ji r .u64 (mmE cs) :: ki es cs :: lj lp hb L :: ss ab p.tr p.b v :: rdA 8 gy v ls :: gp tb (pkC pkZ).toArray T.a :: gp pb (pkC p).toArray T.a :: ig hb D :: R) := S6u.up4
     refine bip S6r (bcm hc) (by have := W.len; omega) fun w7 v3 S7 => ?_
     have S7' : St w0 w7 (rdA 8 gy v3 (ko es ls) :: jw q hb lp r false :: ji r .u64 (mmE cs) :: ki es cs :: lj lp hb L :: ss ab p.tr p.b v :: rdA 8 gy v ls :: gp tb (pkC pkZ).toArray T.a :: gp pb (pkC p).toArray T.a :: ig hb D :: R) := S7
     obtain ⟨_, bl, _⟩ := aae (up5 S7')
     simp [bl]
     have S8 : St w0 w7 (jw q hb lp r false :: lj lp hb L :: ig hb D :: rdA 8 gy v3 (ko es ls) :: ji r .u64 (mmE cs) :: ki es cs :: ss ab p.tr p.b v :: rdA 8 gy v ls :: gp tb (pkC pkZ).toArray T.a :: gp pb (pkC p).toArray T.a :: R) := St.up3 (up5 (up9 S7'))
     have hfl : ∀ z ∈ ko es ls, z ∈ ls := fun z hz => (List.mem_filter.1 hz).1
     have hfll : (ko es ls).length ≤ 16 := Nat.le_trans (List.length_filter_le _ _) W.len
     refine axi S8 (fun w' L' S' => (S'.perm List.perm_middle).rd) (fun z hz => (W.ok z (hfl z hz)).1) (by omega) hg hf fun w8 S9 => ?_
     generalize hL' : (ny L D p.b (ko es ls)).1.1 = L' at *
     generalize hD' : (ny L D p.b (ko es ls)).1.2 = D' at *
     generalize hE' : (ny L D p.b (ko es ls)).2 = e' at *
     by_cases h0 : e' = 0
     ·subst h0
      simp
      refine bie (tr := p.tr) (b := p.b) (v := v) (fl := ko es ls) (ls := ls) (es := es) (cs := cs) (hb := hb) (p := lp) (r := r) (R := lj lp hb L' :: ig hb D' :: gp pb (pkC p).toArray T.a :: R) (S9.perm ?_) hc he hr.b W.tr hr.tr W.ne W.ids (fun z hz => ⟨(W.ok z hz).1, hls z hz⟩) W.len (fun z hz => ⟨(W.ok z (hfl z hz)).1, hls z (hfl z hz)⟩) hfll fun w9 cs' v' hc' T1 => ?_
      ·refine List.Perm.cons _ ?_
       have p1 := (List.perm_append_comm (l₁ := [lj lp hb L', ig hb D', rdA 8 gy v3 (ko es ls)]) (l₂ := [ji r .u64 (mmE cs), ki es cs, ss ab p.tr p.b v])).append_right (rdA 8 gy v ls :: gp tb (pkC pkZ).toArray T.a :: gp pb (pkC p).toArray T.a :: R)
       have p2 := (List.perm_append_comm (l₁ := [lj lp hb L', ig hb D']) (l₂ := [rdA 8 gy v3 (ko es ls), rdA 8 gy v ls, gp tb (pkC pkZ).toArray T.a])).append_right (gp pb (pkC p).toArray T.a :: R)
       exact p1.trans (List.Perm.cons _ (List.Perm.cons _ (List.Perm.cons _ p2)))
      ·have T2 : St w0 w9 (rdA 1 mw v' (mi ls) :: rdA 8 gy v3 (ko es ls) :: jw q hb lp r false :: ji r .u64 (mmE cs') :: ki ((ko es ls).foldl (ll p.b) es) cs' :: lj lp hb L' :: ig hb D' :: R) := (up7 T1).drop
       have T3 := T2.perm ((List.perm_append_comm (l₁ := [rdA 1 mw v' (mi ls), rdA 8 gy v3 (ko es ls)]) (l₂ := [jw q hb lp r false, ji r .u64 (mmE cs'), ki ((ko es ls).foldl (ll p.b) es) cs', lj lp hb L'])).append_right (ig hb D' :: R))
       have T4 := awx hc' T3
       exact hok' rfl w9 v' v3 (St.dn2 T4)
     ·simp [h0]
      refine awu (up8 S9) fun w9 T1 => ?_
      refine hbad' h0 w9 ?_
      have T2 : St w0 w9 (jw q hb lp r (decide (e' = 10)) :: lj lp hb L' :: ig hb D' :: ji r .u64 (mmE cs) :: ki es cs :: ss ab p.tr p.b v :: rdA 8 gy v ls :: gp pb (pkC p).toArray T.a :: R) := T1.up3.drop
      have T3 : St w0 w9 (jw q hb lp r (decide (e' = 10)) :: lj lp hb L' :: ig hb D' :: ji r .u64 (mmE cs) :: ki es cs :: R) := (up5 (up5 (up5 T2).drop).drop).drop
      have T4 : St w0 w9 (jw q hb lp r (decide (e' = 10)) :: ji r .u64 (mmE cs) :: ki es cs :: lj lp hb L' :: ig hb D' :: R) := T3.tail ((List.perm_append_comm (l₁ := [lj lp hb L', ig hb D']) (l₂ := [ji r .u64 (mmE cs), ki es cs])).append_right R)
      exact awx hc T4
  ·have hae : wrE p ls lm lu = false := by
    unfold wrE
    rw [decide_eq_false hk]; rfl
   simp [arq ht hk]
   have S4 := S3.mkB #[.int .u64 0, .int .u64 0, .int .u64 0, .slice none 0 0] T.h
   generalize w3.heap.size = ab at *
   generalize w3.alloc _ = w4 at *
   refine St.put (cs' := #[.int .u64 0, .int .u64 0, .int .u64 0, .slice none 0 0]) (vs := [.int .u64 0, .int .u64 0, .int .u64 0, .slice none 0 0]) S4 (by simp [jz]) (by simp) rfl fun w5 S5 => ?_
   exact awu S5.drop fun w' S' => hno hae w' S'.drop
 ·have hae : wrE p ls lm lu = false := by unfold wrE; rw [hre, Bool.and_false]
  have S3 := S2.jg f3
  simp [afb]
  have S4 := S3.mkB #[.int .u64 0, .int .u64 0, .int .u64 0, .slice none 0 0] T.h
  generalize w3.heap.size = ab at *
  generalize w3.alloc _ = w4 at *
  refine St.put (cs' := #[.int .u64 0, .int .u64 0, .int .u64 0, .slice none 0 0]) (vs := [.int .u64 0, .int .u64 0, .int .u64 0, .slice none 0 0]) S4 (by simp [jz]) (by simp) rfl fun w5 S5 => ?_
  exact awu S5.drop fun w' S' => hno hae w' S'.drop
end
set_option maxRecDepth 100000
open Go.Eng Go.Proofs.YtfnhoaemapheoaaGreat.Sint
section
variable {w0 w : World} {R : List Asn} {q hb : Nat} {es : List EnS} {L : Lg} {D : Dk} {s f : Int} {p : Pk} {ls : List Spn} {lm : List Mem} {lu : List Int} {ms X : List WrM} {Q : List Prt} {G : Nat} {x : Prop} {ib : Int}
theorem afl (S : St w0 w (ig hb D :: R)) (hv : Vir s f Q G D x) (hd : D.iu = false) (hm : 64 ≤ ib ∧ ib ≤ 1048576) (hQ : jf Q = X.map pr) (hX : ∀ m ∈ X, okM m) {K : KV}
  (h : ∀ w' q j s' f' L' D', G ≤ (X.take j).length → SI s' f' L' D' (X.take j) → L'.ib = ib → f' ≤ f → (X.take j).length ≤ X.length → D'.jk = D.jk → D'.ip = D.ip → D'.ij ≤ D.ij → L'.gk.length ≤ Q.length → (x → L'.gk = Q) → St w0 w' (rp q hb (jt (X.take j)) L' false :: ig hb D' :: R) → K (.tuple #[jv q, .int .i64 0]) w') : gb P F.dl [.pointer (some ⟨hb, 0, none⟩), .int .i64 ib] w K := by
 obtain ⟨s', f', Q', D', eo, g, e2, e3, ⟨j, e4⟩, e5, _, e6, e8, e9, e7⟩ := bko hv hd hm
 obtain ⟨y1, y2, y3, y4, _, y6, y7⟩ := aol g.vir g.up
 have hj : jf Q' = (X.take j).map pr := by rw [e4, hQ, List.map_take]
 have hok' : ∀ m ∈ X.take j, okM m := fun m hm => hX m (List.mem_of_mem_take hm)
 refine bfk S (by omega) eo g y1 hj hok' fun w2 q S2 => ?_
 have hl : (jf Q').length = (X.take j).length := by rw [hj, List.length_map]
 have y2' : Vir s' f' Q' (jf Q').length (Lg.my ⟨ib, Q'⟩ D').1 True := y2
 refine h w2 q j s' f' ⟨ib, Q'⟩ _ (by omega) ⟨⟨?_, g.size, y3⟩, hj, hok'⟩ rfl e7 (List.length_take_le' _ _) (by rw [y4, e2]) (by rw [y6, e3]) (by rw [y7]; exact e9) e8 (fun hx => (e6 hx).2.1) S2
 rw [← hl]
 exact y2'
theorem anm (hr : xn p) (hls : ∀ s ∈ ls, vk s) (W : WrP p ls) (hne : ko es ls ≠ []) : okM (p.b, ko es ls) :=
 ⟨hr.b, hne, fun s hs => ⟨(W.ok s (List.mem_filter.1 hs).1).1, hls s (List.mem_filter.1 hs).1⟩, fun s hs s' hs' => by rw [(W.ok s (List.mem_filter.1 hs).1).2, (W.ok s' (List.mem_filter.1 hs').1).2], Nat.le_trans (List.length_filter_le _ _) W.len⟩
theorem ati (W : WrP p ls) : (ko es ls).foldl (ll p.b) es = es ++ (ko es ls).map fun x => (p.b, x) := ayu W.ids
def qu (ms : List WrM) (b : Bal) (l : List Spn) : List WrM := if l = [] then ms else ms ++ [(b, l)]
theorem amw (ms : List WrM) (b : Bal) (l : List Spn) : jt (qu ms b l) = l.foldl (ll b) (jt ms) := by
 unfold qu
 split
 ·rename_i h; subst h; rfl
 ·rw [amn]; rfl
inductive ahn (s f ib B : Int) (arm : Bool) (ip : Int) (ms : List WrM) (b : Bal) (l : List Spn) : Int → List WrM → Bool → Lg → Dk → Prop
 | ok (L : Lg) (D : Dk) : SI s f L D (qu ms b l) → L.ib = ib → f + (qu ms b l).length ≤ B → (arm = false → D.jk = false) → D.ip = ip → ahn s f ib B arm ip ms b l 0 (qu ms b l) false L D
 | ul (L : Lg) (D : Dk) : SI s f L D ms → L.ib = ib → f + ms.length ≤ B → (arm = false → D.jk = false) → D.ip = ip → ahn s f ib B arm ip ms b l 9 ms false L D
 | iu (L : Lg) (D : Dk) (Q : List Prt) (Y : List WrM) : arm = true → D.iu = true → Vir s f Q ms.length D False → jf Q = Y.map pr → (Y = ms ∨ Y = qu ms b l) → (∀ m ∈ Y, okM m) → f + Y.length ≤ B → D.ip = ip → ahn s f ib B arm ip ms b l 10 ms true L D
theorem bfe {B : Int} (I : SI s f L D ms) {b : Bal} {l : List Spn} (hm : l ≠ [] → okM (b, l)) (hB : f + ms.length + 1 ≤ B) (hB2 : B ≤ 1000000000000) :
  ahn s f L.ib B D.jk D.ip ms b l (ny L D b l).2 (if (ny L D b l).2 = 0 then qu ms b l else ms) (decide ((ny L D b l).2 = 10)) (ny L D b l).1.1 (ny L D b l).1.2 := by
 unfold ny
 by_cases he : l = []
 ·rw [if_pos he]
  have e : qu ms b l = ms := by unfold qu; rw [if_pos he]
  simp only [if_true]
  have := ahn.ok (s := s) (f := f) (ib := L.ib) (B := B) (arm := D.jk) (ip := D.ip) (ms := ms) (b := b) (l := l) L D (by rw [e]; exact I) rfl (by rw [e]; omega) id rfl
  simpa using this
 ·rw [if_neg he]
  have ho := hm he
  have e : qu ms b l = ms ++ [(b, l)] := by unfold qu; rw [if_neg he]
  have hl := aug (B := B) I ho (by rw [I.len]; omega) hB2
  have er : pr (b, l) = lz b l := rfl
  rw [er] at hl
  rw [e]
  generalize wrF L D [lz b l] = z at *
  obtain ⟨⟨L', D'⟩, k⟩ := z
  simp only at hl ⊢
  cases hl with
  | ok _ _ i1 i2 i3 i4 i5 => rw [i1.len] at i3; simpa [e] using ahn.ok (s := s) (f := f) (ib := L.ib) (B := B) (arm := D.jk) (ip := D.ip) (ms := ms) (b := b) (l := l) L' D' (by rw [e]; exact i1) i2 (by rw [e]; exact i3) i4 i5
  | ul _ _ i1 i2 i3 i4 i5 => rw [i1.len] at i3; exact .ul L' D' i1 i2 i3 i4 i5
  | iu _ _ Q Y i1 i2 i3 i4 i5 i6 i7 i8 i9 =>
   have hlQ : (jf Q).length = Y.length := by rw [i4, List.length_map]
   refine .iu L' D' Q Y i1 i2 i3 i4 (by rw [e]; exact i5) ?_ (by omega) i7
   rcases i5 with rfl | rfl
   ·exact I.ok
   ·intro m hm'
    rcases List.mem_append.1 hm' with hm' | hm'
    ·exact I.ok m hm'
    ·rw [List.mem_singleton.1 hm']; exact ho
theorem bey {b : Bal} {l : List Spn} (I : SI s f L D ms) (hm : l ≠ [] → okM (b, l)) (hn : f + ms.length + 1 ≤ 1000000000000) (h1 : L.gk.length < 63) (h2 : D.jk = false) (h3 : (D.ij : Int) + 1752 ≤ D.ip) : (ny L D b l).2 = 0 ∧ (ny L D b l).1.2.ij ≤ D.ij + 1752 ∧ (ny L D b l).1.1.gk.length ≤ L.gk.length + 1 := by
 unfold ny
 by_cases he : l = []
 ·rw [if_pos he]
  exact ⟨rfl, by simp, by simp⟩
 rw [if_neg he]
 have hb := arb (hm he)
 have er : pr (b, l) = lz b l := rfl
 rw [er] at hb
 have ha := bdz (b := lz b l) I.aaq (by rw [I.len]; omega)
 have h0 : (L.append D (lz b l)).2 = 0 := by
  generalize L.append D (lz b l) = z at *
  cases ha with
  | aki hx => omega
  | ul D' hx _ _ _ => rcases hx with hx | hx <;> omega
  | iu D' Q hx => rw [h2] at hx; cases hx
  | ok => rfl
 rw [aps h0]
 generalize L.append D (lz b l) = z at *
 cases ha with
 | aki hx => simp at h0
 | ul => simp at h0
 | iu => simp at h0
 | ok L' D' g' e1 e2 e3 e4 e5 e6 e7 =>
  have e0 : wrF L' D' [] = ((L', (L'.my D').1), (L'.my D').2) := by unfold wrF rq; simp
  rw [e0]
  obtain ⟨y1, _, _, _, _, _, y7⟩ := aol g'.vir g'.up
  exact ⟨y1, by rw [y7]; omega, e2⟩
theorem abf (S : St w0 w (rp q hb (jt ms) L false :: ig hb D :: R)) (hp : ∀ w' R', St w0 w' (R' ++ R) → pw w' p ls lm lu) (hr : xn p) (hls : ∀ s ∈ ls, vk s) (I : SI s f L D ms) (hn : f + ms.length + 1 ≤ 1000000000000) (hw : wrE p ls lm lu = true) (h1 : L.gk.length < 63) (h2 : D.jk = false) (h3 : (D.ij : Int) + 1752 ≤ D.ip) {K : KV}
  (h : ∀ w' v' v3 L' D', SI s f L' D' (qu ms p.b (ko (jt ms) ls)) → L'.ib = L.ib → D'.jk = false → D'.ip = D.ip → D'.ij ≤ D.ij + 1752 → L'.gk.length ≤ L.gk.length + 1 → St w0 w' (rdA 1 mw v' (mi ls) :: rdA 8 gy v3 (ko (jt ms) ls) :: rp q hb (jt (qu ms p.b (ko (jt ms) ls))) L' false :: ig hb D' :: R) → K (.tuple #[pkA (oe p.tr v'), v3, .int .i64 0]) w') :
  gb P F.ax [jv q, pkA p] w K := by
 have up : D.iu = false := I.aaq.up
 obtain ⟨_, W⟩ := ahy hw
 obtain ⟨s1, s2, s3⟩ := bey (b := p.b) (l := ko (jt ms) ls) I (fun hne => anm hr hls W hne) hn h1 h2 h3
 have hl := bfe (B := f + ms.length + 1) (b := p.b) (l := ko (jt ms) ls) I (fun hne => anm hr hls W hne) (Int.le_refl _) hn
 rw [if_pos s1, s1] at hl
 refine bdc (s := s) (f := f) S hp hr hls (auv I.ok) (fun _ _ => ⟨_, I.aaq⟩) (by rw [I.len]; omega) (fun h => by rw [hw] at h; cases h) (fun _ hd => by rw [up] at hd; cases hd) (fun _ _ _ h0 => absurd s1 h0) fun _ _ _ _ w' v' v3 S' => ?_
 rw [← amw] at S'
 generalize (ny L D p.b (ko (jt ms) ls)).1.1 = L' at *
 generalize (ny L D p.b (ko (jt ms) ls)).1.2 = D' at *
 generalize hdd : decide ((0 : Int) = 10) = dd at hl
 cases hl with
 | ok _ _ i1 i2 i3 i4 i5 => exact h w' v' v3 L' D' i1 i2 (i4 h2) i5 s2 s3 S'
end
end Go.Proofs.YtfnhoaemapheoaaGreat
