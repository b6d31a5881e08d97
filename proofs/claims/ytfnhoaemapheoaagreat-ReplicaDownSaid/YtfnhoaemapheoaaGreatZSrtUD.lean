/-
  Sorting a row of whole numbers (uint64): the partial insertion sort, the range turned round. No condition.
-/
import Derived.Test.YtfnhoaemapheoaaGreatZCatI
import Derived.Test.YtfnhoaemapheoaaGreatZSpn0
import Derived.Test.YtfnhoaemapheoaaGreatZEngSl
import Derived.Test.YtfnhoaemapheoaaGreatZMs0
import Derived.Test.YtfnhoaemapheoaaGreatM
import Derived.Test.YtfnhoaemapheoaaGreatFacts
import Derived.Test.YtfnhoaemapheoaaGreatZKeyD
set_option maxRecDepth 100000
namespace Go.Proofs.YtfnhoaemapheoaaGreat.Suint64
open Go.Eng Go.Sort
def RvI (w : World) (g : Nat) (e : TypeId) (cap n : Nat) (R : Array Int) : KL := fun x w1 => ∃ (i j : Nat) (d : Array Int), x = [.int .i64 (i : Int), .int .i64 (j : Int)] ∧ Rf w w1 g e cap d ∧ d.size = n ∧ i ≤ n ∧ j < n ∧ reverseLoop i j d = R
theorem aej {w : World} {g cap n : Nat} {e : TypeId} {d : Array Int} (H : Rw w g e cap d) (hn : d.size = n) (h6 : n < 100000) {a b : Nat} (hb : b ≤ n) (hab : a < b) {K : KV}
  (h : ∀ w', Rf w w' g e cap (reverseRange d a b) → K (.tuple #[]) w') : iz P F.af [.slice (some ⟨g, 0, none⟩) n cap, .int .i64 a, .int .i64 b] w K := by
 apply M.am.calls
 unfold M.am
 have hw2 : IntKind.i64.wrap ((b : Int) - 1) = ((b - 1 : Nat) : Int) := by rw [fp (by omega) (by omega)]; omega
 simp only [jl, hw2]
 unfold reverseRange at h
 generalize hR : reverseLoop a (b - 1) d = R at *
 refine ⟨RvI w g e cap n R, fun x _ => ms x 1 - ms x 0, ⟨a, b - 1, d, rfl, H.nj, hn, by omega, by omega, hR⟩, ?_⟩
 clear hR
 rintro x w1 ⟨i, j, d1, rfl, H1, hn1, hi, hj, hR⟩
 simp only [fm, g20, g21]
 unfold reverseLoop at hR
 by_cases hij : i < j
 ·have hij' : (i : Int) < j := by omega
  rw [if_pos hij] at hR
  simp only [ka, hij', decide_true, Eng.cond_true]
  unfold M.am.j1
  have c1 := H1.row.at (show i < d1.size by omega)
  have c2 := H1.row.at (show j < d1.size by omega)
  have e1 : (i : Int) < n := by omega
  have e2 : (j : Int) < n := by omega
  have f1 := H1.row.frz i
  have f2 := H1.row.frz j
  have hw3 : IntKind.i64.wrap ((i : Int) + 1) = ((i + 1 : Nat) : Int) := jv (by omega)
  have hw4 : IntKind.i64.wrap ((j : Int) - 1) = ((j - 1 : Nat) : Int) := by rw [fp (by omega) (by omega)]; omega
  simp [g20, g21, e1, e2, c1, c2, f1, f2, gt, ib, hw3, hw4, -Int.natCast_add]
  refine ⟨⟨i + 1, j - 1, _, rfl, (H1.dr 1).swp (by omega) (by omega), by rw [size_swp]; exact hn1, by omega, by omega, hR⟩, ?_⟩
  simp [ms, gv]; omega
 ·have hij' : ¬ (i : Int) < j := by omega
  rw [if_neg hij] at hR
  subst hR
  simp only [ka, hij', decide_false, Eng.cond_false]
  exact h w1 H1
theorem aab (d : Array Int) (b : Nat) : ∀ m i, b - i ≤ m → i ≤ b → i ≤ scanSorted ltInt d b i ∧ scanSorted ltInt d b i ≤ b := by
 intro m
 induction m with
 | zero =>
  intro i hm hi
  unfold scanSorted
  rw [if_neg (by simp; omega)]
  omega
 | succ m ih =>
  intro i hm hi
  unfold scanSorted
  split
  ·rename_i h
   simp at h
   have := ih (i + 1) (by omega) (by omega)
   omega
  ·omega
theorem th : ∀ (j : Nat) (d : Array Int), (shiftDown ltInt j d).size = d.size
 | 0, _ => rfl
 | j + 1, d => by
  unfold shiftDown
  split
  ·rfl
  ·rw [th j, size_swp]
theorem abb (b : Nat) : ∀ (m j : Nat) (d : Array Int), b - j ≤ m → (shiftUp ltInt b j d).size = d.size := by
 intro m
 induction m with
 | zero =>
  intro j d hm
  unfold shiftUp
  rw [if_neg (by omega)]
 | succ m ih =>
  intro j d hm
  unfold shiftUp
  split
  ·split
   ·rfl
   ·rw [ih _ _ (by omega), size_swp]
  ·rfl
section
variable {w : World} {g cap n : Nat} {e : TypeId} {d : Array Int}
def SsI (w : World) (g : Nat) (e : TypeId) (cap : Nat) (d : Array Int) (a b r : Nat) : KL := fun x w1 => ∃ i : Nat, x = [.int .i64 (i : Int)] ∧ Rf w w1 g e cap d ∧ a < i ∧ i ≤ b ∧ scanSorted ltInt d b i = r
theorem aim (H : Rw w g e cap d) (hn : d.size = n) (h6 : n < 100000) {a b i : Nat} (hb : b ≤ n) (ha : a < i) (hi : i ≤ b) {K4 : KL} {K : KV}
  (h : ∀ w', Rf w w' g e cap d → K4 [.int .i64 (scanSorted ltInt d b i : Nat)] w') :
  fk (fun K4 => gy [.int .i64 (i : Int)] w fun K5 x5 w => M.a.j5 x5 (.int .i64 (b : Int)) (.slice (some ⟨g, 0, none⟩) n cap) K4 K5 w K) K4 := by
 rw [fm]
 generalize hr : scanSorted ltInt d b i = r at *
 refine ⟨SsI w g e cap d a b r, fun x _ => b - ms x 0, ⟨i, rfl, H.nj, ha, hi, hr⟩, ?_⟩
 clear hr
 rintro x w1 ⟨k, rfl, H1, hak, hkb, hR⟩
 unfold M.a.j5
 unfold scanSorted at hR
 by_cases hk : k < b
 ·have a1 := H1.row.at (show k < d.size by omega)
  have a2 := H1.row.at (show k - 1 < d.size by omega)
  have b1 : (k : Int) < n := by omega
  have b2 : ((k - 1 : Nat) : Int) < n := by omega
  have b3 : (k : Int) < b := by omega
  have hw : IntKind.i64.wrap ((k : Int) - 1) = ((k - 1 : Nat) : Int) := by rw [fp (by omega) (by omega)]; omega
  simp [g0, b1, b2, b3, a1, a2, hw]
  refine kc _ _ ?_
  cases hl : ltInt d[k]! d[k - 1]! with
  | true =>
   rw [if_neg (by simp [hl])] at hR
   simp
   rw [← hR] at h
   exact h _ (H1.dr 1)
  | false =>
   rw [if_pos (by simp [hl, hk])] at hR
   simp [jv (show k < 1000000 by omega)]
   refine ⟨⟨k + 1, by simp, H1.dr 1, by omega, by omega, hR⟩, ?_⟩
   simp [ms, gv]; omega
 ·have b3 : ¬ (k : Int) < b := by omega
  rw [if_neg (by simp [hk])] at hR
  simp [g0, b3]
  rw [← hR] at h
  exact h _ (H1.dr 1)
def SdI (w : World) (g : Nat) (e : TypeId) (cap n : Nat) (R : Array Int) : KL := fun x w1 => ∃ (j : Nat) (d : Array Int), x = [.int .i64 (j : Int)] ∧ Rf w w1 g e cap d ∧ d.size = n ∧ j < n ∧ shiftDown ltInt j d = R
theorem ait (H : Rw w g e cap d) (hn : d.size = n) (h6 : n < 100000) {j : Nat} (hj : j < n) {K9 : KL} {K : KV}
  (h : ∀ w' v, Rf w w' g e cap (shiftDown ltInt j d) → K9 [v] w') :
  gy [.int .i64 (j : Int)] w fun K10 x10 w => fk (fun K11 => fi P .geq T.b (.tmp 64) (.const (.int .i64 1)) (gv x10 0) (.int .i64 1) w fun t65 w => fl t65 (K11 [] w) (K9 [(gv x10 0)] w)) fun x11 w => M.a.j11 (.slice (some ⟨g, 0, none⟩) n cap) x10 K9 K10 w K := by
 generalize hr : shiftDown ltInt j d = R at *
 refine ⟨SdI w g e cap n R, fun x _ => ms x 0, ⟨j, d, rfl, H.nj, hn, hj, hr⟩, ?_⟩
 clear hr
 rintro x w1 ⟨k, d1, rfl, H1, hn1, hk, hR⟩
 simp only [fm, g0, lc]
 cases k with
 | zero =>
  have hk0 : ¬ (1 : Int) ≤ ((0 : Nat) : Int) := by omega
  simp only [hk0, decide_false, Eng.cond_false]
  unfold shiftDown at hR
  subst hR
  exact h _ _ H1
 | succ k =>
  have hk0 : (1 : Int) ≤ ((k + 1 : Nat) : Int) := by omega
  simp only [hk0, decide_true, Eng.cond_true]
  unfold M.a.j11
  unfold shiftDown at hR
  have a1 := H1.row.at (show k + 1 < d1.size by omega)
  have a2 := H1.row.at (show k < d1.size by omega)
  have b1 : ((k + 1 : Nat) : Int) < n := by omega
  have b2 : (k : Int) < n := by omega
  have f1 := H1.row.frz (k + 1)
  have f2 := H1.row.frz k
  have hw : IntKind.i64.wrap (((k + 1 : Nat) : Int) - 1) = (k : Int) := by rw [fp (by omega) (by omega)]; omega
  simp [g0, b1, b2, a1, a2, hw, -Int.natCast_add]
  refine kc _ _ ?_
  cases hl : ltInt d1[k + 1]! d1[k]! with
  | false =>
   rw [if_pos (by simp [hl])] at hR
   subst hR
   simp
   exact h _ _ (H1.dr 1)
  | true =>
   rw [if_neg (by simp [hl])] at hR
   simp [-Int.natCast_add]
   unfold M.a.j13
   simp [g0, b1, b2, a1, a2, f1, f2, hw, gt, ib, -Int.natCast_add]
   refine ⟨⟨k, _, rfl, ((H1.dr 1).dr 1).swp (by omega) (by omega), by rw [size_swp]; exact hn1, by omega, hR⟩, ?_⟩
   simp [ms, gv]
def SuI (w : World) (g : Nat) (e : TypeId) (cap n b : Nat) (R : Array Int) : KL := fun x w1 => ∃ (j : Nat) (d : Array Int), x = [.int .i64 (j : Int)] ∧ Rf w w1 g e cap d ∧ d.size = n ∧ 1 ≤ j ∧ j ≤ b ∧ shiftUp ltInt b j d = R
theorem aqt (H : Rw w g e cap d) (hn : d.size = n) (h6 : n < 100000) {j b : Nat} (hb : b ≤ n) (hj : 1 ≤ j) (hjb : j ≤ b) {K3 : KL} {x4 x8 x9 : List Value} {K : KV}
  (h : ∀ w' v, Rf w w' g e cap (shiftUp ltInt b j d) → K3 [gv x4 0, gv x8 0, gv x9 0, v] w') :
  gy [.int .i64 (j : Int)] w fun K14 x14 w => M.a.j14 x14 (.int .i64 (b : Int)) K3 x4 x8 x9 (.slice (some ⟨g, 0, none⟩) n cap) K14 w K := by
 generalize hr : shiftUp ltInt b j d = R at *
 refine ⟨SuI w g e cap n b R, fun x _ => b - ms x 0, ⟨j, d, rfl, H.nj, hn, hj, hjb, hr⟩, ?_⟩
 clear hr
 rintro x w1 ⟨k, d1, rfl, H1, hn1, hk1, hk, hR⟩
 unfold M.a.j14
 simp only [fm, g0, ka]
 unfold shiftUp at hR
 by_cases hkb : k < b
 ·have hkb' : (k : Int) < b := by omega
  rw [if_pos hkb] at hR
  simp only [hkb', decide_true, Eng.cond_true]
  unfold M.a.j15
  have a1 := H1.row.at (show k < d1.size by omega)
  have a2 := H1.row.at (show k - 1 < d1.size by omega)
  have b1 : (k : Int) < n := by omega
  have b2 : ((k - 1 : Nat) : Int) < n := by omega
  have f1 := H1.row.frz k
  have f2 := H1.row.frz (k - 1)
  have hw : IntKind.i64.wrap ((k : Int) - 1) = ((k - 1 : Nat) : Int) := by rw [fp (by omega) (by omega)]; omega
  simp [g0, b1, b2, a1, a2, hw]
  refine kc _ _ ?_
  cases hl : ltInt d1[k]! d1[k - 1]! with
  | false =>
   rw [if_pos (by simp [hl])] at hR
   subst hR
   simp
   exact h _ _ (H1.dr 1)
  | true =>
   rw [if_neg (by simp [hl])] at hR
   simp
   unfold M.a.j17
   simp [g0, b1, b2, a1, a2, f1, f2, hw, gt, ib, jv (show k < 1000000 by omega)]
   refine ⟨⟨k + 1, _, by simp, ((H1.dr 1).dr 1).swp (by omega) (by omega), by rw [size_swp]; exact hn1, by omega, by omega, hR⟩, ?_⟩
   simp [ms, gv]; omega
 ·have hkb' : ¬ (k : Int) < b := by omega
  rw [if_neg hkb] at hR
  simp only [hkb', decide_false, Eng.cond_false]
  subst hR
  exact h _ _ H1
end
def PiI (w : World) (g : Nat) (e : TypeId) (cap n a b : Nat) (R : Array Int × Bool) : KL := fun x w1 => ∃ (u1 u2 u3 : Value) (i s : Nat) (d : Array Int), x = [.int .i64 (i : Int), u1, u2, u3, .int .i64 ((5 - s : Nat) : Int)] ∧ Rf w w1 g e cap d ∧ d.size = n ∧ s ≤ 5 ∧ a < i ∧ i ≤ b ∧ partialIns ltInt a b s i d = R
theorem zz {w : World} {g cap n : Nat} {e : TypeId} {d : Array Int} (H : Rw w g e cap d) (hn : d.size = n) (h6 : n < 100000) {a b : Nat} (hb : b ≤ n) (hab : a < b) {K : KV}
  (h : ∀ w', Rf w w' g e cap (partialInsertionSort ltInt d a b).1 → K (.bool (partialInsertionSort ltInt d a b).2) w') : iz P F.m [.slice (some ⟨g, 0, none⟩) n cap, .int .i64 a, .int .i64 b] w K := by
 apply M.a.calls
 unfold M.a
 simp only [jf, jv (show a < 1000000 by omega), fm]
 unfold partialInsertionSort at h
 generalize hR : partialIns ltInt a b 5 (a + 1) d = R at *
 refine ⟨PiI w g e cap n a b R, fun x _ => 5 - ms x 4, ⟨_, _, _, a + 1, 5, d, rfl, H.nj, hn, by omega, by omega, by omega, hR⟩, ?_⟩
 clear hR
 rintro x w1 ⟨u1, u2, u3, i, s, d1, rfl, H1, hn1, hs, hai, hib, hR⟩
 have q0 : ∀ a b c d e : Value, gv [a, b, c, d, e] 0 = a := fun _ _ _ _ _ => rfl
 have q1 : ∀ a b c d e : Value, gv [a, b, c, d, e] 1 = b := fun _ _ _ _ _ => rfl
 have q2 : ∀ a b c d e : Value, gv [a, b, c, d, e] 2 = c := fun _ _ _ _ _ => rfl
 have q3 : ∀ a b c d e : Value, gv [a, b, c, d, e] 3 = d := fun _ _ _ _ _ => rfl
 have q4 : ∀ a b c d e : Value, gv [a, b, c, d, e] 4 = e := fun _ _ _ _ _ => rfl
 unfold M.a.j1
 simp only [fm, q0, q1, q2, q3, q4, ka]
 cases s with
 | zero =>
  simp
  unfold partialIns at hR
  subst hR
  exact h _ H1
 | succ s =>
  rw [show 5 - (s + 1) = 4 - s from by omega]
  have hs5 : ((4 - s : Nat) : Int) < 5 := by omega
  simp only [hs5, decide_true, Eng.cond_true]
  unfold M.a.j2
  unfold partialIns at hR
  simp only at hR
  rw [fm]
  simp only [q0, q1, q2, q3, q4]
  refine aim (a := a) H1.row hn1 h6 hb hai hib fun w2 H2 => ?_
  have hsc := aab d1 b _ i (Nat.le_refl _) hib
  generalize scanSorted ltInt d1 b i = i2 at *
  have H2' := H1.trans H2
  simp only [fm, g0, sk]
  by_cases hib2 : i2 = b
  ·have : (i2 : Int) = b := by omega
   rw [if_pos hib2] at hR
   simp only [this, decide_true, Eng.cond_true]
   subst hR
   exact h _ H2'
  have hib2' : ¬ (i2 : Int) = b := by omega
  rw [if_neg hib2] at hR
  simp only [hib2', decide_false, Eng.cond_false]
  unfold M.a.j7
  have hw0 : IntKind.i64.wrap ((b : Int) - a) = ((b - a : Nat) : Int) := oh (by omega) (by omega)
  simp only [fm, jl, hw0, ka]
  by_cases h50 : b - a < 50
  ·have : ((b - a : Nat) : Int) < 50 := by omega
   rw [if_pos h50] at hR
   simp only [this, decide_true, Eng.cond_true]
   subst hR
   exact h _ H2'
  have h50' : ¬ ((b - a : Nat) : Int) < 50 := by omega
  rw [if_neg h50] at hR
  simp only [h50', decide_false, Eng.cond_false]
  unfold M.a.j8
  have a1 := H2.row.at (show i2 < d1.size by omega)
  have a2 := H2.row.at (show i2 - 1 < d1.size by omega)
  have b1 : (i2 : Int) < n := by omega
  have b2 : ((i2 - 1 : Nat) : Int) < n := by omega
  have f1 := H2.row.frz i2
  have f2 := H2.row.frz (i2 - 1)
  have hw : IntKind.i64.wrap ((i2 : Int) - 1) = ((i2 - 1 : Nat) : Int) := by rw [fp (by omega) (by omega)]; omega
  have hwa : IntKind.i64.wrap ((i2 : Int) - a) = ((i2 - a : Nat) : Int) := oh (by omega) (by omega)
  simp [g0, b1, b2, a1, a2, f1, f2, hw, hwa, gt, ib, -fm]
  have H3 := (H2'.dr 1).swp (i := i2) (j := i2 - 1) (by omega) (by omega)
  generalize ((dr w2 1).setCell ⟨g, i2, none⟩ (.int .u64 d1[i2 - 1]!)).setCell ⟨g, i2 - 1, none⟩ (.int .u64 d1[i2]!) = w3 at *
  have hn3 : (Sort.swp d1 i2 (i2 - 1)).size = n := by rw [size_swp]; exact hn1
  generalize Sort.swp d1 i2 (i2 - 1) = d3 at *
  -- behind the shift gr
  have tail : ∀ (x9 : List Value) (w4 : World) (d4 : Array Int), Rf w w4 g e cap d4 → d4.size = n → partialIns ltInt a b s i2 (if b - i2 ≥ 2 then shiftUp ltInt b (i2 + 1) d4 else d4) = R → ∀ (K3 : KL) (x8 x1 : List Value),
    (∀ w' v, ∀ d5, Rf w w' g e cap d5 → d5.size = n → partialIns ltInt a b s i2 d5 = R → K3 [.int .i64 (i2 : Int), gv x8 0, gv x9 0, v] w') →
    M.a.j9 (.int .i64 b) [.int .i64 i2] K3 x8 x9 (.slice (some ⟨g, 0, none⟩) n cap) x1 w4 K := by
   intro x9 w4 d4 H4 hn4 hR4 K3 x8 x1 hK
   unfold M.a.j9
   have hwb : IntKind.i64.wrap ((b : Int) - i2) = ((b - i2 : Nat) : Int) := oh (by omega) (by omega)
   simp only [g0, jl, hwb, lc]
   by_cases h2 : b - i2 ≥ 2
   ·have h2' : (2 : Int) ≤ ((b - i2 : Nat) : Int) := by omega
    rw [if_pos h2] at hR4
    simp only [h2', decide_true, Eng.cond_true, jf, jv (show i2 < 1000000 by omega)]
    refine aqt H4.row hn4 h6 hb (by omega) (by omega) fun w5 v H5 => ?_
    exact hK _ v _ (H4.trans H5) (by rw [abb _ _ _ _ (Nat.le_refl _)]; exact hn4) hR4
   ·have h2' : ¬ (2 : Int) ≤ ((b - i2 : Nat) : Int) := by omega
    rw [if_neg h2] at hR4
    simp only [h2', decide_false, Eng.cond_false]
    exact hK _ _ _ H4 hn4 hR4
  have fin : ∀ w' (x : List Value) d5, gv x 0 = .int .i64 i2 → Rf w w' g e cap d5 → d5.size = n → partialIns ltInt a b s i2 d5 = R →
    PiI w g e cap n a b R [gv x 0, gv x 1, gv x 2, gv x 3, .int .i64 (IntKind.i64.wrap (((4 - s : Nat) : Int) + 1))] w' ∧ 5 - ms [gv x 0, gv x 1, gv x 2, gv x 3, .int .i64 (IntKind.i64.wrap (((4 - s : Nat) : Int) + 1))] 4 < 5 - ms [.int .i64 (i : Int), u1, u2, u3, .int .i64 ((4 - s : Nat) : Int)] 4 := by
   intro w' x d5 hx H5 hn5 hR5
   have : IntKind.i64.wrap (((4 - s : Nat) : Int) + 1) = ((5 - s : Nat) : Int) := by rw [fp (by omega) (by omega)]; omega
   rw [this, hx]
   refine ⟨⟨_, _, _, i2, s, d5, rfl, H5, hn5, by omega, by omega, by omega, hR5⟩, ?_⟩
   simp only [ms, q4]; omega
  by_cases h2 : i2 - a ≥ 2
  ·have h2' : (2 : Int) ≤ ((i2 - a : Nat) : Int) := by omega
   rw [if_pos h2] at hR
   simp only [fm, h2', decide_true, Eng.cond_true]
   refine ait H3.row hn3 h6 (by omega) fun w4 v H4 => ?_
   refine tail _ _ _ (H3.trans H4) (by rw [th]; exact hn3) hR _ _ _ fun w' v d5 H5 hn5 hR5 => ?_
   exact fin w' [.int .i64 (i2 : Int), _, _, v] d5 rfl H5 hn5 hR5
  ·have h2' : ¬ (2 : Int) ≤ ((i2 - a : Nat) : Int) := by omega
   rw [if_neg h2] at hR
   simp only [fm, h2', decide_false, Eng.cond_false]
   refine tail _ _ _ H3 hn3 hR _ _ _ fun w' v d5 H5 hn5 hR5 => ?_
   exact fin w' [.int .i64 (i2 : Int), _, _, v] d5 rfl H5 hn5 hR5
set_option maxRecDepth 100000
open Go.Eng Go.Sort
theorem Rf.xi {w w' w'' : World} {g cap sb : Nat} {e : TypeId} {d : Array Int} (h : Rf w w' g e cap d) (f : Fr (fun b => b = sb) w' w'') (hs : w.heap.size ≤ sb) (hne : sb ≠ g) : Rf w w'' g e cap d :=
 ⟨h.row.fr f fun h => hne h.symm, h.fr.jp f fun b hb he => by omega⟩
theorem Rf.new {w w' : World} {g cap : Nat} {e : TypeId} {d : Array Int} (h : Rf w w' g e cap d) (o : Obj) : Rf w (w'.alloc o) g e cap d :=
 ⟨h.row.fr ((Fr.refl (fun _ => False) w').alloc o) fun h => h, h.fr.alloc o⟩
def Sw (w : World) (sb : Nat) : Prop := ∃ x e, w.heap[sb]? = some (.cells #[.int .i64 x] e (0, 0))
theorem uw {w : World} {g cap n sb : Nat} {e : TypeId} {d : Array Int} (H : Rw w g e cap d) (hn : d.size = n) (S : Sw w sb) (hne : sb ≠ g) {a b : Nat} (ha : a < n) (hb : b < n) {K : KV}
  (h : ∀ w' x y, (x = a ∧ y = b ∨ x = b ∧ y = a) → Sw w' sb → Fr (fun b => b = sb) w w' → K (.tuple #[.int .i64 (x : Nat), .int .i64 (y : Nat)]) w') :
  fj P F.u [.slice (some ⟨g, 0, none⟩) n cap, .int .i64 a, .int .i64 b, .pointer (some ⟨sb, 0, none⟩)] w K := by
 rw [M.ce.fcall]
 apply M.ce.calls
 unfold M.ce
 have a1 := H.at (show a < d.size by omega)
 have a2 := H.at (show b < d.size by omega)
 have b1 : (a : Int) < n := by omega
 have b2 : (b : Int) < n := by omega
 simp [b1, b2, a1, a2]
 refine kc _ _ ?_
 obtain ⟨x, e', hx⟩ := S
 cases hl : ltInt d[b]! d[a]! with
 | false =>
  simp
  exact h _ a b (.inl ⟨rfl, rfl⟩) ⟨x, e', hx⟩ ((Fr.refl _ _).dr 1)
 | true =>
  have c0 := fx hx 0
  have f0 := mf hx 0
  simp only [List.size_toArray, List.getElem?_toArray, List.getElem?_cons_zero] at c0
  simp [c0, f0]
  exact h _ b a (.inr ⟨rfl, rfl⟩) ⟨IntKind.i64.wrap (x + 1), e', aay hx⟩ (((Fr.refl (fun b => b = sb) w).dr 1).setCell (.inl rfl) _ _)
theorem zo {w : World} {g cap n sb : Nat} {e : TypeId} {d : Array Int} (H : Rw w g e cap d) (hn : d.size = n) (S : Sw w sb) (hne : sb ≠ g) {a b c : Nat} (ha : a < n) (hb : b < n) (hc : c < n) {K : KV}
  (h : ∀ w' x, (x = a ∨ x = b ∨ x = c) → Sw w' sb → Fr (fun b => b = sb) w w' → K (.int .i64 (x : Nat)) w') :
  fj P F.t [.slice (some ⟨g, 0, none⟩) n cap, .int .i64 a, .int .i64 b, .int .i64 c, .pointer (some ⟨sb, 0, none⟩)] w K := by
 rw [M.cd.fcall]
 apply M.cd.calls
 unfold M.cd
 refine uw H hn S hne ha hb fun w1 x1 y1 h1 S1 f1 => ?_
 simp
 have H1 := H.fr f1 fun h => hne h.symm
 refine uw H1 hn S1 hne (a := y1) (b := c) (by omega) hc fun w2 x2 y2 h2 S2 f2 => ?_
 simp
 have H2 := H1.fr f2 fun h => hne h.symm
 refine uw H2 hn S2 hne (a := x1) (b := x2) (by omega) (by omega) fun w3 x3 y3 h3 S3 f3 => ?_
 simp
 exact h w3 y3 (by omega) S3 ((f1.trans f2).trans f3)
theorem abo {w : World} {g cap n sb : Nat} {e : TypeId} {d : Array Int} (H : Rw w g e cap d) (hn : d.size = n) (h6 : n < 100000) (S : Sw w sb) (hne : sb ≠ g) {a : Nat} (ha : 1 ≤ a) (hb : a + 1 < n) {K : KV}
  (h : ∀ w' x, (x = a - 1 ∨ x = a ∨ x = a + 1) → Sw w' sb → Fr (fun b => b = sb) w w' → K (.int .i64 (x : Nat)) w') :
  fj P F.f [.slice (some ⟨g, 0, none⟩) n cap, .int .i64 a, .pointer (some ⟨sb, 0, none⟩)] w K := by
 rw [M.bf.fcall]
 apply M.bf.calls
 unfold M.bf
 have hw1 : IntKind.i64.wrap ((a : Int) - 1) = ((a - 1 : Nat) : Int) := by rw [fp (by omega) (by omega)]; omega
 have hw2 : IntKind.i64.wrap ((a : Int) + 1) = ((a + 1 : Nat) : Int) := jv (by omega)
 simp only [jl, jf, hw1, hw2]
 refine zo H hn S hne (by omega) (by omega) (by omega) fun w' x hx S' f' => ?_
 exact h w' x hx S' f'
theorem aiu {w : World} {g cap n : Nat} {e : TypeId} {d : Array Int} (H : Rw w g e cap d) (hn : d.size = n) (h6 : n < 100000) {a b : Nat} (hb : b ≤ n) (hab : a + 12 < b) {K : KV}
  (h : ∀ w' (p hint : Nat), a ≤ p → p < b → hint ≤ 2 → Rf w w' g e cap d → K (.tuple #[.int .i64 (p : Nat), .int .i64 (hint : Nat)]) w') :
  iz P F.ah [.slice (some ⟨g, 0, none⟩) n cap, .int .i64 a, .int .i64 b] w K := by
 apply M.aa.calls
 unfold M.aa
 have hw0 : IntKind.i64.wrap ((b : Int) - a) = ((b - a : Nat) : Int) := oh (by omega) (by omega)
 generalize hl : b - a = l at *
 have q4 : IntKind.i64.wrap (((l : Nat) : Int).tdiv 4) = ((l / 4 : Nat) : Int) := by rw [Int.tdiv_eq_ediv_of_nonneg (by omega), fp (by omega) (by omega)]; omega
 have m1 : IntKind.i64.wrap (((l / 4 : Nat) : Int) * 1) = ((l / 4 : Nat) : Int) := by rw [fp (by omega) (by omega)]; omega
 have m2 : IntKind.i64.wrap (((l / 4 : Nat) : Int) * 2) = ((l / 4 * 2 : Nat) : Int) := by rw [fp (by omega) (by omega)]; omega
 have m3 : IntKind.i64.wrap (((l / 4 : Nat) : Int) * 3) = ((l / 4 * 3 : Nat) : Int) := by rw [fp (by omega) (by omega)]; omega
 have s1 : IntKind.i64.wrap ((a : Int) + ((l / 4 : Nat) : Int)) = ((a + l / 4 : Nat) : Int) := by rw [fp (by omega) (by omega)]; omega
 have s2 : IntKind.i64.wrap ((a : Int) + ((l / 4 * 2 : Nat) : Int)) = ((a + l / 4 * 2 : Nat) : Int) := by rw [fp (by omega) (by omega)]; omega
 have s3 : IntKind.i64.wrap ((a : Int) + ((l / 4 * 3 : Nat) : Int)) = ((a + l / 4 * 3 : Nat) : Int) := by rw [fp (by omega) (by omega)]; omega
 have bq : ∀ (x : Int) (t : TypeId) (rx ry : Operand) (w : World) (K : KV), fi P .quo t rx ry (.int .i64 x) (.int .i64 4) w K = K (.int .i64 (IntKind.i64.wrap (x.tdiv 4))) w := fun x t rx ry w K => aav (by decide)
 have al : ∀ (w : World) (K : KV), alT P T.b w K = K (.pointer (some ⟨w.heap.size, 0, none⟩)) (w.alloc (.cells #[.int .i64 0] T.b)) := fun w K => Eq.trans (by kernel_rfl) rfl
 have c8 : (8 : Int) ≤ (l : Int) := by omega
 simp only [jl, jf, tc, bq, hw0, q4, m1, m2, m3, s1, s2, s3, al, lc, c8, decide_true, Eng.cond_true]
 clear q4 m1 m2 m3 s1 s2 s3 bq al c8 hw0
 have H0 := H.nj.new (.cells #[.int .i64 0] T.b)
 have S0 : Sw (w.alloc (.cells #[.int .i64 0] T.b)) w.heap.size := ⟨0, T.b, by rw [gh, if_pos rfl]⟩
 have hne : w.heap.size ≠ g := by have := H.lt; omega
 generalize w.alloc (.cells #[.int .i64 0] T.b) = w0 at *
 have fin : ∀ (w1 : World) (p : Nat) (v1 v2 : Value), a ≤ p → p < b → Rf w w1 g e cap d → Sw w1 w.heap.size → M.aa.j0 (.pointer (some ⟨w.heap.size, 0, none⟩)) [v1, .int .i64 (p : Nat), v2] w1 K := by
  intro w1 p v1 v2 hp1 hp2 H1 S1
  obtain ⟨x, e', hx⟩ := S1
  unfold M.aa.j0
  have c0 := fx hx 0
  simp only [List.size_toArray, List.getElem?_toArray, List.getElem?_cons_zero] at c0
  have q1 : ∀ a b c : Value, gv [a, b, c] 1 = b := fun _ _ _ => rfl
  by_cases x0 : x = 0
  ·simp [c0, q1, x0]
   exact h w1 p 1 hp1 hp2 (by decide) H1
  by_cases x12 : x = 12
  ·simp [c0, q1, x12]
   exact h w1 p 2 hp1 hp2 (by decide) H1
  ·simp [c0, q1, x0, x12]
   exact h w1 p 0 hp1 hp2 (by decide) H1
 simp only [fm]
 have jy : ∀ (w1 : World) (x y z : Nat), a ≤ x → x < b → a ≤ y → y < b → a ≤ z → z < b → Rf w w1 g e cap d → Sw w1 w.heap.size →
   fj P F.t [.slice (some ⟨g, 0, none⟩) n cap, gv [.int .i64 (x : Int), .int .i64 (y : Int), .int .i64 (z : Int)] 0, gv [.int .i64 (x : Int), .int .i64 (y : Int), .int .i64 (z : Int)] 1, gv [.int .i64 (x : Int), .int .i64 (y : Int), .int .i64 (z : Int)] 2, .pointer (some ⟨w.heap.size, 0, none⟩)] w1 fun t48 w' =>
    M.aa.j0 (.pointer (some ⟨w.heap.size, 0, none⟩)) [gv [.int .i64 (x : Int), .int .i64 (y : Int), .int .i64 (z : Int)] 0, t48, gv [.int .i64 (x : Int), .int .i64 (y : Int), .int .i64 (z : Int)] 2] w' K := by
  intro w1 x y z hx1 hx2 hy1 hy2 hz1 hz2 H1 S1
  refine zo H1.row hn S1 hne (a := x) (b := y) (c := z) (by omega) (by omega) (by omega) fun w2 p hp S2 f2 => ?_
  exact fin w2 p _ _ (by omega) (by omega) (H1.xi f2 (Nat.le_refl _) hne) S2
 by_cases h50 : 50 ≤ l
 ·have h50' : (50 : Int) ≤ (l : Int) := by omega
  simp only [h50', decide_true, Eng.cond_true]
  refine abo H0.row hn h6 S0 hne (by omega) (by omega) fun w1 x hx S1 f1 => ?_
  have H1 := H0.xi f1 (Nat.le_refl _) hne
  refine abo H1.row hn h6 S1 hne (by omega) (by omega) fun w2 y hy S2 f2 => ?_
  have H2 := H1.xi f2 (Nat.le_refl _) hne
  refine abo H2.row hn h6 S2 hne (by omega) (by omega) fun w3 z hz S3 f3 => ?_
  have H3 := H2.xi f3 (Nat.le_refl _) hne
  exact jy w3 x y z (by omega) (by omega) (by omega) (by omega) (by omega) (by omega) H3 S3
 ·have h50' : ¬ (50 : Int) ≤ (l : Int) := by omega
  simp only [h50', decide_false, Eng.cond_false]
  exact jy w0 (a + l / 4) (a + l / 4 * 2) (a + l / 4 * 3) (by omega) (by omega) (by omega) (by omega) (by omega) (by omega) H0 S0
def BpI (w : World) (g : Nat) (e : TypeId) (cap n a b idx0 : Nat) (d : Array Int) : KL := fun x w1 => ∃ (u : Value) (k : Nat) (d1 : Array Int) (r : Int), x = [u, .int .i64 ((idx0 + k : Nat) : Int)] ∧ Rf w w1 g e cap d1 ∧ d1.size = n ∧ k ≤ 3 ∧ PermIn a b d d1 ∧ 0 ≤ r ∧ r < 18446744073709551616 ∧ w1.heap[w.heap.size]? = some (.cells #[.int .u64 r] T.u (0, 0))
theorem aij {w : World} {g cap n : Nat} {e : TypeId} {d : Array Int} (H : Rw w g e cap d) (hn : d.size = n) (h6 : n < 60000) {a b : Nat} (hb : b ≤ n) (hab : a + 12 < b) {K : KV}
  (h : ∀ w' d', PermIn a b d d' → Rf w w' g e cap d' → K (.tuple #[]) w') :
  iz P F.aa [.slice (some ⟨g, 0, none⟩) n cap, .int .i64 a, .int .i64 b] w K := by
 apply M.l.calls
 unfold M.l
 have hw0 : IntKind.i64.wrap ((b : Int) - a) = ((b - a : Nat) : Int) := oh (by omega) (by omega)
 have hlb : a + (b - a) = b := by omega
 generalize hl : b - a = l at *
 have bq : ∀ (x : Int) (t : TypeId) (rx ry : Operand) (w : World) (K : KV), fi P .quo t rx ry (.int .i64 x) (.int .i64 4) w K = K (.int .i64 (IntKind.i64.wrap (x.tdiv 4))) w := fun x t rx ry w K => aav (by decide)
 have q4 : IntKind.i64.wrap (((l : Nat) : Int).tdiv 4) = ((l / 4 : Nat) : Int) := by rw [Int.tdiv_eq_ediv_of_nonneg (by omega), fp (by omega) (by omega)]; omega
 have m2 : IntKind.i64.wrap (((l / 4 : Nat) : Int) * 2) = ((l / 4 * 2 : Nat) : Int) := by rw [fp (by omega) (by omega)]; omega
 have s2 : IntKind.i64.wrap ((a : Int) + ((l / 4 * 2 : Nat) : Int)) = ((a + l / 4 * 2 : Nat) : Int) := by rw [fp (by omega) (by omega)]; omega
 have s3 : IntKind.i64.wrap (((a + l / 4 * 2 : Nat) : Int) - 1) = ((a + l / 4 * 2 - 1 + 0 : Nat) : Int) := by rw [fp (by omega) (by omega)]; omega
 have s4 : IntKind.i64.wrap (((a + l / 4 * 2 : Nat) : Int) + 1) = ((a + l / 4 * 2 + 1 : Nat) : Int) := jv (by omega)
 have c8 : (8 : Int) ≤ (l : Int) := by omega
 have i64B : rg P T.b .i64 = true := by kernel_rfl
 have uB : rg P T.az .u64 = true := by kernel_rfl
 have xB : rg P T.u .u64 = true := by kernel_rfl
 simp only [jl, hw0, lc, c8, decide_true, Eng.cond_true]
 rw [li i64B xB, yb (by omega)]
 have hx0 : (w.alloc (.cells #[.int .u64 0] T.u)).heap[w.heap.size]? = some (.cells #[.int .u64 0] T.u (0, 0)) := by rw [gh, if_pos rfl]
 have H0 := H.nj.new (.cells #[.int .u64 0] T.u)
 have hne : w.heap.size ≠ g := by have := H.lt; omega
 have c0 := fx hx0 0
 have f0 := mf hx0 0
 simp only [List.size_toArray, List.getElem?_toArray, List.getElem?_cons_zero] at c0
 simp [c0, f0, -fm]
 have hx1 : ((w.alloc (.cells #[.int .u64 0] T.u)).setCell ⟨w.heap.size, 0, none⟩ (.int .u64 l)).heap[w.heap.size]? = some (.cells #[.int .u64 l] T.u (0, 0)) := ki hx0
 have H1 := H0.xi ((Fr.refl (fun b => b = w.heap.size) _).setCell (.inl rfl) 0 (.int .u64 (l : Int))) (Nat.le_refl _) hne
 generalize (w.alloc (.cells #[.int .u64 0] T.u)).setCell ⟨w.heap.size, 0, none⟩ (.int .u64 (l : Int)) = w1 at *
 rw [M.cm.fcall]
 refine ase (by omega) ?_
 have hp2 : 2 ^ bitsLen l ≤ 2 * l := two_pow_bitsLen_le (by omega)
 have hp1 : 0 < 2 ^ bitsLen l := Nat.pow_pos (by decide)
 simp only [bq, q4, tc, m2, jf, s2, jl, s3]
 generalize 2 ^ bitsLen l = md at *
 generalize hi0 : a + l / 4 * 2 - 1 = i0 at *
 refine ⟨BpI w g e cap n a b i0 d, fun x _ => i0 + 3 - ms x 1, ⟨_, 0, d, l, rfl, H1, hn, by omega, permIn_refl d a b, by omega, by omega, hx1⟩, ?_⟩
 rintro x w2 ⟨u, k, d2, r, rfl, H2, hn2, hk, hP, hr0, hr1, hx2⟩
 unfold M.l.j0
 simp only [fm, bq, q4, tc, m2, jf, s2, s4, g21, yz]
 by_cases hk3 : k < 3
 ·have hle : ((i0 + k : Nat) : Int) ≤ ((a + l / 4 * 2 + 1 : Nat) : Int) := by omega
  simp only [hle, decide_true, Eng.cond_true]
  unfold M.l.j1
  simp only [fm, g21]
  rw [M.cn.fcall]
  refine ajk hx2 fun w3 y hy0 hy1 hx3 f3 => ?_
  have H3 := H2.xi f3 (Nat.le_refl _) hne
  obtain ⟨z, rfl⟩ : ∃ z : Nat, y = z := ⟨y.toNat, by omega⟩
  have hm1 : IntKind.u64.wrap ((md : Int) - 1) = ((md - 1 : Nat) : Int) := by rw [zf (by omega) (by omega)]; omega
  have hand : (BitVec.ofInt IntKind.u64.bits (z : Int) &&& BitVec.ofInt IntKind.u64.bits ((md - 1 : Nat) : Int)).toNat ≤ md - 1 := avn (x := z) (y := md - 1) (by omega) (by omega)
  simp only [jl, hm1, akw]
  generalize (BitVec.ofInt IntKind.u64.bits (z : Int) &&& BitVec.ofInt IntKind.u64.bits ((md - 1 : Nat) : Int)).toNat = o at *
  rw [yb (by omega), li uB i64B, akj (by omega)]
  have tail : ∀ (o : Nat), o < l → M.l.j3 (.int .i64 a) [.int .i64 (o : Nat)] (.slice (some ⟨g, 0, none⟩) n cap) [u, .int .i64 ((i0 + k : Nat) : Int)] (fun x2 w' => BpI w g e cap n a b i0 d [gv x2 0, .int .i64 (IntKind.i64.wrap (((i0 + k : Nat) : Int) + 1))] w' ∧ i0 + 3 - ms [gv x2 0, .int .i64 (IntKind.i64.wrap (((i0 + k : Nat) : Int) + 1))] 1 < i0 + 3 - ms [u, .int .i64 ((i0 + k : Nat) : Int)] 1) w3 K := by
   intro o ho
   unfold M.l.j3
   have wr : IntKind.i64.wrap ((a : Int) + (o : Int)) = ((a + o : Nat) : Int) := by rw [fp (by omega) (by omega)]; omega
   have a1 := H3.row.at (show i0 + k < d2.size by omega)
   have a2 := H3.row.at (show a + o < d2.size by omega)
   have b1 : ((i0 + k : Nat) : Int) < n := by omega
   have b2 : ((a + o : Nat) : Int) < n := by omega
   have f1 := H3.row.frz (i0 + k)
   have f2 := H3.row.frz (a + o)
   simp [g0, g21, wr, b1, b2, a1, a2, f1, f2, gt, ib, -Int.natCast_add]
   have hw5 : IntKind.i64.wrap (((i0 + k : Nat) : Int) + 1) = ((i0 + (k + 1) : Nat) : Int) := by rw [fp (by omega) (by omega)]; omega
   rw [hw5]
   refine ⟨⟨_, k + 1, _, z, rfl, (H3.dr 1).swp (by omega) (by omega), by rw [size_swp]; exact hn2, by omega, permIn_trans _ _ _ a b hP (swp_permIn _ a b _ _ (by omega) (by omega) (by omega) (by omega) (by omega)), by omega, by omega, ?_⟩, ?_⟩
   ·rw [aag (by omega), aag (by omega)]; exact hx3
   ·simp only [ms, g21]; omega
  simp only [fm, lc, jf]
  by_cases hol : l ≤ o
  ·have hol' : (l : Int) ≤ o := by omega
   have hwo : IntKind.i64.wrap ((o : Int) - l) = ((o - l : Nat) : Int) := oh (by omega) (by omega)
   simp only [hol', decide_true, Eng.cond_true, jl, hwo]
   exact tail (o - l) (by omega)
  ·have hol' : ¬ (l : Int) ≤ o := by omega
   simp only [hol', decide_false, Eng.cond_false]
   exact tail o (by omega)
 ·have hle : ¬ ((i0 + k : Nat) : Int) ≤ ((a + l / 4 * 2 + 1 : Nat) : Int) := by omega
  simp only [hle, decide_false, Eng.cond_false]
  exact h w2 d2 hP H2
section
theorem f5 (a0 a1 a2 a3 a4 a5 a6 a7 a8 a9 a10 a11 a12 a13 : Value) : gv [a0, a1, a2, a3, a4, a5, a6, a7, a8, a9, a10, a11, a12, a13] 5 = a5 := rfl
theorem f13 (a0 a1 a2 a3 a4 a5 a6 a7 a8 a9 a10 a11 a12 a13 : Value) : gv [a0, a1, a2, a3, a4, a5, a6, a7, a8, a9, a10, a11, a12, a13] 13 = a13 := rfl
end
structure bbk (w w1 : World) (g : Nat) (e : TypeId) (cap n a0 b0 : Nat) (d0 : Array Int) (a b limit : Nat) (wb wp : Bool) (d : Array Int) : Prop where
 rf : Rf w w1 g e cap d
 sz : d.size = n
 ab : a ≤ b
 bb : b - a ≤ b0 - a0
 bn : b ≤ n
 be : Below ltInt a b d
 fin : ∀ R, PermIn a b d R → SortedIn ltInt a b R → PermIn a0 b0 d0 R ∧ SortedIn ltInt a0 b0 R
def PdI (w : World) (g : Nat) (e : TypeId) (cap n a0 b0 : Nat) (d0 : Array Int) : KL := fun x w1 => ∃ (u0 u2 u3 u4 u6 u7 u9 u10 u11 : Value) (a b limit : Nat) (wb wp : Bool) (d : Array Int),
 x = [u0, .int .i64 (limit : Nat), u2, u3, u4, .int .i64 (a : Nat), u6, u7, .bool wp, u9, u10, u11, .bool wb, .int .i64 (b : Nat)] ∧ limit < 1000 ∧ bbk w w1 g e cap n a0 b0 d0 a b limit wb wp d
def IH (m : Nat) : Prop := ∀ {w : World} {g cap n : Nat} {e : TypeId} {d : Array Int} (_ : Rw w g e cap d) (_ : d.size = n) (_ : n < 60000) {a b limit : Nat} (_ : b - a ≤ m) (_ : a ≤ b) (_ : b ≤ n) (_ : limit < 1000) (_ : Below ltInt a b d) {K : KV}
  (_ : ∀ w' d', PermIn a b d d' → SortedIn ltInt a b d' → Rf w w' g e cap d' → K (.tuple #[]) w'), iz P F.q [.slice (some ⟨g, 0, none⟩) n cap, .int .i64 a, .int .i64 b, .int .i64 limit] w K
section
variable {m : Nat} {w : World} {g cap n : Nat} {e : TypeId} {d d5 : Array Int} {a0 b0 a b pv hint4 lim2 : Nat} {wb wp : Bool} {x0 : List Value} {K : KV}
theorem ade (ih : IH m) (h6 : n < 60000) (hm : b0 - a0 ≤ m + 1) (hbb : b - a ≤ b0 - a0) (hbn : b ≤ n) (hab : a ≤ b) (hpv1 : a ≤ pv) (hpv2 : pv < b) (hlim2 : lim2 < 1000) {w5 : World} (H5 : Rf w w5 g e cap d5) (hn5 : d5.size = n) (B5 : Below ltInt a b d5)
  (hfin5 : ∀ R, PermIn a b d5 R → SortedIn ltInt a b R → PermIn a0 b0 d R ∧ SortedIn ltInt a0 b0 R) (e5 : gv x0 5 = .int .i64 (a : Nat)) (e8 : gv x0 8 = .bool wp) (e12 : gv x0 12 = .bool wb) (e13 : gv x0 13 = .int .i64 (b : Nat)) (m5 : ms x0 5 = a) (m13 : ms x0 13 = b) (v0 : Value) :
  M.c.j6 (.slice (some ⟨g, 0, none⟩) n cap) [v0, .int .i64 (a : Nat)] x0 [.int .i64 (pv : Nat), .int .i64 (hint4 : Nat)] (.int .i64 ((b - a : Nat) : Int)) [.int .i64 (lim2 : Nat)] (fun x' w' => PdI w g e cap n a0 b0 d x' w' ∧ ms x' 13 - ms x' 5 < ms x0 13 - ms x0 5) w5 K := by
 unfold M.c.j6
 simp only [g20, g21, e13]
 rw [M.d.fcall]
 refine abf H5.row hn5 (by omega) hbn hpv1 hpv2 fun w7 H7 => ?_
 have H7' := H5.trans H7
 obtain ⟨r1, r2, r3, rBa, rBr, rL, rR⟩ := round_part swo_ltInt (partition_holds ltInt) hpv1 hpv2 (by omega) B5 (show partition ltInt d5 a b pv = ((partition ltInt d5 a b pv).1, (partition ltInt d5 a b pv).2.1, (partition ltInt d5 a b pv).2.2) from rfl)
 generalize (partition ltInt d5 a b pv).1 = mid at *
 generalize (partition ltInt d5 a b pv).2.1 = ap at *
 generalize (partition ltInt d5 a b pv).2.2 = d7 at *
 have hn7 : d7.size = n := by omega
 have wl : IntKind.i64.wrap ((mid : Int) - a) = ((mid - a : Nat) : Int) := oh (by omega) (by omega)
 have wr : IntKind.i64.wrap ((b : Int) - mid) = ((b - mid : Nat) : Int) := oh (by omega) (by omega)
 have wm : IntKind.i64.wrap ((mid : Int) + 1) = ((mid + 1 : Nat) : Int) := jv (by omega)
 have bq : ∀ (x : Int) (t : TypeId) (rx ry : Operand) (w : World) (K : KV), fi P .quo t rx ry (.int .i64 x) (.int .i64 8) w K = K (.int .i64 (IntKind.i64.wrap (x.tdiv 8))) w := fun x t rx ry w K => aav (by decide)
 simp only [zn, zp, g0, jl, wl, wr, bq, ka, lc]
 by_cases hlt : mid - a < b - mid
 ·have hlt' : ((mid - a : Nat) : Int) < ((b - mid : Nat) : Int) := by omega
  simp only [hlt', decide_true, Eng.cond_true]
  rw [M.c.fcall]
  refine ih H7.row hn7 h6 (by omega) r1 (by omega) hlim2 rBa fun w8 d8 P8 S8 H8 => ?_
  obtain ⟨hBL, hfinL⟩ := rL d8 P8 S8
  simp only [jf, wm]
  refine ⟨⟨_, _, _, _, _, _, _, _, _, mid + 1, b, lim2, _, ap, d8, rfl, hlim2, ⟨H7'.trans H8, by rw [P8.1]; exact hn7, by omega, by omega, hbn, hBL, fun R h1 h2 => ?_⟩⟩, ?_⟩
  ·obtain ⟨k1, k2⟩ := hfinL R h1 h2
   exact hfin5 R k1 k2
  ·have : ∀ y0 y1 y2 y3 y4 y6 y7 y8 y9 y10 y11 y12 : Value, ms [y0, y1, y2, y3, y4, .int .i64 ((mid + 1 : Nat) : Int), y6, y7, y8, y9, y10, y11, y12, .int .i64 (b : Nat)] 13 = b ∧ ms [y0, y1, y2, y3, y4, .int .i64 ((mid + 1 : Nat) : Int), y6, y7, y8, y9, y10, y11, y12, .int .i64 (b : Nat)] 5 = mid + 1 := fun _ _ _ _ _ _ _ _ _ _ _ _ => ⟨rfl, rfl⟩
   rw [(this _ _ _ _ _ _ _ _ _ _ _ _).1, (this _ _ _ _ _ _ _ _ _ _ _ _).2, m5, m13]; omega
 ·have hlt' : ¬ ((mid - a : Nat) : Int) < ((b - mid : Nat) : Int) := by omega
  simp only [hlt', decide_false, Eng.cond_false, jf, wm]
  rw [M.c.fcall]
  refine ih H7.row hn7 h6 (by omega) (by omega) hbn hlim2 rBr fun w8 d8 P8 S8 H8 => ?_
  obtain ⟨hBL, hfinL⟩ := rR d8 P8 S8
  refine ⟨⟨_, _, _, _, _, _, _, _, _, a, mid, lim2, _, ap, d8, rfl, hlim2, ⟨H7'.trans H8, by rw [P8.1]; exact hn7, by omega, by omega, by omega, hBL, fun R h1 h2 => ?_⟩⟩, ?_⟩
  ·obtain ⟨k1, k2⟩ := hfinL R h1 h2
   exact hfin5 R k1 k2
  ·have : ∀ y0 y1 y2 y3 y4 y6 y7 y8 y9 y10 y11 y12 : Value, ms [y0, y1, y2, y3, y4, .int .i64 (a : Nat), y6, y7, y8, y9, y10, y11, y12, .int .i64 (mid : Nat)] 13 = mid ∧ ms [y0, y1, y2, y3, y4, .int .i64 (a : Nat), y6, y7, y8, y9, y10, y11, y12, .int .i64 (mid : Nat)] 5 = a := fun _ _ _ _ _ _ _ _ _ _ _ _ => ⟨rfl, rfl⟩
   rw [(this _ _ _ _ _ _ _ _ _ _ _ _).1, (this _ _ _ _ _ _ _ _ _ _ _ _).2, m5, m13]; omega
theorem aum (ih : IH m) (h6 : n < 60000) (hm : b0 - a0 ≤ m + 1) (hbb : b - a ≤ b0 - a0) (hbn : b ≤ n) (hab : a ≤ b) (hpv1 : a ≤ pv) (hpv2 : pv < b) (hlim2 : lim2 < 1000) {w5 : World} (H5 : Rf w w5 g e cap d5) (hn5 : d5.size = n) (B5 : Below ltInt a b d5)
  (hfin5 : ∀ R, PermIn a b d5 R → SortedIn ltInt a b R → PermIn a0 b0 d R ∧ SortedIn ltInt a0 b0 R) (e5 : gv x0 5 = .int .i64 (a : Nat)) (e8 : gv x0 8 = .bool wp) (e12 : gv x0 12 = .bool wb) (e13 : gv x0 13 = .int .i64 (b : Nat)) (m5 : ms x0 5 = a) (m13 : ms x0 13 = b) :
  M.c.j5 x0 (.slice (some ⟨g, 0, none⟩) n cap) [.int .i64 (pv : Nat), .int .i64 (hint4 : Nat)] (fun x' w' => PdI w g e cap n a0 b0 d x' w' ∧ ms x' 13 - ms x' 5 < ms x0 13 - ms x0 5) (.int .i64 ((b - a : Nat) : Int)) [.int .i64 (lim2 : Nat)] w5 K := by
 unfold M.c.j5
 simp only [fm, po, nk, e5, e13, g20, true_and, and_true, ng, qy]
 by_cases ha0 : 0 < a
 ·have ha0' : (0 : Int) < (a : Int) := by omega
  have hwa : IntKind.i64.wrap ((a : Int) - 1) = ((a - 1 : Nat) : Int) := by rw [fp (by omega) (by omega)]; omega
  have a1 := H5.row.at (show a - 1 < d5.size by omega)
  have a2 := H5.row.at (show pv < d5.size by omega)
  have b1 : ((a - 1 : Nat) : Int) < n := by omega
  have b2 : (pv : Int) < n := by omega
  simp [ha0, ha0', hwa, a1, a2, b1, b2]
  refine kc _ _ ?_
  cases hl : ltInt d5[a - 1]! d5[pv]! with
  | true =>
   simp
   exact ade ih h6 hm hbb hbn hab hpv1 hpv2 hlim2 (H5.dr 1) hn5 B5 hfin5 e5 e8 e12 e13 m5 m13 _
  | false =>
   simp
   rw [M.g.fcall]
   refine vz (H5.dr 1).row hn5 (by omega) hbn hpv1 hpv2 fun w7 H7 => ?_
   have H7' := (H5.dr 1).trans H7
   obtain ⟨r1, r2, r3, rB, rF⟩ := round_eq swo_ltInt (partitionEqual_holds ltInt) ha0 hpv1 hpv2 (by omega) B5 hl (show partitionEqual ltInt d5 a b pv = ((partitionEqual ltInt d5 a b pv).1, (partitionEqual ltInt d5 a b pv).2) from rfl)
   generalize (partitionEqual ltInt d5 a b pv).1 = mid at *
   generalize (partitionEqual ltInt d5 a b pv).2 = d7 at *
   have hn7 : d7.size = n := by omega
   refine ⟨⟨_, _, _, _, _, _, _, _, _, mid, b, lim2, wb, wp, d7, by rw [e8, e12], hlim2, ⟨H7', hn7, r2, by omega, hbn, rB, fun R h1 h2 => ?_⟩⟩, ?_⟩
   ·obtain ⟨k1, k2⟩ := rF R h1 h2
    exact hfin5 R k1 k2
   ·have : ∀ y0 y1 y2 y3 y4 y6 y7 y8 y9 y10 y11 y12 : Value, ms [y0, y1, y2, y3, y4, .int .i64 (mid : Nat), y6, y7, y8, y9, y10, y11, y12, .int .i64 (b : Nat)] 13 = b ∧ ms [y0, y1, y2, y3, y4, .int .i64 (mid : Nat), y6, y7, y8, y9, y10, y11, y12, .int .i64 (b : Nat)] 5 = mid := fun _ _ _ _ _ _ _ _ _ _ _ _ => ⟨rfl, rfl⟩
    rw [(this _ _ _ _ _ _ _ _ _ _ _ _).1, (this _ _ _ _ _ _ _ _ _ _ _ _).2, m5, m13]; omega
 ·have ha0' : ¬ (0 : Int) < (a : Int) := by omega
  simp [ha0, ha0']
  exact ade ih h6 hm hbb hbn hab hpv1 hpv2 hlim2 (H5.dr 1) hn5 B5 hfin5 e5 e8 e12 e13 m5 m13 _
theorem adp {d1 : Array Int} (ih : IH m) (h6 : n < 60000) (hm : b0 - a0 ≤ m + 1) (hbb : b - a ≤ b0 - a0) (hbn : b ≤ n) (hab : a ≤ b) (hlim2 : lim2 < 1000) (h12 : ¬ b - a ≤ 12) (hn1 : d1.size = n) (hB1 : Below ltInt a b d1)
  (hfin : ∀ R, PermIn a b d1 R → SortedIn ltInt a b R → PermIn a0 b0 d R ∧ SortedIn ltInt a0 b0 R) (h : ∀ w' d', PermIn a0 b0 d d' → SortedIn ltInt a0 b0 d' → Rf w w' g e cap d' → K (.tuple #[]) w')
  (e5 : gv x0 5 = .int .i64 (a : Nat)) (e8 : gv x0 8 = .bool wp) (e12 : gv x0 12 = .bool wb) (e13 : gv x0 13 = .int .i64 (b : Nat)) (m5 : ms x0 5 = a) (m13 : ms x0 13 = b) {w4 : World} {d4 : Array Int} (H4 : Rf w w4 g e cap d4) (P4 : PermIn a b d1 d4) (hpv1 : a ≤ pv) (hpv2 : pv < b) :
  M.c.j4 x0 [.int .i64 (pv : Nat), .int .i64 (hint4 : Nat)] (.slice (some ⟨g, 0, none⟩) n cap) (fun x' w' => PdI w g e cap n a0 b0 d x' w' ∧ ms x' 13 - ms x' 5 < ms x0 13 - ms x0 5) (.int .i64 ((b - a : Nat) : Int)) [.int .i64 (lim2 : Nat)] w4 K := by
 have hn4 : d4.size = n := by rw [P4.1]; exact hn1
 have B4 := hB1.perm (by omega) P4
 have st5 : ∀ (w5 : World) (d5 : Array Int), Rf w w5 g e cap d5 → PermIn a b d1 d5 →
   M.c.j5 x0 (.slice (some ⟨g, 0, none⟩) n cap) [.int .i64 (pv : Nat), .int .i64 (hint4 : Nat)] (fun x' w' => PdI w g e cap n a0 b0 d x' w' ∧ ms x' 13 - ms x' 5 < ms x0 13 - ms x0 5) (.int .i64 ((b - a : Nat) : Int)) [.int .i64 (lim2 : Nat)] w5 K := fun w5 d5 H5 P5 =>
  aum ih h6 hm hbb hbn hab hpv1 hpv2 hlim2 H5 (by rw [P5.1]; exact hn1) (hB1.perm (by omega) P5) (fun R h1 h2 => hfin R (permIn_trans _ _ _ a b P5 h1) h2) e5 e8 e12 e13 m5 m13
 unfold M.c.j4
 simp only [fm, e5, e8, e12, e13, qy, g21]
 cases wb with
 | false => simp; exact st5 w4 d4 H4 P4
 | true =>
  cases wp with
  | false => simp; exact st5 w4 d4 H4 P4
  | true =>
   by_cases hh1 : hint4 = 1
   ·have hd : decide ((hint4 : Int) = 1) = true := by rw [decide_eq_true_eq]; omega
    simp only [qy, adn, tp, beq_self_eq_true, _root_.cond_true, sk, hd, Eng.cond_true]
    rw [M.a.fcall]
    refine zz H4.row hn4 (by omega) hbn (by omega) fun w5 H5 => ?_
    have hpi := partialInsertionSort_holds swo_ltInt d4 a b (by omega) (by omega) B4
    cases hr : (partialInsertionSort ltInt d4 a b).2 with
    | true =>
     simp
     obtain ⟨p1, p2⟩ := hfin _ (permIn_trans _ _ _ a b P4 hpi.1) (hpi.2 hr)
     exact h w5 _ p1 p2 (H4.trans H5)
    | false =>
     simp
     exact st5 w5 _ (H4.trans H5) (permIn_trans _ _ _ a b P4 hpi.1)
   ·have hd : decide ((hint4 : Int) = 1) = false := by rw [decide_eq_false_iff_not]; omega
    simp only [qy, adn, tp, beq_self_eq_true, _root_.cond_true, sk, hd, Eng.cond_false]
    exact st5 w4 d4 H4 P4
theorem abv {d1 : Array Int} (ih : IH m) (h6 : n < 60000) (hm : b0 - a0 ≤ m + 1) (hbb : b - a ≤ b0 - a0) (hbn : b ≤ n) (hab : a ≤ b) (hlim2 : lim2 < 1000) (h12 : ¬ b - a ≤ 12) (hn1 : d1.size = n) (hB1 : Below ltInt a b d1)
  (hfin : ∀ R, PermIn a b d1 R → SortedIn ltInt a b R → PermIn a0 b0 d R ∧ SortedIn ltInt a0 b0 R) (h : ∀ w' d', PermIn a0 b0 d d' → SortedIn ltInt a0 b0 d' → Rf w w' g e cap d' → K (.tuple #[]) w')
  (e5 : gv x0 5 = .int .i64 (a : Nat)) (e8 : gv x0 8 = .bool wp) (e12 : gv x0 12 = .bool wb) (e13 : gv x0 13 = .int .i64 (b : Nat)) (m5 : ms x0 5 = a) (m13 : ms x0 13 = b) {w2 : World} {d2 : Array Int} (H2 : Rf w w2 g e cap d2) (P2 : PermIn a b d1 d2) :
  M.c.j3 (.slice (some ⟨g, 0, none⟩) n cap) x0 (fun x' w' => PdI w g e cap n a0 b0 d x' w' ∧ ms x' 13 - ms x' 5 < ms x0 13 - ms x0 5) (.int .i64 ((b - a : Nat) : Int)) [.int .i64 (lim2 : Nat)] w2 K := by
 have hn2 : d2.size = n := by rw [P2.1]; exact hn1
 have B2 := hB1.perm (by omega) P2
 unfold M.c.j3
 simp only [e5, e13, fm]
 rw [M.aa.fcall]
 refine aiu H2.row hn2 (by omega) hbn (by omega) fun w3 p hint hp1 hp2 hh H3 => ?_
 have H3' := H2.trans H3
 simp only [zn, zp, sk]
 by_cases hh2 : hint = 2
 ·have hh2' : (hint : Int) = 2 := by omega
  simp only [hh2', decide_true, Eng.cond_true]
  rw [M.am.fcall]
  refine aej H3.row hn2 (by omega) hbn (by omega) fun w4 H4 => ?_
  have hrev := reverseRange_holds d2 a b hab (by omega)
  have w1' : IntKind.i64.wrap ((b : Int) - 1) = ((b - 1 : Nat) : Int) := by rw [fp (by omega) (by omega)]; omega
  have w2' : IntKind.i64.wrap ((p : Int) - a) = ((p - a : Nat) : Int) := oh (by omega) (by omega)
  have w3' : IntKind.i64.wrap (((b - 1 : Nat) : Int) - ((p - a : Nat) : Int)) = ((b - 1 - (p - a) : Nat) : Int) := oh (by omega) (by omega)
  simp only [jl, w1', w2', w3']
  exact adp (hint4 := 1) ih h6 hm hbb hbn hab hlim2 h12 hn1 hB1 hfin h e5 e8 e12 e13 m5 m13 (H3'.trans H4) (permIn_trans _ _ _ a b P2 hrev) (by omega) (by omega)
 ·have hh2' : ¬ (hint : Int) = 2 := by omega
  simp only [hh2', decide_false, Eng.cond_false]
  exact adp ih h6 hm hbb hbn hab hlim2 h12 hn1 hB1 hfin h e5 e8 e12 e13 m5 m13 H3' P2 hp1 hp2
end
theorem anx : ∀ (m : Nat), IH m := by
 intro m
 induction m with
 | zero =>
  intro w g cap n e d H hn h6 a b limit hm hab hb hlim hB K h
  -- nothing to sort
  have hba : b = a := by omega
  subst hba
  apply M.c.calls
  unfold M.c
  refine ⟨fun x w1 => x = [undef, .int .i64 (limit : Nat), undef, undef, undef, .int .i64 (b : Nat), undef, undef, .bool true, undef, undef, undef, .bool true, .int .i64 (b : Nat)] ∧ w1 = w, fun _ _ => 0, ⟨rfl, rfl⟩, ?_⟩
  rintro x w1 ⟨rfl, rfl⟩
  unfold M.c.j0
  have hw0 : IntKind.i64.wrap ((b : Int) - b) = 0 := by rw [fp (by omega) (by omega)]; omega
  simp only [f13, f5, jl, hw0, fm, yz]
  rw [M.h.fcall]
  simp
  refine vd H hn (by omega) hb hb fun w2 H2 => ?_
  have hi := insertionSort_holds swo_ltInt d b b (Nat.le_refl _) (by omega)
  exact h w2 _ hi.1 hi.2 H2
 | succ m ih =>
  intro w g cap n e d H hn h6 a0 b0 limit0 hm hab0 hb0 hlim0 hB K h
  apply M.c.calls
  unfold M.c
  refine ⟨PdI w g e cap n a0 b0 d, fun x _ => ms x 13 - ms x 5, ⟨_, _, _, _, _, _, _, _, _, a0, b0, limit0, true, true, d, rfl, hlim0, ⟨H.nj, hn, hab0, Nat.le_refl _, hb0, hB, fun R h1 h2 => ⟨h1, h2⟩⟩⟩, ?_⟩
  rintro x w1 ⟨u0, u2, u3, u4, u6, u7, u9, u10, u11, a, b, limit, wb, wp, d1, rfl, hlim, ⟨H1, hn1, hab, hbb, hbn, hB1, hfin⟩⟩
  generalize hx0 : [u0, .int .i64 (limit : Nat), u2, u3, u4, .int .i64 (a : Nat), u6, u7, .bool wp, u9, u10, u11, .bool wb, .int .i64 (b : Nat)] = x0
  have e1 : gv x0 1 = .int .i64 (limit : Nat) := by rw [← hx0]; rfl
  have e5 : gv x0 5 = .int .i64 (a : Nat) := by rw [← hx0]; rfl
  have e8 : gv x0 8 = .bool wp := by rw [← hx0]; rfl
  have e12 : gv x0 12 = .bool wb := by rw [← hx0]; rfl
  have e13 : gv x0 13 = .int .i64 (b : Nat) := by rw [← hx0]; rfl
  have m5 : ms x0 5 = a := by simp [ms, e5]
  have m13 : ms x0 13 = b := by simp [ms, e13]
  clear hx0
  have hw0 : IntKind.i64.wrap ((b : Int) - a) = ((b - a : Nat) : Int) := oh (by omega) (by omega)
  unfold M.c.j0
  simp only [e13, e5, jl, hw0, fm, yz]
  by_cases h12 : b - a ≤ 12
  ·have h12' : ((b - a : Nat) : Int) ≤ 12 := by omega
   simp only [h12', decide_true, Eng.cond_true]
   rw [M.h.fcall]
   refine vd H1.row hn1 (by omega) hbn (by omega) fun w2 H2 => ?_
   have hi := insertionSort_holds swo_ltInt d1 a b hab (by omega)
   obtain ⟨p1, p2⟩ := hfin _ hi.1 hi.2
   exact h w2 _ p1 p2 (H1.trans H2)
  have h12' : ¬ ((b - a : Nat) : Int) ≤ 12 := by omega
  simp only [h12', decide_false, Eng.cond_false]
  unfold M.c.j1
  simp only [e1, e5, e13, fm, sk]
  by_cases hl0 : limit = 0
  ·have hl0' : (limit : Int) = 0 := by omega
   simp only [hl0', decide_true, Eng.cond_true]
   rw [M.q.fcall]
   refine acr H1.row hn1 (by omega) hbn (by omega) fun w2 H2 => ?_
   have hi := heapSort_holds swo_ltInt d1 a b hab (by omega)
   obtain ⟨p1, p2⟩ := hfin _ hi.1 hi.2
   exact h w2 _ p1 p2 (H1.trans H2)
  have hl0' : ¬ (limit : Int) = 0 := by omega
  simp only [hl0', decide_false, Eng.cond_false]
  unfold M.c.j2
  simp only [e12, e1, e5, e13, fm, aqv]
  cases wb with
  | true =>
   simp
   exact abv ih h6 hm hbb hbn hab hlim h12 hn1 hB1 hfin h e5 e8 e12 e13 m5 m13 H1 (permIn_refl d1 a b)
  | false =>
   simp
   rw [M.l.fcall]
   refine aij H1.row hn1 h6 hbn (by omega) fun w2 d2 P2 H2 => ?_
   have wl : IntKind.i64.wrap ((limit : Int) - 1) = ((limit - 1 : Nat) : Int) := by rw [fp (by omega) (by omega)]; omega
   simp only [wl]
   exact abv ih h6 hm hbb hbn hab (by omega) h12 hn1 hB1 hfin h e5 e8 e12 e13 m5 m13 (H1.trans H2) P2
theorem ala {w : World} {g cap n : Nat} {e : TypeId} {d : Array Int} (H : Rw w g e cap d) (hn : d.size = n) (h6 : n < 60000) {K : KV}
  (h : ∀ w', Rf w w' g e cap (d.toList.mergeSort fun x y => decide (x ≤ y)).toArray → K (.tuple #[]) w') : iz P F.ap [.slice (some ⟨g, 0, none⟩) n cap] w K := by
 apply M.bl.calls
 unfold M.bl
 have i64B : rg P T.b .i64 = true := by kernel_rfl
 have uB : rg P T.az .u64 = true := by kernel_rfl
 simp
 rw [li i64B uB, yb (by omega), M.dg.fcall]
 refine adi (by omega) ?_
 rw [M.c.fcall]
 have hlen : bitsLen n ≤ 16 := (bitsLen_le_iff n 16).2 (by omega)
 refine anx n (a := 0) H hn h6 (by omega) (Nat.zero_le _) (Nat.le_refl _) (by omega) (.inl rfl) fun w' d' h1 h2 H' => ?_
 have hs : d'.toList = d.toList.mergeSort (fun x y => decide (x ≤ y)) := by
  have := sorted_unique_holds swo_ltInt (fun x y h1 h2 => by simp [ltInt] at h1 h2; omega) d d' (by rw [hn]; exact h1) (by rw [hn]; exact h2)
  rw [this]
  congr 1
  funext x y
  simp only [ltInt]
  by_cases hxy : x ≤ y
  ·simp [hxy]
  ·have : y < x := by omega
   simp [hxy, this]
 refine h w' ?_
 rw [← hs]
 exact H'
set_option maxRecDepth 100000
open Go.Eng Go.Sort
abbrev abk (x : Int) : Value := .int .u64 x
abbrev si (x : Int) : List Value := [.int .u64 x]
abbrev OwN (w : World) (base : Nat) (v : Value) (l : List Int) : Prop := Ow w base T.d 1 si v l
theorem bao : atl P T.f T.d abk 8 where
 et := et.f
 by5 := by decide
 ld := fun b i w K => Eq.trans (by kernel_rfl) rfl
 st := fun b i a n c w K => Eq.trans (by kernel_rfl) rfl
 bs := fun x w K => Eq.trans (by kernel_rfl) rfl
 one := fun _ => rfl
 ne := by decide
theorem aew {g : FuncId} {gn : Func} (hg : P.funcs[g]? = some gn) (hgn : (gn.name == "runtime.NumGoroutine") = false) (hgb : gn.body.isNone = false) {cap : List Value} {w : World} {Out : List Int → Prop} (hs : ahy P g cap abk Out 60000 w) {K : KV}
  (h : ∀ w' v xs, Out xs → OwN w' w.heap.size v xs → Fr (fun _ => False) w w' → K v w') : iz P F.bx [.func (.func g) #[] cap.toArray] w K := by
 apply M.de.calls
 unfold M.de
 have hf : ∀ (args : List Value) (w : World) (K : KV), fj P F.c args w K = iz P F.c args w K := fun args w K => agi FN.c.at (by kernel_rfl) (by kernel_rfl) args w K
 rw [hf]
 exact afu (tQ := T.bc) bao FN.c.at (by kernel_rfl) (by kernel_rfl) (by kernel_rfl) hg hgn hgb hs h
theorem Ow.rw {w : World} {base g n cap : Nat} {l : List Int} (h : OwN w base (.slice (some ⟨g, 0, none⟩) n cap) l) : n = l.length ∧ base ≤ g ∧ cap ≤ maxLen ∧ Rw w g T.d cap l.toArray := by
 rcases h.2 with ⟨h0, _⟩ | ⟨g', cap', cur, hv, hb, hc, h1, h2, h3, h4⟩
 ·cases h0
 ·injection hv with q1 q2 q3
  injection q1 with q1
  injection q1 with q1
  subst q1 q2 q3
  refine ⟨rfl, hb, h2, cur, hc, by simpa using h3, by simpa using h1, fun j hj => ?_⟩
  have hj' : j < l.length := by simpa using hj
  have h5 : (cur.toList.take (l.length * 1))[j]? = (l.flatMap si)[j]? := by rw [h4]
  rw [List.getElem?_take_of_lt (by omega)] at h5
  have h6 : (l.flatMap si)[j]? = some (.int .u64 l[j]) := by
   have := aan (enc := si) (sz := 1) (fun _ => rfl) l j l[j] 0 (.int .u64 l[j]) (List.getElem?_eq_getElem hj') rfl
   simpa using this
  rw [h6] at h5
  simpa [hj'] using h5
theorem yr : ∀ l : List Int, l.flatMap si = l.map abk
 | [] => rfl
 | x :: l => by rw [List.flatMap_cons, yr l]; rfl
theorem auz {w : World} {base g cap : Nat} {l : List Int} (hb : base ≤ g) (hm : cap ≤ maxLen) (h : Rw w g T.d cap l.toArray) : OwN w base (.slice (some ⟨g, 0, none⟩) l.length cap) l := by
 obtain ⟨cur, h1, h2, h3, h4⟩ := h
 refine ⟨by rw [yr]; simp, .inr ⟨g, cap, cur, rfl, hb, h1, by simpa using h3, hm, by simpa using h2, ?_⟩⟩
 rw [yr]
 apply List.ext_getElem?
 intro j
 by_cases hj : j < l.length
 ·rw [List.getElem?_take_of_lt (by omega)]
  have := h4 j (by simpa using hj)
  simp [hj] at this ⊢
  exact this
 ·rw [List.getElem?_take_eq_none (by omega), List.getElem?_eq_none (by simp; omega)]
theorem aib {w : World} {K : KV} (h : K (.tuple #[]) w) : iz P F.ap [.slice none 0 0] w K := by
 apply M.bl.calls
 unfold M.bl
 have i64B : rg P T.b .i64 = true := by kernel_rfl
 have uB : rg P T.az .u64 = true := by kernel_rfl
 simp
 rw [li i64B uB, show IntKind.u64.wrap 0 = ((0 : Nat) : Int) from by decide, M.dg.fcall]
 refine adi (by omega) ?_
 rw [M.c.fcall]
 apply M.c.calls
 unfold M.c
 refine ⟨fun x w1 => gv x 5 = .int .i64 0 ∧ gv x 13 = .int .i64 0 ∧ w1 = w, fun _ _ => 0, ⟨rfl, rfl, rfl⟩, ?_⟩
 rintro x w1 ⟨e5, e13, rfl⟩
 unfold M.c.j0
 have w0 : IntKind.i64.wrap 0 = 0 := by decide
 simp [e5, e13, w0]
 rw [M.h.fcall]
 apply M.h.calls
 unfold M.h
 have w1' : IntKind.i64.wrap 1 = 1 := by decide
 simp [w1']
 refine ⟨fun x w2 => gv x 1 = .int .i64 1 ∧ w2 = w1, fun _ _ => 0, ⟨rfl, rfl⟩, ?_⟩
 rintro x w2 ⟨e1, rfl⟩
 unfold M.h.j0
 simp [e1]
 exact h
def nv (l : List Int) : List Int := l.mergeSort fun x y => decide (x ≤ y)
theorem nr (l : List Int) : (nv l).Perm l := List.mergeSort_perm ..
theorem vn {l l' : List Int} (h : l.Perm l') : nv l = nv l' := by
 unfold nv
 have hs : ∀ l : List Int, (l.mergeSort fun x y => decide (x ≤ y)).Pairwise fun a b => decide (a ≤ b) = true := fun l => List.pairwise_mergeSort (fun a b c h1 h2 => by simp at *; omega) (fun a b => by simp; omega) l
 exact List.Perm.eq_of_pairwise (fun a b _ _ h1 h2 => by simp at h1 h2; omega) (hs l) (hs l') (((List.mergeSort_perm ..).trans h).trans (List.mergeSort_perm ..).symm)
theorem agr {g : FuncId} {gn : Func} (hg : P.funcs[g]? = some gn) (hgn : (gn.name == "runtime.NumGoroutine") = false) (hgb : gn.body.isNone = false) {cap : List Value} {w : World} {ks : List Int} (hk : ks.length < 60000) (hs : ahy P g cap abk (fun xs => xs.Perm ks) 60000 w) {K : KV}
  (h : ∀ w' v, OwN w' w.heap.size v (nv ks) → Fr (fun _ => False) w w' → K v w') : iz P F.ay [.func (.func g) #[] cap.toArray] w K := by
 apply M.di.calls
 unfold M.di
 rw [M.de.fcall]
 refine aew hg hgn hgb hs fun w1 v xs hx o1 f1 => ?_
 rw [M.bl.fcall]
 have hlen := hx.length_eq
 rcases o1.2 with ⟨rfl, h0⟩ | ⟨g1, cap1, cur, rfl, hb1, _⟩
 ·refine aib ?_
  have hx0 : xs = [] := List.length_eq_zero_iff.1 h0
  have hk0 : ks = [] := List.length_eq_zero_iff.1 (by rw [← hlen, hx0]; rfl)
  refine h w1 _ ?_ f1
  subst hk0
  rw [show nv [] = [] from by simp [nv]]
  exact Ow.none
 ·obtain ⟨_, hbg, hcm, hrw⟩ := Ow.rw o1
  refine ala hrw (by simp) (by omega) fun w2 H2 => ?_
  have hp : nv xs = nv ks := vn hx
  have hl : (nv xs).length = xs.length := (nr xs).length_eq
  refine h w2 _ ?_ (f1.jp H2.fr fun b hb he => by omega)
  rw [← hp]
  have := auz (base := w.heap.size) (l := nv xs) hbg hcm H2.row
  rw [hl] at this
  exact this
end Go.Proofs.YtfnhoaemapheoaaGreat.Suint64
set_option maxRecDepth 100000
namespace Go.Proofs.YtfnhoaemapheoaaGreat.KeyV
open Go.Eng Go.Sort Go.Proofs.YtfnhoaemapheoaaGreat.Suint64
end Go.Proofs.YtfnhoaemapheoaaGreat.KeyV
set_option maxRecDepth 100000
namespace Go.Proofs.YtfnhoaemapheoaaGreat.CM
open Go.Eng
end Go.Proofs.YtfnhoaemapheoaaGreat.CM
set_option maxRecDepth 100000
namespace Go.Proofs.YtfnhoaemapheoaaGreat
open Go.Eng
set_option maxRecDepth 100000
section
variable {w0 w : World} {R : List Asn} {r : Nat} {A L : List Mem} {tv : Value}
theorem xd {m : MP} (S : St w0 w (kq r .u64 m :: R)) : ou w r .u64 m ∧ (jd m).Nodup := by
 obtain ⟨B, h1, _⟩ := S.open
 exact h1.1
theorem apv {m : MP} (S : St w0 w (kq r .u64 m :: R)) {o : Obj} {k : Int} {v : Value} (h : ou (World.setObj w r o) r .u64 (rm m k v)) : St w0 (World.setObj w r o) (kq r .u64 (rm m k v) :: R) := by
 obtain ⟨B, ⟨k1, k2⟩, hB, cl⟩ := S.open
 refine cl (World.setObj w r o) [kq r .u64 (rm m k v)] ((Fr.refl B w).setObj (.inl k2) o) (Rs.one (B := B) ⟨⟨h, ?_⟩, k2⟩ fun b hb => .inl hb)
 rw [ajw]
 split
 ·exact k1.2
 ·rename_i hx
  rw [List.nodup_append]
  exact ⟨k1.2, by simp, fun a ha b hb' hab => by
   simp at hb'
   exact hx (by rw [← hb', ← hab]; exact ha)⟩
end
set_option maxRecDepth 100000
open Go.Eng
section
variable {w0 w : World} {R : List Asn} {r : Nat} {A L : List Mem} {tv : Value}
end
set_option maxRecDepth 100000
open Go.Eng
def pw (l : List Mem) (i : Nat) : Int := match i with
 | 0 => 0
 | i + 1 => (l[i]?.map Mem.id).getD 0
def MbI (W : World) (l : List Mem) : KL := fun x w1 => ∃ (u : Value) (i : Nat), x = [u, .int .i64 (i : Nat)] ∧ i ≤ l.length ∧ (qo 0 l && !(l.any pf)) = (qo (pw l i) (l.drop i) && !((l.drop i).any pf)) ∧ Fr (fun _ => False) W w1
theorem amy {w : World} {v : Value} {l : List Mem} (hs : SlM w v l) (hlen : l.length ≤ 1000000) (hid : ∀ m ∈ l, 0 ≤ m.id) {K : KV} (h : ∀ w', Fr (fun _ => False) w w' → K (.bool (yg l)) w') : fj P F.ck [v] w K := by
 rw [M.bd.fcall]
 apply M.bd.calls
 unfold M.bd
 rw [fm]
 refine ⟨MbI w l, fun x _ => l.length - ms x 1, ⟨_, 0, rfl, Nat.zero_le _, rfl, Fr.refl _ _⟩, ?_⟩
 rintro x w1 ⟨u, i, rfl, hi, hr, f1⟩
 have q0 : gv [u, .int .i64 (i : Nat)] 0 = u := rfl
 have q1 : gv [u, .int .i64 (i : Nat)] 1 = .int .i64 (i : Nat) := rfl
 have hs1 := hs.fr f1 fun _ _ _ h => h
 simp only [fm, q1]
 rw [hs1.ip (by kernel_rfl)]
 have hmr : yg l = ((qo 0 l && !(l.any pf)) && (decide (0 < l.length) && decide (l.length ≤ 16))) := by
  unfold yg
  cases qo 0 l <;> cases l.any pf <;> simp
 by_cases hil : i < l.length
 ·have hil' : (i : Int) < l.length := by omega
  simp [hil']
  unfold M.bd.j2
  obtain ⟨b, o, cap, hv, hb, _, hc⟩ := hs1.at hil
  have hld : ∀ K, ldN P 3 b (o + i * 3) w1 K = K (pu l[i]) w1 := fun K => ldM hc K
  have hwi : IntKind.i64.wrap ((i : Int) + 1) = ((i + 1 : Nat) : Int) := by rw [fp (by omega) (by omega)]; rfl
  have hdrop : l.drop i = l[i] :: l.drop (i + 1) := List.drop_eq_getElem_cons hil
  have hlast : pw l (i + 1) = l[i].id := by unfold pw; simp [List.getElem?_eq_getElem hil]
  have hm0 := hid _ (List.getElem_mem hil)
  -- the one ahead
  have hprev : 0 < i → ∃ p, l[i - 1]? = some p ∧ pw l i = p.id ∧ ∀ j u, (abp p)[j]? = some u → ft w1 b (o + (i - 1) * 3 + j) = some u := fun h0 => by
   have hp : i - 1 < l.length := by omega
   obtain ⟨b', o', cap', hv', _, _, hc'⟩ := hs1.at hp
   have hvv := hv.symm.trans hv'
   injection hvv with ha1 _ _
   injection ha1 with ha1
   injection ha1 with ha4 ha5
   subst ha4 ha5
   refine ⟨l[i - 1], List.getElem?_eq_getElem hp, ?_, hc'⟩
   obtain ⟨k, rfl⟩ : ∃ k, i = k + 1 := ⟨i - 1, by omega⟩
   have hp' : k < l.length := by omega
   show (l[k]?.map Mem.id).getD 0 = _
   rw [List.getElem?_eq_getElem hp']; rfl
  rw [hdrop] at hr
  have hcons : (qo (pw l i) (l[i] :: l.drop (i + 1)) && !((l[i] :: l.drop (i + 1)).any pf)) = ((decide (pw l i < l[i].id) && !(pf l[i])) && (qo (pw l (i + 1)) (l.drop (i + 1)) && !((l.drop (i + 1)).any pf))) := by
   rw [List.any_cons, hlast]
   show ((decide (pw l i < l[i].id) && qo l[i].id (l.drop (i + 1))) && _) = _
   cases decide (pw l i < l[i].id) <;> cases qo l[i].id (l.drop (i + 1)) <;> cases pf l[i] <;> simp
  rw [hcons] at hr
  generalize hm : l[i] = m at *
  subst hv
  simp [q0, q1, hil, hld]
  rw [show pu m = .agg #[.int .u64 m.id, .int .u64 m.inc, .int .i64 m.st] from rfl]
  simp
  have hba : (w1.alloc (.cells #[.int .u64 0, .int .u64 0, .int .i64 0] T.w)).heap[w1.heap.size]? = some (.cells #[.int .u64 0, .int .u64 0, .int .i64 0] T.w (0, 0)) := by rw [gh, if_pos rfl]
  refine jg (vs := [.int .u64 m.id, .int .u64 m.inc, .int .i64 m.st]) hba rfl (by simp) fun w2 b2 f2 => ?_
  have f2' : Fr (fun _ => False) w1 w2 := ((Fr.refl _ w1).alloc _).jp f2 fun y hy he => by subst he; omega
  have c0 : ft w2 w1.heap.size 0 = some (.int .u64 m.id) := by rw [fx b2]; rfl
  have c1 : ft w2 w1.heap.size 1 = some (.int .u64 m.inc) := by rw [fx b2]; rfl
  have c2 : ft w2 w1.heap.size 2 = some (.int .i64 m.st) := by rw [fx b2]; rfl
  have fin : Fr (fun _ => False) w (Eng.dr w2 1) := (f1.trans f2').dr 1
  have no : (decide (pw l i < m.id) && !(pf m)) = false → K (.bool false) (Eng.dr w2 1) := fun hx => by
   rw [hx, Bool.false_and] at hr
   have := h (Eng.dr w2 1) fin
   rw [hmr, hr] at this
   simpa using this
  have yes : (decide (pw l i < m.id) && !(pf m)) = true → MbI w l [u, .int .i64 ((i + 1 : Nat) : Int)] (Eng.dr w2 1) ∧ l.length - ms [u, .int .i64 ((i + 1 : Nat) : Int)] 1 < l.length - ms [u, .int .i64 (i : Nat)] 1 := fun hx => by
   rw [hx, Bool.true_and] at hr
   exact ⟨⟨_, i + 1, rfl, by omega, hr, fin⟩, by simp [ms, gv]; omega⟩
  by_cases e0 : m.id = 0
  ·have hb0 : (decide (pw l i < m.id) && !(pf m)) = false := by
    have : ¬ pw l i < m.id := by
     have : 0 ≤ pw l i := by
      by_cases h0 : 0 < i
      ·obtain ⟨p, hp, hpl, _⟩ := hprev h0
       rw [hpl]; exact hid p (List.mem_of_getElem? hp)
      ·have : i = 0 := by omega
       subst this; exact Int.le_refl _
     omega
    rw [decide_eq_false this, Bool.false_and]
   simp [c0, e0]
   exact no hb0
  by_cases e1 : m.inc = 0
  ·have hb0 : (decide (pw l i < m.id) && !(pf m)) = false := by
    unfold pf; simp [e1]
   simp [c0, c1, e0, e1]
   exact no hb0
  by_cases e2 : m.st < 0
  ·have hb0 : (decide (pw l i < m.id) && !(pf m)) = false := by
    unfold pf; simp [e2]
   simp [c0, c1, c2, e0, e1, e2]
   exact no hb0
  by_cases e3 : 2 < m.st
  ·have hb0 : (decide (pw l i < m.id) && !(pf m)) = false := by
    unfold pf; simp [e3]
   simp [c0, c1, c2, e0, e1, e2, e3]
   exact no hb0
  have hodd : pf m = false := by unfold pf; simp [e1, e2, e3]
  by_cases e4 : 0 < i
  ·obtain ⟨p, hp, hpl, hpc⟩ := hprev e4
   have cp := hpc 0 _ rfl
   simp only [Nat.add_zero] at cp
   have cp2 : ft w2 b (o + (i - 1) * 3) = some (.int .u64 p.id) := by rw [ui (f2'.jn b hb fun h => h)]; exact cp
   have e4' : (0 : Int) < i := by omega
   have hsub : IntKind.i64.wrap ((i : Int) - 1) = ((i - 1 : Nat) : Int) := by rw [fp (by omega) (by omega)]; omega
   have hi1 : i - 1 < l.length := by omega
   have hi1' : ((i - 1 : Nat) : Int) < l.length := by omega
   by_cases e5 : m.id ≤ p.id
   ·have hb0 : (decide (pw l i < m.id) && !(pf m)) = false := by
     rw [hpl, decide_eq_false (by omega), Bool.false_and]
    simp [c0, c1, c2, e0, e1, e2, e3, e4, hsub, hi1, cp2, e5]
    exact no hb0
   ·have hb0 : (decide (pw l i < m.id) && !(pf m)) = true := by
     rw [hpl, decide_eq_true (by omega), hodd]; rfl
    simp [c0, c1, c2, e0, e1, e2, e3, e4, hsub, hi1, cp2, e5, hwi]
    exact yes hb0
  ·have hi0 : i = 0 := by omega
   have hb0 : (decide (pw l i < m.id) && !(pf m)) = true := by
    have : pw l i < m.id := by rw [hi0]; show 0 < m.id; omega
    rw [decide_eq_true this, hodd]; rfl
   simp [c0, c1, c2, e0, e1, e2, e3, e4, hwi]
   exact yes hb0
 ·have hil' : ¬ (i : Int) < l.length := by omega
  simp [hil']
  unfold M.bd.j0
  rw [List.drop_of_length_le (by omega)] at hr
  have hr' : (qo 0 l && !(l.any pf)) = true := by rw [hr]; rfl
  rw [hmr, hr', Bool.true_and] at h
  rw [hs1.ip (by kernel_rfl)]
  have hx : decide ((l.length : Int) ≤ 16) = decide (l.length ≤ 16) := by
   by_cases h16 : l.length ≤ 16
   ·rw [decide_eq_true h16, decide_eq_true (by omega)]
   ·rw [decide_eq_false h16, decide_eq_false (by omega)]
  by_cases h0 : 0 < l.length
  ·have h0' : (1 : Int) ≤ l.length := by omega
   simp [h0']
   rw [hs1.ip (by kernel_rfl)]
   simp
   rw [hx]
   have := h w1 f1
   simpa [h0] using this
  ·have h0' : ¬ (1 : Int) ≤ l.length := by omega
   simp [h0']
   have := h w1 f1
   simpa [h0] using this
structure Nd where
 id : Int
 bpn : Int
 bqy : Int
 now : Int
 due : Int
 left : Bool
 v : List Mem
 h : MP
section
variable {n : Nd} {frm now pick : Int} {l : List Mem}
end
set_option maxRecDepth 100000
open Go.Eng
section
variable {w0 w : World} {R : List Asn}
end
set_option maxRecDepth 100000
open Go.Eng
section
variable {w0 w : World} {R : List Asn} {p r : Nat} {v : Value} {n : Nd}
end
set_option maxRecDepth 100000
open Go.Eng
section
variable {w0 w : World} {R : List Asn}
end
set_option maxRecDepth 100000
open Go.Eng
section
variable {w0 w : World} {R : List Asn} {p r : Nat} {v : Value} {n : Nd}
end
set_option maxRecDepth 100000
open Go.Eng
def tg (tr : Int) : List Int → List Spn → Bool
 | _, [] => true
 | met, s :: r => (decide (uf s = 0) && (decide (s.lz = tr) && !(decide (s.id ∈ met)))) && tg tr (met ++ [s.id]) r
def qz (tr : Int) (l : List Spn) : Bool := tg tr [] l && (decide (0 < l.length) && decide (l.length ≤ 16))
theorem ags {tr : Int} {met : List Int} {s : Spn} {r : List Spn} (h : ¬ (uf s = 0 ∧ s.lz = tr ∧ s.id ∉ met)) : tg tr met (s :: r) = false := by
 rw [tg]
 by_cases h1 : uf s = 0 <;> by_cases h2 : s.lz = tr <;> by_cases h3 : s.id ∈ met <;> simp_all
theorem ahm {tr : Int} {met : List Int} {s : Spn} {r : List Spn} (h1 : uf s = 0) (h2 : s.lz = tr) (h3 : s.id ∉ met) : tg tr met (s :: r) = tg tr (met ++ [s.id]) r := by
 rw [tg]; simp [h1, h2, h3]
def MsI (W : World) (mb : Nat) (tr : Int) (l : List Spn) : KL := fun x w1 => ∃ (u0 u1 : Value) (i : Nat) (m : MP), x = [u0, u1, .int .i64 (i : Nat)] ∧ i ≤ l.length ∧ St W w1 (kq mb .u64 m :: []) ∧ (∀ k, lj m k = if k ∈ (l.take i).map Spn.id then some (.bool true) else none) ∧ tg tr [] l = tg tr ((l.take i).map Spn.id) (l.drop i)
theorem alz {w : World} {v : Value} {l : List Spn} {tr : Int} (hs : SlS w v l) (hlen : l.length ≤ 1000000) {K : KV} (h : ∀ w', Fr (fun _ => False) w w' → K (.bool (qz tr l)) w') : fj P F.dt [.int .u64 tr, v] w K := by
 rw [M.cl.fcall]
 apply M.cl.calls
 unfold M.cl
 rw [apb]
 have hlv : ∀ w' K, biT P .len #[T.n] T.b [false] [v] w' K = K (.int .i64 l.length) w' := fun w' K => hs.ip (by kernel_rfl) [false]
 have S0 : St w (w.alloc (.map #[] 0)) (kq w.heap.size .u64 [] :: []) := (St.jc w).add ((Fr.refl _ w).alloc _) (B := fun x => x = w.heap.size) ⟨⟨agq w .u64, by simp [jd]⟩, rfl⟩ fun x hx => by subst hx; rw [iy]; omega
 generalize w.alloc (.map #[] 0) = w1 at *
 generalize w.heap.size = mb at *
 simp [hlv]
 refine ⟨MsI w mb tr l, fun x _ => l.length - ms x 2, ⟨_, _, 0, [], rfl, Nat.zero_le _, S0, fun k => by simp [lj], rfl⟩, ?_⟩
 rintro x w2 ⟨u0, u1, i, m, rfl, hi, S2, hm, hg⟩
 by_cases hil : i < l.length
 ·have hili : (i : Int) < (l.length : Int) := by omega
  simp [hil]
  unfold M.cl.j2
  have hs2 : SlS w2 v l := hs.fr S2.fr fun _ _ _ h => h
  obtain ⟨b, o, cap, hv, _, _, hc⟩ := hs2.at hil
  have hia : ∀ w' K, iaT P T.n v (.int .i64 (i : Nat)) w' K = K (.pointer (some ⟨b, o + i * 8, none⟩)) w' := fun w' K => by rw [hv]; simp [hil]
  have hld : ∀ K, ldN P 8 b (o + i * 8) w2 K = K (tm l[i]) w2 := fun K => ldS (fun k u hk => hc k u hk) K
  have hdrop : l.drop i = l[i] :: l.drop (i + 1) := List.drop_eq_getElem_cons hil
  rw [hdrop] at hg
  have htk : (l.take (i + 1)).map Spn.id = (l.take i).map Spn.id ++ [l[i].id] := by rw [List.take_succ_eq_append_getElem hil, List.map_append]; rfl
  generalize l[i] = s at *
  simp [hia, hld]
  unfold tm
  simp
  have S3 : St w (w2.alloc (.cells #[.int .u64 0, .int .u64 0, .int .u64 0, .int .u64 0, .int .u64 0, .string ⟨#[]⟩, .string ⟨#[]⟩, .bool false] T.z)) (fy w2.heap.size #[.int .u64 0, .int .u64 0, .int .u64 0, .int .u64 0, .int .u64 0, .string ⟨#[]⟩, .string ⟨#[]⟩, .bool false] T.z :: kq mb .u64 m :: []) := S2.add ((Fr.refl _ w2).alloc _) (B := fun x => x = w2.heap.size) ⟨by rw [gh, if_pos rfl], rfl⟩ fun x hx => by subst hx; rw [iy]; omega
  generalize w2.heap.size = sb at *
  refine jg (vs := zd s) S3.blk rfl (ara s) fun w4 b4 f4 => ?_
  have S4 : St w w4 (fy sb (zd s).toArray T.z :: kq mb .u64 m :: []) := S3.lb f4 b4
  have spC : ∀ {W : World}, St w W (fy sb (zd s).toArray T.z :: kq mb .u64 m :: []) → ft W sb 0 = some (.int .u64 s.lz) ∧ ft W sb 1 = some (.int .u64 s.id) ∧ ∀ K, ldN P 8 sb 0 W K = K (tm s) W := fun {W} S' => by
   have hh : aoe W sb s := S'.blk
   exact ⟨vt hh 0 _ rfl, vt hh 1 _ rfl, fun K => ldS (fun k v hk => by rw [Nat.zero_add]; exact vt hh k v hk) K⟩
  obtain ⟨_, _, sl⟩ := spC S4
  simp [sl]
  rw [M.ee.fcall]
  refine azn s fun w5 f5 => ?_
  have S5 := S4.ir f5
  obtain ⟨s0, s1, _⟩ := spC S5
  have bad : ¬ (uf s = 0 ∧ s.lz = tr ∧ s.id ∉ (l.take i).map Spn.id) → K (.bool false) w5 := fun hb => by
   have := h w5 S5.fr
   unfold qz at this
   rw [hg, ags hb] at this
   simpa using this
  have hmap := (xd S5.swap).1
  have hw : IntKind.i64.wrap ((i : Int) + 1) = ((i + 1 : Nat) : Int) := by rw [fp (by omega) (by omega)]; omega
  by_cases h1 : uf s = 0
  case neg =>
   simp [h1]
   exact bad fun hh => h1 hh.1
  by_cases h2 : s.lz = tr
  case neg =>
   simp [h1, s0, h2]
   exact bad fun hh => h2 hh.2.1
  have hmk := hm s.id
  by_cases h3 : s.id ∈ (l.take i).map Spn.id
  ·rw [if_pos h3] at hmk
   simp [h1, s0, h2, s1, aal mt.ar hmap, hmk]
   exact bad fun hh => hh.2.2 h3
  ·rw [if_neg h3] at hmk
   simp [h1, s0, h2, s1, aal mt.ar hmap, hmk]
   refine ant mt.ar hmap s.id _ _ fun ob hob => ?_
   have S6 := apv S5.swap hob
   rw [hw]
   refine ⟨⟨_, _, i + 1, _, rfl, hil, (S6.swap).drop, fun k => ?_, ?_⟩, by simp [ms, gv]; omega⟩
   ·rw [acg, hm k, htk]
    by_cases hk : s.id = k
    ·subst hk; simp
    ·have hk' : ¬ k = s.id := fun e => hk e.symm
     simp [hk, hk']
   ·rw [hg, ahm h1 h2 h3, htk]
 ·have hili : ¬ (i : Int) < (l.length : Int) := by omega
  simp [hil]
  unfold M.cl.j0
  rw [List.drop_of_length_le (by omega)] at hg
  have fin := h w2 S2.fr
  unfold qz at fin
  rw [hg, tg] at fin
  by_cases h1 : 0 < l.length
  ·have h1i : (0 : Int) < (l.length : Int) := by omega
   by_cases h2 : l.length ≤ 16
   ·have h2i : (l.length : Int) ≤ 16 := by omega
    simp [hlv, h1]
    try rw [hlv]
    simp [h2i]
    simpa [h1, h2] using fin
   ·have h2i : ¬ (l.length : Int) ≤ 16 := by omega
    simp [hlv, h1]
    try rw [hlv]
    simp [h2i]
    simpa [h1, h2] using fin
  ·have h1i : ¬ (0 : Int) < (l.length : Int) := by omega
   simp [hlv, h1i]
   simpa [h1] using fin
theorem amw {w : World} {v : Value} {l : List Int} (hs : SlU w v l) (hlen : l.length ≤ 1000000) {K : KV} (h : ∀ w' v', SlU w' v' l → (∀ x, v'.ownBlock = some x → w.heap.size ≤ x) → Fr (fun _ => False) w w' → K v' w') : fj P F.ak [v] w K := by
 rw [M.cg.fcall]
 apply M.cg.calls
 unfold M.cg
 simp only [fm]
 have hs' := hs
 obtain ⟨a, cap, rfl, _⟩ := hs'
 cases a with
 | none =>
  simp
  have hz : l = [] := by
   obtain ⟨a', cap', hv, _, _, h3⟩ := hs
   cases l with
   | nil => rfl
   | cons x l =>
    obtain ⟨b, o, ha, _⟩ := h3 0 x rfl
    injection hv with h1 _ _
    rw [← h1] at ha; cases ha
  subst hz
  exact h w _ Sl.nil (fun x hx => by simp [Value.ownBlock] at hx) (Fr.refl _ _)
 | some a =>
  simp
  have f0 : Fr (fun _ => False) w (w.alloc (.cells #[] T.d)) := (Fr.refl _ w).alloc _
  refine qe et.f ahw azj (base := w.heap.size) (Ow.empty (by rw [gh, if_pos rfl]) (Nat.le_refl _)) (hs.fr f0 fun _ _ _ h => h) (by simp; omega) (by decide) (by simp) _ fun v3 w3 o3 f3 g3 => ?_
  rw [List.nil_append] at o3
  exact h w3 v3 (o3.sl ahw) (fun x hx => (o3.lt hx).1) (f0.jp f3 fun b hb hv => by simp [Value.ownBlock] at hv; omega)
inductive ThR (w : World) (p : Pk) (ls : List Spn) (lm : List Mem) (lu : List Int) : Value → Prop
 | rq (v : Value) : (p.fu = 1 ∨ p.fu = 2) → SlS w v ls → ThR w p ls lm lu (.iface T.y (.agg #[.int .u64 p.tr, .bool (decide (p.fu = 2)), v]))
 | afm (v : Value) : p.fu = 3 → SlM w v lm → ThR w p ls lm lu (.iface T.aa (.agg #[v]))
 | ask : (p.fu = 4 ∨ p.fu = 6) → ThR w p ls lm lu (afp p.tr p.b p.v)
 | ym : (p.fu = 5 ∨ p.fu = 7) → ThR w p ls lm lu (.iface T.s (.agg #[.int .u64 p.tr, .int .u64 p.b.n, .int .u64 p.b.gg, .bool p.ok, .int .u64 p.il.n, .int .u64 p.il.gg, .int .i64 p.v, .bool (decide (p.fu = 7))]))
 | uk : p.fu = 8 → ThR w p ls lm lu (.iface T.ae (.agg #[.int .u64 p.tr, .int .i64 p.v]))
 | vl (v : Value) : p.fu = 9 → SlS w v ls → ThR w p ls lm lu (.iface T.x (.agg #[.int .u64 p.tr, .int .u64 p.b.n, .int .u64 p.b.gg, v]))
 | xw (v : Value) : p.fu = 10 → SlU w v lu → ThR w p ls lm lu (.iface T.ab (.agg #[.int .u64 p.tr, v]))
 | none : ¬ (1 ≤ p.fu ∧ p.fu ≤ 10) → ThR w p ls lm lu .nilIface
theorem aly {w : World} {p : Pk} {ls : List Spn} {lm : List Mem} {lu : List Int} (hp : nu w p ls lm lu) {K : KV} (h : ∀ w' t, ThR w' p ls lm lu t → Fr (fun _ => False) w w' → K t w') : fj P F.cp [pkA p] w K := by
 by_cases ha : p.fu = 4 ∨ p.fu = 6
 ·exact ary ha fun w' f => h w' _ (.ask ha) f
 rw [M.ai.fcall]
 apply M.ai.calls
 unfold M.ai
 rw [aqs hp]
 have S1 : St w (w.alloc (.cells (pkC p).toArray T.a)) (fy w.heap.size (pkC p).toArray T.a :: []) := (St.jc w).add ((Fr.refl _ w).alloc _) (B := fun x => x = w.heap.size) ⟨by rw [gh, if_pos rfl], rfl⟩ fun x hx => by subst hx; rw [iy]; omega
 generalize w.alloc (.cells (pkC p).toArray T.a) = w1 at *
 generalize w.heap.size = pb at *
 have f1 := S1.fr
 have hp1 := hp.fr f1
 have fd : Fr (fun _ => False) w1 (dr w1 1) := (Fr.refl _ w1).dr 1
 have hpd := hp1.fr fd
 have Sd := S1.ir fd
 obtain ⟨_, _, e2, _⟩ := ij Sd
 obtain ⟨c0, c1, c2, c4, c6, c7, c8, c9, c10, _⟩ := ij S1
 obtain ⟨⟨a1, k1, h1⟩, ⟨a2, k2, h2⟩, a3, k3, h3⟩ := hp.one
 have n4 : ¬ p.fu = 4 := fun h => ha (.inl h)
 have n6 : ¬ p.fu = 6 := fun h => ha (.inr h)
 by_cases q1 : p.fu = 1 ∨ p.fu = 2
 ·have fin : ∀ d : Bool, d = decide (p.fu = 2) → ∀ w2 v2, SlS w2 v2 ls → Fr (fun _ => False) (dr w1 1) w2 → K (.iface T.y (.agg #[.int .u64 p.tr, .bool d, v2])) w2 := fun d hd w2 v2 s2 f2 => by
   subst hd
   exact h w2 _ (.rq v2 q1 s2) (f1.trans (fd.trans f2))
  have c8' := c8
  rw [h1] at c8'
  rcases q1 with q | q
  ·simp [c0, q]
   unfold M.ai.j1
   simp [c1, c0, q, c8']
   rw [← h1, M.al.fcall]
   refine abx hpd.s hpd.ls fun w2 v2 s2 _ f2 => ?_
   obtain ⟨a, c, hv, _⟩ := id s2
   have fin' := fin false (by simp [q]) w2 v2 s2 f2
   have S2 := Sd.ir f2
   obtain ⟨d0, d1, _⟩ := ij S2
   rw [hv] at fin' ⊢
   simp [d0, d1, q]
   exact fin'
  ·simp [c0, q]
   unfold M.ai.j1
   simp [c1, c0, q, c8']
   rw [← h1, M.al.fcall]
   refine abx hpd.s hpd.ls fun w2 v2 s2 _ f2 => ?_
   obtain ⟨a, c, hv, _⟩ := id s2
   have fin' := fin true (by simp [q]) w2 v2 s2 f2
   have S2 := Sd.ir f2
   obtain ⟨d0, d1, _⟩ := ij S2
   rw [hv] at fin' ⊢
   simp [d0, d1, q]
   exact fin'
 have n1 : ¬ p.fu = 1 := fun h => q1 (.inl h)
 have n2 : ¬ p.fu = 2 := fun h => q1 (.inr h)
 simp [c0, n1, n2]
 unfold M.ai.j1
 by_cases q3 : p.fu = 3
 ·have c9' := c9
  rw [h2] at c9'
  simp [q3, c9']
  rw [← h2]
  refine amt hp1.m hp1.lm fun w2 v2 s2 _ f2 => ?_
  obtain ⟨a, c, hv, _⟩ := id s2
  have fin := h w2 _ (.afm v2 q3 s2) (f1.trans f2)
  rw [hv] at fin ⊢
  simp
  exact fin
 simp [q3, n4, n6]
 unfold M.ai.j2
 by_cases q5 : p.fu = 5 ∨ p.fu = 7
 ·have fin := h w1 _ (.ym (ls := ls) (lm := lm) (lu := lu) q5) f1
  unfold ja at c2 c4
  rcases q5 with q | q
  ·simp [q]
   unfold M.ai.j3
   simp [c0, c1, c2, c4, c6, c7, q]
   simp [q] at fin
   exact fin
  ·simp [q]
   unfold M.ai.j3
   simp [c0, c1, c2, c4, c6, c7, q]
   simp [q] at fin
   exact fin
 have n5 : ¬ p.fu = 5 := fun h => q5 (.inl h)
 have n7 : ¬ p.fu = 7 := fun h => q5 (.inr h)
 simp [n5, n7]
 unfold M.ai.j3
 by_cases q8 : p.fu = 8
 ·simp [q8, c1, c6]
  exact h w1 _ (.uk q8) f1
 by_cases q9 : p.fu = 9
 ·have c8' := c8
  rw [h1] at c8'
  unfold ja at c2 e2
  simp [q9, c1, c2, e2, c8']
  rw [← h1, M.al.fcall]
  refine abx hpd.s hpd.ls fun w2 v2 s2 _ f2 => ?_
  obtain ⟨a, c, hv, _⟩ := id s2
  have fin := h w2 _ (.vl v2 q9 s2) (f1.trans (fd.trans f2))
  have S2 := Sd.ir f2
  obtain ⟨_, d1, d2, _⟩ := ij S2
  unfold ja at d2
  rw [hv] at fin ⊢
  simp [d1, d2]
  exact fin
 by_cases q10 : p.fu = 10
 ·have c10' := c10
  rw [h3] at c10'
  simp [q10, c1, c10']
  rw [← h3]
  refine amw hpd.u hpd.lu fun w2 v2 s2 _ f2 => ?_
  obtain ⟨a, c, hv, _⟩ := id s2
  have fin := h w2 _ (.xw v2 q10 s2) (f1.trans (fd.trans f2))
  have S2 := Sd.ir f2
  obtain ⟨_, d1, _⟩ := ij S2
  rw [hv] at fin ⊢
  simp [d1]
  exact fin
 simp [q8, q9, q10]
 exact h w1 _ (.none (by omega)) f1
def agf (tr : Int) (l : List Spn) : Bool := decide (0 < tr) && qz tr l
theorem ana {w : World} {tr : Int} {d : Bool} {v : Value} {l : List Spn} (hs : SlS w v l) (hlen : l.length ≤ 1000000) {K : KV} (h : ∀ w', Fr (fun _ => False) w w' → K (.bool (agf tr l)) w') : fj P F.aj [.iface T.y (.agg #[.int .u64 tr, .bool d, v])] w K := by
 rw [M.ad.fcall]
 apply M.ad.calls
 unfold M.ad
 obtain ⟨a, c, hv, _⟩ := id hs
 rw [hv]
 simp
 have S0 : St w (w.alloc (.cells #[.int .u64 0, .int .u64 0] T.c)) (fy w.heap.size #[.int .u64 0, .int .u64 0] T.c :: []) := (St.jc w).add ((Fr.refl _ w).alloc _) (B := fun x => x = w.heap.size) ⟨by rw [gh, if_pos rfl], rfl⟩ fun x hx => by subst hx; rw [iy]; omega
 refine jg (vs := [.int .u64 0, .int .u64 0]) S0.blk rfl (by simp [jq]) fun w2 b2 f2 => ?_
 have S2 := S0.lb f2 b2
 have S3 : St w (w2.alloc (.cells #[.int .u64 0, .bool false, .slice none 0 0] T.y)) (fy w2.heap.size #[.int .u64 0, .bool false, .slice none 0 0] T.y :: _) := S2.add ((Fr.refl _ w2).alloc _) (B := fun x => x = w2.heap.size) ⟨by rw [gh, if_pos rfl], rfl⟩ fun x hx => by subst hx; rw [iy]; omega
 refine jg (vs := [.int .u64 tr, .bool d, .slice a l.length c]) S3.blk rfl (by simp [jq]) fun w4 b4 f4 => ?_
 have S4 := S3.lb f4 b4
 generalize w2.heap.size = ob at *
 have c0 : ft w4 ob 0 = some (.int .u64 tr) := by rw [fx b4]; rfl
 have c2 : ft w4 ob 2 = some (.slice a l.length c) := by rw [fx b4]; rfl
 unfold agf at h
 by_cases h1 : 0 < tr
 ·simp [c0, c2, h1]
  rw [← hv]
  refine alz (hs.fr S4.fr fun _ _ _ h => h) hlen fun w5 f5 => ?_
  have fin := h w5 (S4.fr.trans f5)
  simpa [h1] using fin
 ·have fin := h w4 S4.fr
  simp [c0, h1]
  simpa [h1] using fin
def ahc (tr : Int) (b : Bal) (l : List Spn) : Bool := decide (0 < tr) && decide (0 < b.n) && qz tr l
theorem alf {w : World} {tr : Int} {b : Bal} {v : Value} {l : List Spn} (hs : SlS w v l) (hlen : l.length ≤ 1000000) {K : KV} (h : ∀ w', Fr (fun _ => False) w w' → K (.bool (ahc tr b l)) w') : fj P F.aj [.iface T.x (.agg #[.int .u64 tr, .int .u64 b.n, .int .u64 b.gg, v])] w K := by
 rw [M.ad.fcall]
 apply M.ad.calls
 unfold M.ad
 obtain ⟨a, c, hv, _⟩ := id hs
 rw [hv]
 simp [acb, aad, aac, acj, adk]
 have S0 : St w (w.alloc (.cells #[.int .u64 0, .int .u64 0] T.c)) (fy w.heap.size #[.int .u64 0, .int .u64 0] T.c :: []) := (St.jc w).add ((Fr.refl _ w).alloc _) (B := fun x => x = w.heap.size) ⟨by rw [gh, if_pos rfl], rfl⟩ fun x hx => by subst hx; rw [iy]; omega
 refine jg (vs := [.int .u64 0, .int .u64 0]) S0.blk rfl (by simp [jq]) fun w2 b2 f2 => ?_
 have S2 := S0.lb f2 b2
 have S3 : St w (w2.alloc (.cells #[.int .u64 0, .int .u64 0, .int .u64 0, .slice none 0 0] T.x)) (fy w2.heap.size #[.int .u64 0, .int .u64 0, .int .u64 0, .slice none 0 0] T.x :: _) := S2.add ((Fr.refl _ w2).alloc _) (B := fun x => x = w2.heap.size) ⟨by rw [gh, if_pos rfl], rfl⟩ fun x hx => by subst hx; rw [iy]; omega
 refine jg (vs := [.int .u64 tr, .int .u64 b.n, .int .u64 b.gg, .slice a l.length c]) S3.blk rfl (by simp [jq]) fun w4 b4 f4 => ?_
 have S4 := S3.lb f4 b4
 generalize w2.heap.size = ob at *
 have c0 : ft w4 ob 0 = some (.int .u64 tr) := by rw [fx b4]; rfl
 have c1 : ft w4 ob 1 = some (.int .u64 b.n) := by rw [fx b4]; rfl
 have c3 : ft w4 ob 3 = some (.slice a l.length c) := by rw [fx b4]; rfl
 unfold ahc at h
 by_cases h1 : 0 < tr
 ·by_cases h2 : 0 < b.n
  ·simp [c0, c1, c3, h1, h2]
   rw [← hv]
   refine alz (hs.fr S4.fr fun _ _ _ h => h) hlen fun w5 f5 => ?_
   have fin := h w5 (S4.fr.trans f5)
   simpa [h1, h2] using fin
  ·have fin := h w4 S4.fr
   simp [c0, c1, h1, h2]
   simpa [h1, h2] using fin
 ·have fin := h w4 S4.fr
  simp [c0, h1]
  simpa [h1] using fin
def anr (tr v : Int) : Bool := decide (0 < tr) && kb v
theorem anu {w : World} {tr v : Int} {K : KV} (h : ∀ w', Fr (fun _ => False) w w' → K (.bool (anr tr v)) w') : fj P F.aj [.iface T.ae (.agg #[.int .u64 tr, .int .i64 v])] w K := by
 rw [M.ad.fcall]
 apply M.ad.calls
 unfold M.ad
 simp [aff, acm, acy, afe]
 have S0 : St w (w.alloc (.cells #[.int .u64 0, .int .u64 0] T.c)) (fy w.heap.size #[.int .u64 0, .int .u64 0] T.c :: []) := (St.jc w).add ((Fr.refl _ w).alloc _) (B := fun x => x = w.heap.size) ⟨by rw [gh, if_pos rfl], rfl⟩ fun x hx => by subst hx; rw [iy]; omega
 refine jg (vs := [.int .u64 0, .int .u64 0]) S0.blk rfl (by simp [jq]) fun w2 b2 f2 => ?_
 have S2 := S0.lb f2 b2
 have S3 : St w (w2.alloc (.cells #[.int .u64 0, .int .i64 0] T.ae)) (fy w2.heap.size #[.int .u64 0, .int .i64 0] T.ae :: _) := S2.add ((Fr.refl _ w2).alloc _) (B := fun x => x = w2.heap.size) ⟨by rw [gh, if_pos rfl], rfl⟩ fun x hx => by subst hx; rw [iy]; omega
 refine jg (vs := [.int .u64 tr, .int .i64 v]) S3.blk rfl (by simp [jq]) fun w4 b4 f4 => ?_
 have S4 := S3.lb f4 b4
 generalize w2.heap.size = ob at *
 have c0 : ft w4 ob 0 = some (.int .u64 tr) := by rw [fx b4]; rfl
 have c1 : ft w4 ob 1 = some (.int .i64 v) := by rw [fx b4]; rfl
 have fin := h w4 S4.fr
 unfold anr at fin
 by_cases h1 : 0 < tr
 ·simp [c0, c1, h1]
  refine aid ?_
  simpa [h1] using fin
 ·simp [c0, h1]
  simpa [h1] using fin
def sd : Int → List Int → Bool
 | _, [] => true
 | jy, m :: l => decide (jy < m) && sd m l
def RuI (W : World) (l : List Int) : KL := fun x w1 => ∃ (u0 u1 : Value) (jy : Int) (i : Nat), x = [u0, u1, .int .u64 jy, .int .i64 (i : Nat)] ∧ i ≤ l.length ∧ sd 0 l = sd jy (l.drop i) ∧ Fr (fun _ => False) W w1
theorem asp {w : World} (m : Int) {K : KV} (h : K (.int .u64 m) w) : lx P (.func (.func F.cz) #[] #[]) [.int .u64 m] w K := by
 rw [M.ed.rcall]
 apply M.ed.calls
 unfold M.ed
 exact h
theorem ays {w : World} {v : Value} {l : List Int} (hs : SlU w v l) (hlen : l.length ≤ 1000000) {K : KV} (h : ∀ w', Fr (fun _ => False) w w' → K (.bool (sd 0 l && (decide (0 < l.length) && decide (l.length ≤ 16)))) w') :
  fj P F.cm [v, .int .i64 16, .func (.func F.cz) #[] #[]] w K := by
 rw [M.be.fcall]
 apply M.be.calls
 unfold M.be
 simp only [fm]
 rw [hs.ip (by kernel_rfl)]
 refine ⟨RuI w l, fun x _ => l.length - ms x 3, ⟨_, _, 0, 0, rfl, Nat.zero_le _, rfl, Fr.refl _ _⟩, ?_⟩
 rintro x w1 ⟨u0, u1, jy, i, rfl, hi, hr, f1⟩
 have q2 : gv [u0, u1, .int .u64 jy, .int .i64 (i : Nat)] 2 = .int .u64 jy := rfl
 have q3 : gv [u0, u1, .int .u64 jy, .int .i64 (i : Nat)] 3 = .int .i64 (i : Nat) := rfl
 have hs1 := hs.fr f1 fun _ _ _ h => h
 simp only [q3]
 by_cases hil : i < l.length
 ·have hil' : (i : Int) < l.length := by omega
  simp [hil']
  unfold M.be.j2
  obtain ⟨b, o, cap, hv, hb, _, hc⟩ := hs1.at hil
  have hld := hc 0 _ rfl
  have hwi : IntKind.i64.wrap ((i : Int) + 1) = ((i + 1 : Nat) : Int) := by rw [fp (by omega) (by omega)]; rfl
  have hdrop : l.drop i = l[i] :: l.drop (i + 1) := List.drop_eq_getElem_cons hil
  rw [hdrop] at hr
  generalize l[i] = m at *
  subst hv
  have hld' : ft w1 b (o + i) = some (.int .u64 m) := by simpa using hld
  simp [q2, q3, hil, hld']
  refine asp m ?_
  simp
  by_cases hle : m ≤ jy
  ·have hlt : ¬ jy < m := by omega
   simp [hle]
   have hf : sd 0 l = false := by rw [hr]; unfold sd; simp [hlt]
   rw [hf] at h
   exact h w1 f1
  ·have hlt : jy < m := by omega
   simp [hle]
   refine asp m ?_
   simp [hwi]
   refine ⟨⟨_, _, m, i + 1, rfl, by omega, ?_, f1⟩, by simp [ms, gv]; omega⟩
   rw [hr]
   show (decide (jy < m) && sd m (l.drop (i + 1))) = _
   simp [hlt]
 ·have hil' : ¬ (i : Int) < l.length := by omega
  have hr1 : sd 0 l = true := by rw [hr, List.drop_of_length_le (by omega)]; rfl
  simp [hil']
  unfold M.be.j0
  rw [hs1.ip (by kernel_rfl)]
  rw [hr1] at h
  by_cases h0 : 0 < l.length
  ·have h0' : (0 : Int) < l.length := by omega
   have hx : decide ((l.length : Int) ≤ 16) = decide (l.length ≤ 16) := by
    by_cases h16 : l.length ≤ 16
    ·rw [decide_eq_true h16, decide_eq_true (by omega)]
    ·rw [decide_eq_false h16, decide_eq_false (by omega)]
   simp [h0]
   rw [hs1.ip (by kernel_rfl)]
   simp
   rw [hx]
   have := h w1 f1
   simpa [h0] using this
  ·simp [h0]
   have := h w1 f1
   simpa [h0] using this
def ajy (tr : Int) (l : List Int) : Bool := decide (0 < tr) && (sd 0 l && (decide (0 < l.length) && decide (l.length ≤ 16)))
theorem anc {w : World} {tr : Int} {v : Value} {l : List Int} (hs : SlU w v l) (hlen : l.length ≤ 1000000) {K : KV} (h : ∀ w', Fr (fun _ => False) w w' → K (.bool (ajy tr l)) w') : fj P F.aj [.iface T.ab (.agg #[.int .u64 tr, v])] w K := by
 rw [M.ad.fcall]
 apply M.ad.calls
 unfold M.ad
 obtain ⟨a, c, hv, _⟩ := id hs
 rw [hv]
 simp [aea, abl, aba, ado, aez, acn]
 have S0 : St w (w.alloc (.cells #[.int .u64 0, .int .u64 0] T.c)) (fy w.heap.size #[.int .u64 0, .int .u64 0] T.c :: []) := (St.jc w).add ((Fr.refl _ w).alloc _) (B := fun x => x = w.heap.size) ⟨by rw [gh, if_pos rfl], rfl⟩ fun x hx => by subst hx; rw [iy]; omega
 refine jg (vs := [.int .u64 0, .int .u64 0]) S0.blk rfl (by simp [jq]) fun w2 b2 f2 => ?_
 have S2 := S0.lb f2 b2
 have S3 : St w (w2.alloc (.cells #[.int .u64 0, .slice none 0 0] T.ab)) (fy w2.heap.size #[.int .u64 0, .slice none 0 0] T.ab :: _) := S2.add ((Fr.refl _ w2).alloc _) (B := fun x => x = w2.heap.size) ⟨by rw [gh, if_pos rfl], rfl⟩ fun x hx => by subst hx; rw [iy]; omega
 refine jg (vs := [.int .u64 tr, .slice a l.length c]) S3.blk rfl (by simp [jq]) fun w4 b4 f4 => ?_
 have S4 := S3.lb f4 b4
 generalize w2.heap.size = ob at *
 have c0 : ft w4 ob 0 = some (.int .u64 tr) := by rw [fx b4]; rfl
 have c1 : ft w4 ob 1 = some (.slice a l.length c) := by rw [fx b4]; rfl
 unfold ajy at h
 by_cases h1 : 0 < tr
 ·simp [c0, c1, h1]
  rw [← hv]
  refine ays (hs.fr S4.fr fun _ _ _ h => h) hlen fun w5 f5 => ?_
  have fin := h w5 (S4.fr.trans f5)
  simpa [h1] using fin
 ·have fin := h w4 S4.fr
  simp [c0, h1]
  simpa [h1] using fin
def aga (tr : Int) (b : Bal) (ok : Bool) (il : Bal) (v : Int) (gr : Bool) : Bool :=
 if tr = 0 ∨ b.n = 0 then false else if ok = false then decide (v = 0) && !(decide (il = gq)) else if gr = true then decide (v = 0) && decide (il = gq) else (kb v && !(decide (il = gq))) || (decide (v = 0) && decide (il = gq))
theorem anf {w : World} {tr v : Int} {b il : Bal} {ok gr : Bool} {K : KV} (h : ∀ w', Fr (fun _ => False) w w' → K (.bool (aga tr b ok il v gr)) w') : fj P F.aj [.iface T.s (.agg #[.int .u64 tr, .int .u64 b.n, .int .u64 b.gg, .bool ok, .int .u64 il.n, .int .u64 il.gg, .int .i64 v, .bool gr])] w K := by
 rw [M.ad.fcall]
 apply M.ad.calls
 unfold M.ad
 simp [adq, abd, abu]
 have S0 : St w (w.alloc (.cells #[.int .u64 0, .int .u64 0] T.c)) (fy w.heap.size #[.int .u64 0, .int .u64 0] T.c :: []) := (St.jc w).add ((Fr.refl _ w).alloc _) (B := fun x => x = w.heap.size) ⟨by rw [gh, if_pos rfl], rfl⟩ fun x hx => by subst hx; rw [iy]; omega
 refine jg (vs := [.int .u64 0, .int .u64 0]) S0.blk rfl (by simp [jq]) fun w2 b2 f2 => ?_
 have S2 := S0.lb f2 b2
 have S3 : St w (w2.alloc (.cells #[.int .u64 0, .int .u64 0, .int .u64 0, .bool false, .int .u64 0, .int .u64 0, .int .i64 0, .bool false] T.s)) (fy w2.heap.size #[.int .u64 0, .int .u64 0, .int .u64 0, .bool false, .int .u64 0, .int .u64 0, .int .i64 0, .bool false] T.s :: _) := S2.add ((Fr.refl _ w2).alloc _) (B := fun x => x = w2.heap.size) ⟨by rw [gh, if_pos rfl], rfl⟩ fun x hx => by subst hx; rw [iy]; omega
 refine jg (vs := [.int .u64 tr, .int .u64 b.n, .int .u64 b.gg, .bool ok, .int .u64 il.n, .int .u64 il.gg, .int .i64 v, .bool gr]) S3.blk rfl (by simp [jq]) fun w4 b4 f4 => ?_
 have S4 := S3.lb f4 b4
 have fin := h w4 S4.fr
 have z0 : ∀ K, ldN P 2 w.heap.size 0 w4 K = K (ja gq) w4 := fun K => by
  have hh := S4.swap.blk
  exact acq (by rw [fx hh]; rfl) (by rw [fx hh]; rfl) K
 generalize w2.heap.size = ob at *
 generalize w.heap.size = zb at *
 have c0 : ft w4 ob 0 = some (.int .u64 tr) := by rw [fx b4]; rfl
 have c1 : ft w4 ob 1 = some (.int .u64 b.n) := by rw [fx b4]; rfl
 have c3 : ft w4 ob 3 = some (.bool ok) := by rw [fx b4]; rfl
 have c4 : ∀ K, ldN P 2 ob 4 w4 K = K (ja il) w4 := fun K => acq (by rw [fx b4]; rfl) (by rw [fx b4]; rfl) K
 have c6 : ft w4 ob 6 = some (.int .i64 v) := by rw [fx b4]; rfl
 have c7 : ft w4 ob 7 = some (.bool gr) := by rw [fx b4]; rfl
 unfold aga at fin
 by_cases h1 : tr = 0
 ·simp [c0, h1]
  simpa [h1] using fin
 by_cases h2 : b.n = 0
 ·simp [c0, c1, h1, h2]
  simpa [h2] using fin
 cases ok with
 | false =>
  by_cases h3 : v = 0
  ·simp [c0, c1, c3, c6, c4, z0, h1, h2, h3, apy]
   simpa [h1, h2, h3] using fin
  ·simp [c0, c1, c3, c6, h1, h2, h3]
   simpa [h1, h2, h3] using fin
 | true =>
 cases gr with
 | true =>
  by_cases h3 : v = 0
  ·simp [c0, c1, c3, c6, c7, c4, z0, h1, h2, h3, pn]
   simpa [h1, h2, h3] using fin
  ·simp [c0, c1, c3, c6, c7, h1, h2, h3]
   simpa [h1, h2, h3] using fin
 | false =>
 simp [c0, c1, c3, c7, h1, h2]
 unfold M.ad.j1
 simp [c6]
 refine aid ?_
 by_cases h4 : kb v = true
 ·have hv0 : ¬ v = 0 := fun hh => by subst hh; exact absurd h4 (by decide)
  by_cases h5 : il = gq
  ·simp [h4, c4, z0, apy, h5, c6, hv0]
   simpa [h1, h2, h4, h5, hv0] using fin
  ·simp [h4, c4, z0, apy, h5]
   simpa [h1, h2, h4, h5] using fin
 ·by_cases h3 : v = 0
  ·subst h3
   have ht : kb 0 = false := by decide
   simp [ht, c6, c4, z0, pn]
   simpa [h1, h2, ht] using fin
  ·simp [h4, c6, h3]
   simpa [h1, h2, h4, h3] using fin
abbrev gp : Value := .slice none 0 0
theorem xo {w W : World} {pb : Nat} {R : List Asn} {q : Pk} (S : St w W (fy pb (pkC q).toArray T.a :: R)) (K : KV) : ldN P 11 pb 0 W K = K (pkA q) W := (ij S).2.2.2.2.2.2.2.2.2 K
theorem abi {w W : World} {pb : Nat} {R : List Asn} {q : Pk} (S : St w W (fy pb (pkC q).toArray T.a :: R)) (K : KV) : la P T.a (.pointer (some ⟨pb, 0, none⟩)) W K = K (pkA q) W := by rw [ahk]; exact xo S K
theorem ue {k tr v : Int} {b s : Bal} {ok : Bool} {a1 a2 a3 : Option Addr} {l1 l2 l3 c1 c2 c3 : Nat} : ∀ u ∈ pkC ⟨k, tr, b, s, v, ok, .slice a1 l1 c1, .slice a2 l2 c2, .slice a3 l3 c3⟩, jq u = true := fun u hu => by
 simp only [pkC, List.mem_cons, List.not_mem_nil, or_false] at hu
 rcases hu with rfl | rfl | rfl | rfl | rfl | rfl | rfl | rfl | rfl | rfl | rfl <;> rfl
theorem agc (w : World) : St w (w.alloc (.cells #[.int .i64 0, .int .u64 0, .int .u64 0, .int .u64 0, .int .u64 0, .int .u64 0, .int .i64 0, .bool false, .slice none 0 0, .slice none 0 0, .slice none 0 0] T.a)) (fy w.heap.size #[.int .i64 0, .int .u64 0, .int .u64 0, .int .u64 0, .int .u64 0, .int .u64 0, .int .i64 0, .bool false, .slice none 0 0, .slice none 0 0, .slice none 0 0] T.a :: []) := (St.jc w).add ((Fr.refl _ w).alloc _) (B := fun x => x = w.heap.size) ⟨by rw [gh, if_pos rfl], rfl⟩ fun x hx => by subst hx; rw [iy]; omega
theorem adm {w0 w : World} {R : List Asn} (S : St w0 w R) (cs : Array Value) (t : TypeId) : St w0 (w.alloc (.cells cs t)) (fy w.heap.size cs t :: R) := S.add ((Fr.refl _ w).alloc _) (B := fun x => x = w.heap.size) ⟨by rw [gh, if_pos rfl], rfl⟩ fun x hx => by subst hx; rw [iy]; omega
theorem anb {w : World} {tr v : Int} {K : KV} (h : ∀ w', Fr (fun _ => False) w w' → K (pkA ⟨8, tr, gq, gq, v, false, gp, gp, gp⟩) w') : fj P F.ac [.iface T.ae (.agg #[.int .u64 tr, .int .i64 v])] w K := by
 rw [M.af.fcall]
 apply M.af.calls
 unfold M.af
 simp [aff, acm, acy, afe]
 have S0 := agc w
 have z0 : (w.alloc (.cells #[.int .i64 0, .int .u64 0, .int .u64 0, .int .u64 0, .int .u64 0, .int .u64 0, .int .i64 0, .bool false, .slice none 0 0, .slice none 0 0, .slice none 0 0] T.a)).heap.size = w.heap.size + 1 := iy _ _
 generalize w.alloc (.cells #[.int .i64 0, .int .u64 0, .int .u64 0, .int .u64 0, .int .u64 0, .int .u64 0, .int .i64 0, .bool false, .slice none 0 0, .slice none 0 0, .slice none 0 0] T.a) = w1 at *
 have S1 := adm S0 #[.int .u64 0, .int .i64 0] T.ae
 rw [z0] at S1
 generalize w.heap.size = pb at *
 generalize pb + 1 = ob at *
 refine jg (vs := [.int .u64 tr, .int .i64 v]) S1.blk rfl (by simp [jq]) fun w2 b2 f2 => ?_
 have S2 := S1.lb f2 b2
 have c0 : ft w2 ob 0 = some (.int .u64 tr) := by rw [fx b2]; rfl
 have c1 : ft w2 ob 1 = some (.int .i64 v) := by rw [fx b2]; rfl
 simp [c0, c1]
 refine jg (vs := pkC ⟨8, tr, gq, gq, v, false, gp, gp, gp⟩) S2.swap.blk rfl ue fun w3 b3 f3 => ?_
 have S3 := S2.swap.lb f3 b3
 rw [xo S3]
 have e : pkA ⟨8, tr, gq, gq, v, false, gp, gp, gp⟩ = .agg #[.int .i64 8, .int .u64 tr, .int .u64 0, .int .u64 0, .int .u64 0, .int .u64 0, .int .i64 v, .bool false, .slice none 0 0, .slice none 0 0, .slice none 0 0] := rfl
 rw [e]
 simp
 refine jg (vs := pkC ⟨8, tr, gq, gq, v, false, gp, gp, gp⟩) S3.blk rfl ue fun w5 b5 f5 => ?_
 have S5 := S3.lb f5 b5
 rw [abi S5]
 exact ⟨rfl, h w5 S5.fr⟩
theorem akx {w : World} {tr v : Int} {b il : Bal} {ok gr : Bool} {K : KV} (h : ∀ w', Fr (fun _ => False) w w' → K (pkA ⟨if gr = true then 7 else 5, tr, b, il, v, ok, gp, gp, gp⟩) w') : fj P F.ac [.iface T.s (.agg #[.int .u64 tr, .int .u64 b.n, .int .u64 b.gg, .bool ok, .int .u64 il.n, .int .u64 il.gg, .int .i64 v, .bool gr])] w K := by
 rw [M.af.fcall]
 apply M.af.calls
 unfold M.af
 simp [adq, abd, abu]
 have S0 := agc w
 have z0 : (w.alloc (.cells #[.int .i64 0, .int .u64 0, .int .u64 0, .int .u64 0, .int .u64 0, .int .u64 0, .int .i64 0, .bool false, .slice none 0 0, .slice none 0 0, .slice none 0 0] T.a)).heap.size = w.heap.size + 1 := iy _ _
 generalize w.alloc (.cells #[.int .i64 0, .int .u64 0, .int .u64 0, .int .u64 0, .int .u64 0, .int .u64 0, .int .i64 0, .bool false, .slice none 0 0, .slice none 0 0, .slice none 0 0] T.a) = w1 at *
 have S1 := adm S0 #[.int .u64 0, .int .u64 0, .int .u64 0, .bool false, .int .u64 0, .int .u64 0, .int .i64 0, .bool false] T.s
 rw [z0] at S1
 generalize w.heap.size = pb at *
 generalize pb + 1 = ob at *
 refine jg (vs := [.int .u64 tr, .int .u64 b.n, .int .u64 b.gg, .bool ok, .int .u64 il.n, .int .u64 il.gg, .int .i64 v, .bool gr]) S1.blk rfl (by simp [jq]) fun w2 b2 f2 => ?_
 have S2 := S1.lb f2 b2
 have reC : ∀ {W : World} {R : List Asn}, St w W (fy ob [.int .u64 tr, .int .u64 b.n, .int .u64 b.gg, .bool ok, .int .u64 il.n, .int .u64 il.gg, .int .i64 v, .bool gr].toArray T.s :: R) → ft W ob 0 = some (.int .u64 tr) ∧ (∀ K, ldN P 2 ob 1 W K = K (.agg #[.int .u64 b.n, .int .u64 b.gg]) W) ∧ ft W ob 3 = some (.bool ok) ∧ (∀ K, ldN P 2 ob 4 W K = K (.agg #[.int .u64 il.n, .int .u64 il.gg]) W) ∧ ft W ob 6 = some (.int .i64 v) ∧ ft W ob 7 = some (.bool gr) := fun {W R} S' => by
  have hh := S'.blk
  exact ⟨by rw [fx hh]; rfl, fun K => acq (by rw [fx hh]; rfl) (by rw [fx hh]; rfl) K, by rw [fx hh]; rfl, fun K => acq (by rw [fx hh]; rfl) (by rw [fx hh]; rfl) K, by rw [fx hh]; rfl, by rw [fx hh]; rfl⟩
 obtain ⟨c0, c1, c3, c4, c6, _⟩ := reC S2
 simp [c0, c1, c3, c4, c6]
 refine jg (vs := pkC ⟨5, tr, b, il, v, ok, gp, gp, gp⟩) S2.swap.blk rfl ue fun w3 b3 f3 => ?_
 have S3 := S2.swap.lb f3 b3
 obtain ⟨_, _, _, _, _, d7⟩ := reC S3.swap
 cases gr with
 | false =>
  simp [d7]
  rw [xo S3]
  have e : pkA ⟨5, tr, b, il, v, ok, gp, gp, gp⟩ = .agg #[.int .i64 5, .int .u64 tr, .int .u64 b.n, .int .u64 b.gg, .int .u64 il.n, .int .u64 il.gg, .int .i64 v, .bool ok, .slice none 0 0, .slice none 0 0, .slice none 0 0] := rfl
  rw [e]
  simp
  refine jg (vs := pkC ⟨5, tr, b, il, v, ok, gp, gp, gp⟩) S3.blk rfl ue fun w5 b5 f5 => ?_
  have S5 := S3.lb f5 b5
  rw [abi S5]
  exact ⟨rfl, h w5 S5.fr⟩
 | true =>
  have e0 := zi S3.blk 0 _ rfl
  have ez := mf S3.blk
  simp [d7, e0, ez]
  have S4 : St w (w3.setCell ⟨pb, 0, none⟩ (.int .i64 7)) (fy pb (pkC ⟨7, tr, b, il, v, ok, gp, gp, gp⟩).toArray T.a :: _) := S3.lb ((Fr.refl (fun x => x = pb) w3).setCell (.inl rfl) _ _) ((ki S3.blk).trans rfl)
  rw [xo S4]
  have e : pkA ⟨7, tr, b, il, v, ok, gp, gp, gp⟩ = .agg #[.int .i64 7, .int .u64 tr, .int .u64 b.n, .int .u64 b.gg, .int .u64 il.n, .int .u64 il.gg, .int .i64 v, .bool ok, .slice none 0 0, .slice none 0 0, .slice none 0 0] := rfl
  rw [e]
  simp
  refine jg (vs := pkC ⟨7, tr, b, il, v, ok, gp, gp, gp⟩) S4.blk rfl ue fun w5 b5 f5 => ?_
  have S5 := S4.lb f5 b5
  rw [abi S5]
  exact ⟨rfl, h w5 S5.fr⟩
theorem alm {w : World} {tr : Int} {d : Bool} {v : Value} {l : List Spn} (hs : SlS w v l) (hlen : l.length ≤ 1000000) {K : KV} (h : ∀ w' v', SlS w' v' l → Fr (fun _ => False) w w' → K (pkA ⟨if d = true then 2 else 1, tr, gq, gq, 0, false, v', gp, gp⟩) w') : fj P F.ac [.iface T.y (.agg #[.int .u64 tr, .bool d, v])] w K := by
 rw [M.af.fcall]
 apply M.af.calls
 unfold M.af
 obtain ⟨a, c, hv, _⟩ := id hs
 rw [hv]
 simp
 have S0 := agc w
 have z0 : (w.alloc (.cells #[.int .i64 0, .int .u64 0, .int .u64 0, .int .u64 0, .int .u64 0, .int .u64 0, .int .i64 0, .bool false, .slice none 0 0, .slice none 0 0, .slice none 0 0] T.a)).heap.size = w.heap.size + 1 := iy _ _
 generalize w.alloc (.cells #[.int .i64 0, .int .u64 0, .int .u64 0, .int .u64 0, .int .u64 0, .int .u64 0, .int .i64 0, .bool false, .slice none 0 0, .slice none 0 0, .slice none 0 0] T.a) = w1 at *
 have S1 := adm S0 #[.int .u64 0, .bool false, .slice none 0 0] T.y
 rw [z0] at S1
 generalize w.heap.size = pb at *
 generalize pb + 1 = ob at *
 refine jg (vs := [Value.int .u64 tr, .bool d, .slice a l.length c]) S1.blk rfl (by simp [jq]) fun w2 b2 f2 => ?_
 have S2 := S1.lb f2 b2
 have thC : ∀ {W : World} {R : List Asn}, St w W (fy ob [Value.int .u64 tr, .bool d, .slice a l.length c].toArray T.y :: R) → ft W ob 0 = some (.int .u64 tr) ∧ ft W ob 1 = some (.bool d) ∧ ft W ob 2 = some (.slice a l.length c) := fun {W R} S' => by
  have hh := S'.blk
  exact ⟨by rw [fx hh]; rfl, by rw [fx hh]; rfl, by rw [fx hh]; rfl⟩
 have hpl : pb < w2.heap.size := (Array.getElem?_eq_some_iff.1 S2.swap.blk).1
 have fd : Fr (fun _ => False) w2 (dr w2 1) := (Fr.refl _ w2).dr 1
 have Sd := S2.ir fd
 obtain ⟨c0, c1, c2⟩ := thC S2
 obtain ⟨e0, e1, e2⟩ := thC Sd
 simp [c0, c2, e0, e2]
 rw [← hv]
 rw [M.al.fcall]
 refine abx ((hs.fr Sd.fr fun _ _ _ h => h)) hlen fun w3 v3 s3 n3 f3 => ?_
 obtain ⟨a3, c3, hv3, _⟩ := id s3
 have S3 := Sd.ir f3
 obtain ⟨g0, g1, g2⟩ := thC S3
 have hnn : ∀ b, v3.ownBlock = some b → b ≠ pb := fun b hb => by
  have := n3 b hb
  have := fd.size
  omega
 rw [hv3] at s3 hnn ⊢
 simp [g0, g2]
 refine jg (vs := pkC ⟨1, tr, gq, gq, 0, false, .slice a3 l.length c3, gp, gp⟩) S3.swap.blk rfl ue fun w4 b4 f4 => ?_
 have S4 := S3.swap.lb f4 b4
 have s4 : SlS w4 (.slice a3 l.length c3) l := s3.fr f4 fun b hb _ => hnn b hb
 obtain ⟨i0, i1, i2⟩ := thC S4.swap
 cases d with
 | false =>
  simp [i0, i2, i1]
  rw [xo S4]
  have e : pkA ⟨1, tr, gq, gq, 0, false, .slice a3 l.length c3, gp, gp⟩ = .agg #[.int .i64 1, .int .u64 tr, .int .u64 0, .int .u64 0, .int .u64 0, .int .u64 0, .int .i64 0, .bool false, .slice a3 l.length c3, .slice none 0 0, .slice none 0 0] := rfl
  rw [e]
  simp
  refine jg (vs := pkC ⟨1, tr, gq, gq, 0, false, .slice a3 l.length c3, gp, gp⟩) S4.blk rfl ue fun w5 b5 f5 => ?_
  have S5 := S4.lb f5 b5
  rw [abi S5]
  exact ⟨rfl, h w5 _ (s4.fr f5 fun b hb _ => hnn b hb) S5.fr⟩
 | true =>
  have e0 := zi S4.blk 0 _ rfl
  have ez := mf S4.blk
  simp [i0, i2, i1, e0, ez]
  have f6 : Fr (fun x => x = pb) w4 (w4.setCell ⟨pb, 0, none⟩ (.int .i64 2)) := (Fr.refl (fun x => x = pb) w4).setCell (.inl rfl) _ _
  have S6 : St w (w4.setCell ⟨pb, 0, none⟩ (.int .i64 2)) (fy pb (pkC ⟨2, tr, gq, gq, 0, false, .slice a3 l.length c3, gp, gp⟩).toArray T.a :: _) := S4.lb f6 ((ki S4.blk).trans rfl)
  have s6 : SlS (w4.setCell ⟨pb, 0, none⟩ (.int .i64 2)) (.slice a3 l.length c3) l := s4.fr f6 fun b hb _ => hnn b hb
  rw [xo S6]
  have e : pkA ⟨2, tr, gq, gq, 0, false, .slice a3 l.length c3, gp, gp⟩ = .agg #[.int .i64 2, .int .u64 tr, .int .u64 0, .int .u64 0, .int .u64 0, .int .u64 0, .int .i64 0, .bool false, .slice a3 l.length c3, .slice none 0 0, .slice none 0 0] := rfl
  rw [e]
  simp
  refine jg (vs := pkC ⟨2, tr, gq, gq, 0, false, .slice a3 l.length c3, gp, gp⟩) S6.blk rfl ue fun w5 b5 f5 => ?_
  have S5 := S6.lb f5 b5
  rw [abi S5]
  exact ⟨rfl, h w5 _ (s6.fr f5 fun b hb _ => hnn b hb) S5.fr⟩
theorem akh {w : World} {tr : Int} {b : Bal} {v : Value} {l : List Spn} (hs : SlS w v l) (hlen : l.length ≤ 1000000) {K : KV} (h : ∀ w' v', SlS w' v' l → Fr (fun _ => False) w w' → K (pkA ⟨9, tr, b, gq, 0, false, v', gp, gp⟩) w') : fj P F.ac [.iface T.x (.agg #[.int .u64 tr, .int .u64 b.n, .int .u64 b.gg, v])] w K := by
 rw [M.af.fcall]
 apply M.af.calls
 unfold M.af
 obtain ⟨a, c, hv, _⟩ := id hs
 rw [hv]
 simp [acb, aad, aac, acj, adk]
 have S0 := agc w
 have z0 : (w.alloc (.cells #[.int .i64 0, .int .u64 0, .int .u64 0, .int .u64 0, .int .u64 0, .int .u64 0, .int .i64 0, .bool false, .slice none 0 0, .slice none 0 0, .slice none 0 0] T.a)).heap.size = w.heap.size + 1 := iy _ _
 generalize w.alloc (.cells #[.int .i64 0, .int .u64 0, .int .u64 0, .int .u64 0, .int .u64 0, .int .u64 0, .int .i64 0, .bool false, .slice none 0 0, .slice none 0 0, .slice none 0 0] T.a) = w1 at *
 have S1 := adm S0 #[.int .u64 0, .int .u64 0, .int .u64 0, .slice none 0 0] T.x
 rw [z0] at S1
 generalize w.heap.size = pb at *
 generalize pb + 1 = ob at *
 refine jg (vs := [Value.int .u64 tr, .int .u64 b.n, .int .u64 b.gg, .slice a l.length c]) S1.blk rfl (by simp [jq]) fun w2 b2 f2 => ?_
 have S2 := S1.lb f2 b2
 have thC : ∀ {W : World} {R : List Asn}, St w W (fy ob [Value.int .u64 tr, .int .u64 b.n, .int .u64 b.gg, .slice a l.length c].toArray T.x :: R) → ft W ob 0 = some (.int .u64 tr) ∧ (∀ K, ldN P 2 ob 1 W K = K (.agg #[.int .u64 b.n, .int .u64 b.gg]) W) ∧ ft W ob 3 = some (.slice a l.length c) := fun {W R} S' => by
  have hh := S'.blk
  exact ⟨by rw [fx hh]; rfl, fun K => acq (by rw [fx hh]; rfl) (by rw [fx hh]; rfl) K, by rw [fx hh]; rfl⟩
 have hpl : pb < w2.heap.size := (Array.getElem?_eq_some_iff.1 S2.swap.blk).1
 have fd : Fr (fun _ => False) w2 (dr w2 1) := (Fr.refl _ w2).dr 1
 have Sd := S2.ir fd
 obtain ⟨c0, c1, c2⟩ := thC S2
 obtain ⟨e0, e1, e2⟩ := thC Sd
 simp [c0, c1, c2, e0, e1, e2]
 rw [← hv]
 rw [M.al.fcall]
 refine abx ((hs.fr Sd.fr fun _ _ _ h => h)) hlen fun w3 v3 s3 n3 f3 => ?_
 obtain ⟨a3, c3, hv3, _⟩ := id s3
 have S3 := Sd.ir f3
 obtain ⟨g0, g1, g2⟩ := thC S3
 have hnn : ∀ b, v3.ownBlock = some b → b ≠ pb := fun b hb => by
  have := n3 b hb
  have := fd.size
  omega
 rw [hv3] at s3 hnn ⊢
 simp [g0, g1, g2]
 refine jg (vs := pkC ⟨9, tr, b, gq, 0, false, .slice a3 l.length c3, gp, gp⟩) S3.swap.blk rfl ue fun w4 b4 f4 => ?_
 have S4 := S3.swap.lb f4 b4
 have s4 : SlS w4 (.slice a3 l.length c3) l := s3.fr f4 fun b hb _ => hnn b hb
 rw [xo S4]
 have e : pkA ⟨9, tr, b, gq, 0, false, .slice a3 l.length c3, gp, gp⟩ = .agg #[.int .i64 9, .int .u64 tr, .int .u64 b.n, .int .u64 b.gg, .int .u64 0, .int .u64 0, .int .i64 0, .bool false, .slice a3 l.length c3, .slice none 0 0, .slice none 0 0] := rfl
 rw [e]
 simp
 refine jg (vs := pkC ⟨9, tr, b, gq, 0, false, .slice a3 l.length c3, gp, gp⟩) S4.blk rfl ue fun w5 b5 f5 => ?_
 have S5 := S4.lb f5 b5
 rw [abi S5]
 exact ⟨rfl, h w5 _ (s4.fr f5 fun b hb _ => hnn b hb) S5.fr⟩
theorem alt {w : World} {tr : Int} {v : Value} {l : List Int} (hs : SlU w v l) (hlen : l.length ≤ 1000000) {K : KV} (h : ∀ w' v', SlU w' v' l → Fr (fun _ => False) w w' → K (pkA ⟨10, tr, gq, gq, 0, false, gp, gp, v'⟩) w') : fj P F.ac [.iface T.ab (.agg #[.int .u64 tr, v])] w K := by
 rw [M.af.fcall]
 apply M.af.calls
 unfold M.af
 obtain ⟨a, c, hv, _⟩ := id hs
 rw [hv]
 simp [aea, abl, aba, ado, aez, acn]
 have S0 := agc w
 have z0 : (w.alloc (.cells #[.int .i64 0, .int .u64 0, .int .u64 0, .int .u64 0, .int .u64 0, .int .u64 0, .int .i64 0, .bool false, .slice none 0 0, .slice none 0 0, .slice none 0 0] T.a)).heap.size = w.heap.size + 1 := iy _ _
 generalize w.alloc (.cells #[.int .i64 0, .int .u64 0, .int .u64 0, .int .u64 0, .int .u64 0, .int .u64 0, .int .i64 0, .bool false, .slice none 0 0, .slice none 0 0, .slice none 0 0] T.a) = w1 at *
 have S1 := adm S0 #[.int .u64 0, .slice none 0 0] T.ab
 rw [z0] at S1
 generalize w.heap.size = pb at *
 generalize pb + 1 = ob at *
 refine jg (vs := [Value.int .u64 tr, .slice a l.length c]) S1.blk rfl (by simp [jq]) fun w2 b2 f2 => ?_
 have S2 := S1.lb f2 b2
 have thC : ∀ {W : World} {R : List Asn}, St w W (fy ob [Value.int .u64 tr, .slice a l.length c].toArray T.ab :: R) → ft W ob 0 = some (.int .u64 tr) ∧ ft W ob 1 = some (.slice a l.length c) := fun {W R} S' => by
  have hh := S'.blk
  exact ⟨by rw [fx hh]; rfl, by rw [fx hh]; rfl⟩
 have hpl : pb < w2.heap.size := (Array.getElem?_eq_some_iff.1 S2.swap.blk).1
 have fd : Fr (fun _ => False) w2 (dr w2 1) := (Fr.refl _ w2).dr 1
 have Sd := S2.ir fd
 obtain ⟨c0, c1⟩ := thC S2
 obtain ⟨e0, e1⟩ := thC Sd
 simp [c0, c1, e0, e1]
 rw [← hv]
 refine amw ((hs.fr Sd.fr fun _ _ _ h => h)) hlen fun w3 v3 s3 n3 f3 => ?_
 obtain ⟨a3, c3, hv3, _⟩ := id s3
 have S3 := Sd.ir f3
 obtain ⟨g0, g1⟩ := thC S3
 have hnn : ∀ b, v3.ownBlock = some b → b ≠ pb := fun b hb => by
  have := n3 b hb
  have := fd.size
  omega
 rw [hv3] at s3 hnn ⊢
 simp [g0, g1]
 refine jg (vs := pkC ⟨10, tr, gq, gq, 0, false, gp, gp, .slice a3 l.length c3⟩) S3.swap.blk rfl ue fun w4 b4 f4 => ?_
 have S4 := S3.swap.lb f4 b4
 have s4 : SlU w4 (.slice a3 l.length c3) l := s3.fr f4 fun b hb _ => hnn b hb
 rw [xo S4]
 have e : pkA ⟨10, tr, gq, gq, 0, false, gp, gp, .slice a3 l.length c3⟩ = .agg #[.int .i64 10, .int .u64 tr, .int .u64 0, .int .u64 0, .int .u64 0, .int .u64 0, .int .i64 0, .bool false, .slice none 0 0, .slice none 0 0, .slice a3 l.length c3] := rfl
 rw [e]
 simp
 refine jg (vs := pkC ⟨10, tr, gq, gq, 0, false, gp, gp, .slice a3 l.length c3⟩) S4.blk rfl ue fun w5 b5 f5 => ?_
 have S5 := S4.lb f5 b5
 rw [abi S5]
 exact ⟨rfl, h w5 _ (s4.fr f5 fun b hb _ => hnn b hb) S5.fr⟩
def qx (p : Pk) (ls : List Spn) (lm : List Mem) (lu : List Int) : Bool :=
 if p.fu = 1 ∨ p.fu = 2 then agf p.tr ls else if p.fu = 3 then yg lm else if p.fu = 4 ∨ p.fu = 6 then aop p.tr p.b p.v else if p.fu = 5 ∨ p.fu = 7 then aga p.tr p.b p.ok p.il p.v (decide (p.fu = 7)) else if p.fu = 8 then anr p.tr p.v else if p.fu = 9 then ahc p.tr p.b ls else if p.fu = 10 then ajy p.tr lu else false
theorem ThR.fr {w w' : World} {p : Pk} {ls : List Spn} {lm : List Mem} {lu : List Int} {t : Value} (h : ThR w p ls lm lu t) (hf : Fr (fun _ => False) w w') : ThR w' p ls lm lu t := by
 cases h with
 | rq v hk hs => exact .rq v hk (hs.fr hf fun _ _ _ h => h)
 | afm v hk hs => exact .afm v hk (hs.fr hf fun _ _ _ h => h)
 | ask hk => exact .ask hk
 | ym hk => exact .ym hk
 | uk hk => exact .uk hk
 | vl v hk hs => exact .vl v hk (hs.fr hf fun _ _ _ h => h)
 | xw v hk hs => exact .xw v hk (hs.fr hf fun _ _ _ h => h)
 | none hk => exact .none hk
theorem bdr (n : Nat) (w : World) (K : KV) : fi P .eql T.an (.tmp n) (.const .nilIface) .nilIface .nilIface w K = K (.bool true) w := .trans (by kernel_rfl) rfl
theorem ThR.eqn {w : World} {p : Pk} {ls : List Spn} {lm : List Mem} {lu : List Int} {t : Value} (h : ThR w p ls lm lu t) (hk : 1 ≤ p.fu ∧ p.fu ≤ 10) (rx ry : Operand) (w1 : World) (K : KV) : fi P .eql T.an rx ry t .nilIface w1 K = K (.bool false) w1 := by
 cases h with
 | rq v hk hs => exact axd _ _ _ _ _
 | afm v hk hs => exact arl _ _ _ _ _
 | ask hk => exact bci _ _ _ _ _
 | ym hk => exact ayh _ _ _ _ _
 | uk hk => exact ayx _ _ _ _ _
 | vl v hk hs => exact atr _ _ _ _ _
 | xw v hk hs => exact ayl _ _ _ _ _
 | none hn => exact absurd hk hn
theorem ThR.bgo {w : World} {p : Pk} {ls : List Spn} {lm : List Mem} {lu : List Int} {t : Value} (h : ThR w p ls lm lu t) (hk : ¬ (1 ≤ p.fu ∧ p.fu ≤ 10)) : t = .nilIface := by
 cases h with
 | none hn => rfl
 | _ => omega
theorem bcm {w : World} {p : Pk} {ls : List Spn} {lm : List Mem} {lu : List Int} {t : Value} (ht : ThR w p ls lm lu t) (hk : 1 ≤ p.fu ∧ p.fu ≤ 10) (l1 : ls.length ≤ 1000000) (l2 : lm.length ≤ 1000000) (l3 : lu.length ≤ 1000000) {K : KV}
  (h : ∀ w', Fr (fun _ => False) w w' → K (.bool (qx p ls lm lu)) w') : fj P F.aj [t] w K := by
 unfold qx at h
 cases ht with
 | rq v q hs => simp only [if_pos q] at h; exact ana hs l1 h
 | afm v q hs => simp only [q, show ¬ ((3 : Int) = 1 ∨ (3 : Int) = 2) by omega, if_false, if_true] at h; exact awe hs l2 h
 | ask q => rw [if_neg (by omega), if_neg (by omega), if_pos q] at h; exact ars h
 | ym q => rw [if_neg (by omega), if_neg (by omega), if_neg (by omega), if_pos q] at h; exact anf h
 | uk q => rw [if_neg (by omega), if_neg (by omega), if_neg (by omega), if_neg (by omega), if_pos q] at h; exact anu h
 | vl v q hs => rw [if_neg (by omega), if_neg (by omega), if_neg (by omega), if_neg (by omega), if_neg (by omega), if_pos q] at h; exact alf hs l1 h
 | xw v q hs => rw [if_neg (by omega), if_neg (by omega), if_neg (by omega), if_neg (by omega), if_neg (by omega), if_neg (by omega), if_pos q] at h; exact anc hs l3 h
 | none q => exact absurd hk q
structure yt (w : World) (p : Pk) (ls : List Spn) (lm : List Mem) (lu : List Int) : Prop where
 s : SlS w p.sv ls
 m : SlM w p.mv lm
 u : SlU w p.iv lu
structure vr (p : Pk) : Prop where
 tr : ub p.tr
 b : p.b.rng
 il : p.il.rng
theorem yt.fr {w w' : World} {p : Pk} {ls : List Spn} {lm : List Mem} {lu : List Int} (h : yt w p ls lm lu) (hf : Fr (fun _ => False) w w') : yt w' p ls lm lu :=
 ⟨h.s.fr hf fun _ _ _ h => h, h.m.fr hf fun _ _ _ h => h, h.u.fr hf fun _ _ _ h => h⟩
theorem yt.rd {w : World} {p : Pk} {ls : List Spn} {lm : List Mem} {lu : List Int} (h : yt w p ls lm lu) (h1 : ls.length ≤ 1000000) (h2 : lm.length ≤ 1000000) (h3 : lu.length ≤ 1000000) : nu w p ls lm lu := ⟨h.s, h.m, h.u, h1, h2, h3⟩
theorem wfP {x : Int} (h : (Lit.int .u64 x).wf = true) : 0 ≤ x ∧ x ≤ 18446744073709551615 := by
 simp [Lit.wf, IntKind.min, IntKind.max, IntKind.bits, IntKind.signed] at h
 omega
theorem yi {x : Int} (h : (Lit.int .u64 x).wf = true) : ub x := by
 have := wfP h
 exact ⟨this.1, by omega⟩
theorem alu {α : Type} {w : World} {sz : Nat} {enc : α → List Value} {Q : α → Prop} {v : Value} {l : List α} (h : zx w sz (fun w b o x => rdE enc w b o x ∧ Q x) v l) : Sl w sz enc v l ∧ ∀ x ∈ l, Q x := by
 refine ⟨zx.mono h fun b o x hx => hx.1, fun x hx => ?_⟩
 obtain ⟨i, hi, rfl⟩ := List.getElem_of_mem hx
 obtain ⟨a, cap, _, _, _, h3⟩ := h
 obtain ⟨b, o, _, _, hr⟩ := h3 i _ (List.getElem?_eq_getElem hi)
 exact hr.2
theorem bbh {w : World} {n : Nat} {v : Value} (h : TV P w n T.f [v]) : ∃ l, SlU w v l ∧ ∀ x ∈ l, ub x := by
 have : ∃ l : List Int, zx w 1 (fun w b o x => rdE yo w b o x ∧ ub x) v l := by
  refine aif (sz := 1) (rd := fun w b o x => rdE yo w b o x ∧ ub x) (e := T.d) (by kernel_rfl) (by kernel_rfl) (by decide) (fun n b o cs ht hl hc => ?_) h
  obtain ⟨x, hx, hw⟩ := sm (k := .u64) (by kernel_rfl) ht
  subst hx
  exact ⟨x, fun j u hj => hc j u hj, yi hw⟩
 obtain ⟨l, hl⟩ := this
 exact ⟨l, alu hl⟩
structure aut (s : Spn) : Prop where
 tr : ub s.lz
 id : ub s.id
 par : ub s.qd
 st : ub s.jc
 ln : ub s.len
theorem axp {w : World} {n : Nat} {v : Value} (h : TV P w n T.n [v]) : ∃ l, SlS w v l ∧ ∀ s ∈ l, aut s := by
 suffices hh : ∃ l : List Spn, zx w 8 (fun w b o x => rdE zd w b o x ∧ aut x) v l by
  obtain ⟨l, hl⟩ := hh
  exact ⟨l, alu hl⟩
 refine aif (sz := 8) (rd := fun w b o x => rdE zd w b o x ∧ aut x) Tryz.underlying42 (by kernel_rfl) (by decide) (fun n b o cs ht hl hc => ?_) h
 obtain ⟨_, hf⟩ := ack Tryz.underlying85 ht
 obtain ⟨m0, t0⟩ := hf 0 _ rfl
 obtain ⟨m1, t1⟩ := hf 1 _ rfl
 obtain ⟨m2, t2⟩ := hf 2 _ rfl
 obtain ⟨m3, t3⟩ := hf 3 _ rfl
 obtain ⟨m4, t4⟩ := hf 4 _ rfl
 obtain ⟨m5, t5⟩ := hf 5 _ rfl
 obtain ⟨m6, t6⟩ := hf 6 _ rfl
 obtain ⟨m7, t7⟩ := hf 7 _ rfl
 obtain ⟨x0, e0, g0⟩ := sm Tryz.underlying35 t0
 obtain ⟨x1, e1, g1⟩ := sm Tryz.underlying35 t1
 obtain ⟨x2, e2, g2⟩ := sm Tryz.underlying35 t2
 obtain ⟨x3, e3, g3⟩ := sm Tryz.underlying35 t3
 obtain ⟨x4, e4, g4⟩ := sm Tryz.underlying35 t4
 obtain ⟨x5, e5, _⟩ := amn Tryz.underlying9 t5
 obtain ⟨x6, e6, _⟩ := amn Tryz.underlying9 t6
 obtain ⟨x7, e7⟩ := asq Tryz.underlying4 t7
 have c0 : Tryz.prog.cellsOf T.d = 1 := by kernel_rfl
 have c1 : Tryz.prog.cellsOf T.ak = 1 := by kernel_rfl
 have c2 : Tryz.prog.cellsOf T.ao = 1 := by kernel_rfl
 match cs, hl with
 | [u0, u1, u2, u3, u4, u5, u6, u7], _ =>
  simp [c0, c1, c2] at e0 e1 e2 e3 e4 e5 e6 e7
  subst e0 e1 e2 e3 e4 e5 e6 e7
  exact ⟨⟨x0, x1, x2, x3, x4, x5, x6, x7⟩, fun j u hj => hc j u hj, yi g0, yi g1, yi g2, yi g3, yi g4⟩
theorem bcw {w : World} {n : Nat} {c : Array Value} (ht : TV P w n T.w c.toList) : ∃ m, Value.agg c = pu m ∧ 0 ≤ m.id ∧ 0 ≤ m.inc := by
 obtain ⟨hl, hf⟩ := ack Tryz.underlying139 ht
 have hl3 : Tryz.prog.cellsOf T.w = 3 := by kernel_rfl
 rw [hl3] at hl
 obtain ⟨m0, t0⟩ := hf 0 _ rfl
 obtain ⟨m1, t1⟩ := hf 1 _ rfl
 obtain ⟨m2, t2⟩ := hf 2 _ rfl
 obtain ⟨x0, e0, y0⟩ := sm (k := .u64) (by kernel_rfl) t0
 obtain ⟨x1, e1, y1⟩ := sm (k := .u64) (by kernel_rfl) t1
 obtain ⟨x2, e2, _⟩ := sm (k := .i64) (by kernel_rfl) t2
 have c0 : Tryz.prog.cellsOf T.d = 1 := by kernel_rfl
 have c1 : Tryz.prog.cellsOf T.b = 1 := by kernel_rfl
 refine ⟨⟨x0, x1, x2⟩, ?_, (wfP y0).1, (wfP y1).1⟩
 unfold pu
 congr 1
 apply Array.toList_inj.1
 match hcl : c.toList, hl with
 | [u0, u1, u2], _ =>
  rw [hcl] at e0 e1 e2
  simp [c0, c1] at e0 e1 e2
  subst e0 e1 e2
  rfl
theorem arf {w : World} {n : Nat} {v : Value} (h : TV P w n T.o [v]) : ∃ l, SlM w v l ∧ ∀ m ∈ l, 0 ≤ m.id ∧ 0 ≤ m.inc := by
 suffices hh : ∃ l : List Mem, zx w 3 (fun w b o x => rdE abp w b o x ∧ (0 ≤ x.id ∧ 0 ≤ x.inc)) v l by
  obtain ⟨l, hl⟩ := hh
  exact ⟨l, alu hl⟩
 refine aif (sz := 3) (rd := fun w b o x => rdE abp w b o x ∧ (0 ≤ x.id ∧ 0 ≤ x.inc)) et.o.ty (by kernel_rfl) (by decide) (fun n b o cs ht hl hc => ?_) h
 obtain ⟨m, hm, hr⟩ := bcw (c := cs.toArray) (by simpa using ht)
 unfold pu at hm
 injection hm with hm
 have : cs = abp m := by
  have := congrArg Array.toList hm
  simpa [abp] using this
 subst this
 exact ⟨m, fun j u hj => hc j u hj, hr⟩
structure LsR (ls : List Spn) (lm : List Mem) (lu : List Int) : Prop where
 s : ∀ x ∈ ls, aut x
 m : ∀ x ∈ lm, 0 ≤ x.id ∧ 0 ≤ x.inc
 u : ∀ x ∈ lu, ub x
theorem avu {w : World} {n : Nat} {cs : List Value} (ht : TV P w n T.c cs) : ∃ b : Bal, cs = [.int .u64 b.n, .int .u64 b.gg] ∧ b.rng := by
 obtain ⟨hl, hf⟩ := ack Tryz.underlying40 ht
 have hl2 : Tryz.prog.cellsOf T.c = 2 := by kernel_rfl
 rw [hl2] at hl
 obtain ⟨m0, t0⟩ := hf 0 _ rfl
 obtain ⟨m1, t1⟩ := hf 1 _ rfl
 obtain ⟨x0, e0, h0⟩ := sm (k := .u64) (by kernel_rfl) t0
 obtain ⟨x1, e1, h1⟩ := sm (k := .u64) (by kernel_rfl) t1
 have c0 : Tryz.prog.cellsOf T.d = 1 := by kernel_rfl
 match cs, hl with
 | [u0, u1], _ =>
  simp [c0] at e0 e1
  subst e0 e1
  exact ⟨⟨x0, x1⟩, rfl, yi h0, yi h1⟩
theorem bgh {w : World} {n : Nat} {cs : List Value} (ht : TV P w n T.a cs) : ∃ p ls lm lu, cs = pkC p ∧ yt w p ls lm lu ∧ vr p ∧ LsR ls lm lu := by
 obtain ⟨hl, hf⟩ := ack Tryz.underlying46 ht
 have hl11 : Tryz.prog.cellsOf T.a = 11 := by kernel_rfl
 rw [hl11] at hl
 obtain ⟨m0, t0⟩ : ∃ m, TV P w m T.b ((cs.drop 0).take (P.cellsOf T.b)) := hf 0 _ rfl
 obtain ⟨m1, t1⟩ : ∃ m, TV P w m T.d ((cs.drop 1).take (P.cellsOf T.d)) := hf 1 _ rfl
 obtain ⟨m2, t2⟩ : ∃ m, TV P w m T.c ((cs.drop 2).take (P.cellsOf T.c)) := hf 2 _ rfl
 obtain ⟨m3, t3⟩ : ∃ m, TV P w m T.c ((cs.drop 4).take (P.cellsOf T.c)) := hf 3 _ rfl
 obtain ⟨m4, t4⟩ : ∃ m, TV P w m T.j ((cs.drop 6).take (P.cellsOf T.j)) := hf 4 _ rfl
 obtain ⟨m5, t5⟩ : ∃ m, TV P w m T.ao ((cs.drop 7).take (P.cellsOf T.ao)) := hf 5 _ rfl
 obtain ⟨m6, t6⟩ : ∃ m, TV P w m T.n ((cs.drop 8).take (P.cellsOf T.n)) := hf 6 _ rfl
 obtain ⟨m7, t7⟩ : ∃ m, TV P w m T.o ((cs.drop 9).take (P.cellsOf T.o)) := hf 7 _ rfl
 obtain ⟨m8, t8⟩ : ∃ m, TV P w m T.f ((cs.drop 10).take (P.cellsOf T.f)) := hf 8 _ rfl
 have c0 : P.cellsOf T.b = 1 := by kernel_rfl
 have c1 : P.cellsOf T.d = 1 := by kernel_rfl
 have c2 : P.cellsOf T.c = 2 := by kernel_rfl
 have c3 : P.cellsOf T.j = 1 := by kernel_rfl
 have c4 : P.cellsOf T.ao = 1 := by kernel_rfl
 have c5 : P.cellsOf T.n = 1 := by kernel_rfl
 have c6 : P.cellsOf T.o = 1 := by kernel_rfl
 have c7 : P.cellsOf T.f = 1 := by kernel_rfl
 match cs, hl with
 | [u0, u1, u2, u3, u4, u5, u6, u7, u8, u9, u10], _ =>
  simp only [c0, c1, c2, c3, c4, c5, c6, c7, List.drop_zero, List.drop_succ_cons, List.take_succ_cons, List.take_zero] at t0 t1 t2 t3 t4 t5 t6 t7 t8
  obtain ⟨x0, e0, _⟩ := sm (k := .i64) (by kernel_rfl) t0
  obtain ⟨x1, e1, g1⟩ := sm (k := .u64) (by kernel_rfl) t1
  obtain ⟨b2, e2, g2⟩ := avu t2
  obtain ⟨b3, e3, g3⟩ := avu t3
  obtain ⟨x4, e4, _⟩ := sm (k := .i64) (by kernel_rfl) t4
  obtain ⟨x5, e5⟩ := asq (by kernel_rfl) t5
  obtain ⟨ls, s6, f6⟩ := axp t6
  obtain ⟨lm, s7, f7⟩ := arf t7
  obtain ⟨lu, s8, f8⟩ := bbh t8
  simp only [List.cons.injEq, and_true] at e0 e1 e2 e3 e4 e5
  obtain ⟨rfl, rfl⟩ := e2
  obtain ⟨rfl, rfl⟩ := e3
  subst e0 e1 e4 e5
  exact ⟨⟨x0, x1, b2, b3, x4, x5, u8, u9, u10⟩, ls, lm, lu, rfl, ⟨s6, s7, s8⟩, ⟨yi g1, g2, g3⟩, f6, f7, f8⟩
open Go.Eng Go.Proofs.YtfnhoaemapheoaaGreat.Sint
abbrev PB := SV × List Int
section
variable {w0 w w' : World} {R : List Asn} {v : Value} {l : List PB} {ls : List (List Int)}
end
set_option maxRecDepth 100000
open Go.Eng Go.Proofs.YtfnhoaemapheoaaGreat.Sint
section
variable {s f : Int} {Q Q0 : List Prt} {q : Prt} {F : Nat} {D : Dk} {w : Prop} {fa lo : List Int} {L : Lg} {b l : List Int}
theorem aqy : ∀ ds : List (List Int), 8 * ds.length ≤ (cat ds).length
 | [] => by simp
 | d :: ds => by
  have := aqy ds
  have e : cat (d :: ds) = ie d ++ cat ds := by simp [cat]
  rw [e, List.length_append, lh]; simp; omega
theorem aov : ∀ Q0 : List Prt, 8 * (gu Q0).length ≤ ((Q0.map kf).map Fil.len).sum
 | [] => by simp [gu]
 | q :: Q0 => by
  have h1 := aov Q0
  have h2 := aqy q.ge
  have e : gu (q :: Q0) = q.ge ++ gu Q0 := by unfold gu; simp
  have e2 : (kf q).len = (ky q.first).length + (cat q.ge).length := by unfold kf Fil.len body; simp
  rw [e, List.map_cons, List.map_cons, List.sum_cons, List.length_append, e2]
  omega
theorem auv : ∀ Q0 : List Prt, ∀ q ∈ Q0, (body q).length ≤ ((Q0.map kf).map Fil.len).sum := fun Q0 q hq => by
 have : (kf q).len ≤ ((Q0.map kf).map Fil.len).sum := aee (List.mem_map_of_mem (List.mem_map_of_mem hq))
 have e2 : (kf q).len = (body q).length := by unfold kf Fil.len; simp
 omega
theorem ama (h : pq s f L F D) : (∀ q ∈ L.fq, (body q).length ≤ D.gx) ∧ 8 * (gu L.fq).length ≤ D.gx := by
 rcases h.vir.dsc with ⟨hq, _⟩ | ⟨Q0, q, fa, lo, m, hq, hf, _, hw, _⟩
 ·rw [hq]; exact ⟨fun q h => by simp at h, by simp [gu]⟩
 ·have hb : fa.length + lo.length = (body q).length := by rw [← hw trivial, List.length_append]
  have hc : (body q).length = (ky q.first).length + (cat q.ge).length := by unfold body; rw [List.length_append]
  have hcg := aqy q.ge
  have hu : D.gx = ((Q0.map kf).map Fil.len).sum + (body q).length := by
   unfold Dk.gx
   rw [hf, List.map_append, List.sum_append]
   simp [Fil.len]; omega
  refine ⟨fun x hx => ?_, ?_⟩
  ·rw [hq] at hx
   rcases List.mem_append.1 hx with hx | hx
   ·have := auv Q0 x hx; omega
   ·rw [List.mem_singleton.1 hx]; omega
  ·have := aov Q0
   rw [hq, lw, rh, List.length_append]
   omega
theorem apr : ∀ {Q : List Prt} {s f : Int}, Chn s f Q → ∀ q ∈ Q, ∀ d ∈ q.ge, d.length ≤ 8192
 | q :: r, s, f, h, x, hx, d, hd => by
  rcases List.mem_cons.1 hx with rfl | hx
  ·exact h.2.2.1 d hd
  ·exact apr h.2.2.2 x hx d hd
theorem bfl : ∀ {Q : List Prt}, ∀ q ∈ Q, q.ge.length ≤ (gu Q).length := fun {Q} q hq => by
 obtain ⟨a, c, rfl⟩ := List.append_of_mem hq
 unfold gu; simp; omega
end
section
variable {w0 w : World} {R : List Asn} {p hb : Nat} {L : Lg} {D : Dk} {s f : Int} {G : Nat}
theorem ame (S : St w0 w (gj hb D :: R)) : D.ic ≤ 1048576 ∧ (D.gx : Int) ≤ D.ic := by
 obtain ⟨r, m, es, hk, _⟩ := xg S
 exact ⟨hk.ic, hk.gx⟩
theorem apc (S : St w0 w (gj hb D :: R)) (h : pq s f L G D) : (gu L.fq).length ≤ 131072 := by
 have h1 := ame S
 have h2 := (ama h).2
 omega
theorem bfq (S : St w0 w (gj hb D :: R)) (h : pq s f L G D) : LgB L := by
 have h1 := ame S
 have h2 := ama h
 refine ⟨by have := h.vir.len; omega, asi h.vir.s0 h.vir.chn, fun q hq => ?_, fun q hq => ?_⟩
 ·have := bfl q hq; omega
 ·have := h.size q hq
  have := h2.1 q hq
  omega
theorem aow (S : St w0 w (kt p hb L :: gj hb D :: R)) (h : pq s f L G D) {K : KV} (hK : ∀ w' v', St w0 w' (jt v' (gu L.fq) :: kt p hb L :: gj hb D :: R) → K v' w') : fj P F.bu [jh p] w K := by
 have h1 := apc S.swap h
 exact bdf S (by have := h.vir.len; omega) (by unfold Lg.all; unfold gu at h1; omega) (fun q hq d hd => by have := apr h.vir.chn q hq d hd; omega) hK
end
set_option maxRecDepth 100000
open Go.Eng Go.Proofs.YtfnhoaemapheoaaGreat.Sint
def oy (m : je) : List (List Int) := m.map fun p => mi p.1 p.2
def zy (ds : List (List Int)) : Prop := ∀ d ∈ ds, ∃ p, okE p ∧ d = mi p.1 p.2
def xq (ds : List (List Int)) (F : Nat) (m : je) : Prop := ∀ j, F ≤ j → nf (ds.take j) = m
theorem afq (ds : List (List Int)) : xq ds ds.length (nf ds) := fun j hj => by rw [List.take_of_length_le hj]
theorem ahq {ds : List (List Int)} {F : Nat} {m : je} (h : xq ds F m) (hF : F ≤ ds.length) : nf ds = m := by
 have := h ds.length hF
 rwa [List.take_length] at this
theorem abe {ds : List (List Int)} {F j : Nat} {m : je} (h : xq ds F m) (hl : F ≤ (ds.take j).length) : nf (ds.take j) = m := h j (by rw [List.length_take] at hl; omega)
theorem aof {ds : List (List Int)} {F j : Nat} {m : je} {p : Int × Rg} (h : xq ds F m) (hF : F ≤ ds.length) (hp : okE p) (hl : F ≤ ((ds ++ [mi p.1 p.2]).take j).length) : nf ((ds ++ [mi p.1 p.2]).take j) = m ∨ nf ((ds ++ [mi p.1 p.2]).take j) = oz m p.1 p.2 := by
 by_cases hj : j ≤ ds.length
 ·rw [List.take_append_of_le_length hj] at hl ⊢
  exact .inl (abe h hl)
 ·rw [List.take_of_length_le (by simp; omega), agj hp.1 hp.2.1 hp.2.2.1 hp.2.2.2, ahq h hF]
  exact .inr rfl
theorem axs {ds : List (List Int)} (h : zy ds) (j : Nat) : zy (ds.take j) := fun d hd => h d (List.mem_of_mem_take hd)
theorem ata : ∀ (ds : List (List Int)) {l : je}, zy ds → (∀ p ∈ l, okE p) → ∀ p ∈ ds.foldl aat l, okE p
 | [], _, _, hl, p, hp => hl p hp
 | d :: r, l, h, hl, p, hp => by
  rw [List.foldl_cons] at hp
  refine ata r (fun x hx => h x (List.mem_cons_of_mem _ hx)) (fun x hx => ?_) p hp
  obtain ⟨q, hq, rfl⟩ := h d (by simp)
  unfold aat at hx
  rw [aeh hq.1 hq.2.1 hq.2.2.1 hq.2.2.2] at hx
  rcases asx x hx with rfl | hx
  ·exact hq
  ·exact hl x hx
theorem bdc {ds : List (List Int)} (h : zy ds) : ∀ p ∈ nf ds, okE p := ata ds h fun p hp => by simp at hp
def qk : Lg → Dk → List (List Int) → (Lg × Dk) × Int
 | L, D, [] => ((L, D), 0)
 | L, D, b :: r => if (L.append D b).2 = 0 then qk (L.append D b).1.1 (L.append D b).1.2 r else L.append D b
inductive Wr (s f : Int) (L : Lg) (F : Nat) (D : Dk) (ge : List (List Int)) : (Lg × Dk) × Int → Prop
 | ok (L' : Lg) (D' : Dk) : pq s f L' F D' → gu L'.fq = gu L.fq ++ ge → L'.gk = L.gk → D'.ic = D.ic → (D.iq = false → D'.iq = false) → Wr s f L F D ge ((L', D'), 0)
 | tq (i : Nat) (L' : Lg) (D' : Dk) : i < ge.length → pq s f L' F D' → gu L'.fq = gu L.fq ++ ge.take i → L'.gk = L.gk → D'.ic = D.ic → (D.iq = false → D'.iq = false) → Wr s f L F D ge ((L', D'), 9)
 | gr (i j : Nat) (L' : Lg) (D0 D' : Dk) (Q : List Prt) : D.iq = true → pq s f L' F D0 → gu L'.fq = gu L.fq ++ ge.take j → L'.gk = L.gk → D'.gr = true → Vir s f Q F D' False → gu Q = gu L.fq ++ ge.take i → D'.ic = D.ic → Wr s f L F D ge ((L', D'), 10)
theorem bei {s f : Int} {F : Nat} : ∀ (ge : List (List Int)) {L : Lg} {D : Dk}, pq s f L F D → (∀ b ∈ ge, b.length ≤ 8192) → f + (gu L.fq).length + ge.length ≤ 1000000000000 → Wr s f L F D ge (qk L D ge)
 | [], L, D, h, _, _ => .ok L D h (by simp) rfl rfl id
 | b :: r, L, D, h, hl, hn => by
  have ha := ave (b := b) h (by simp at hn; omega)
  rw [qk]
  have hb := hl b (by simp)
  generalize L.append D b = x at ha ⊢
  cases ha with
  | ahb hx => omega
  | tq D' hx g e1 e2 =>
   rw [if_neg (by simp)]
   exact .tq 0 L D' (by simp) g (by simp) rfl e1 (fun h => by rw [e2]; exact h)
  | gr D' Q e1 e2 e3 e4 e5 =>
   rw [if_neg (by simp)]
   exact .gr 1 0 L D D' Q e1 h (by simp) rfl e2 e3 (by simpa using e4) e5
  | ok L' D' g e1 e2 e3 e4 e5 e6 e7 e8 =>
   rw [if_pos rfl]
   have hr := bei r g (fun x hx => hl x (List.mem_cons_of_mem _ hx)) (by rw [e1]; simp at hn ⊢; omega)
   simp only
   generalize qk L' D' r = y at hr ⊢
   cases hr with
   | ok L2 D2 g2 a1 a2 a3 a4 => exact .ok L2 D2 g2 (by rw [a1, e1]; simp) (by rw [a2, e4]) (by rw [a3, e5]) (fun h => a4 (e6 h))
   | tq i L2 D2 hi g2 a1 a2 a3 a4 => exact .tq (i + 1) L2 D2 (by simp; omega) g2 (by rw [a1, e1]; simp) (by rw [a2, e4]) (by rw [a3, e5]) (fun h => a4 (e6 h))
   | gr i j L2 D0 D2 Q b1 b2 b3 b4 b5 b6 b7 b8 =>
    have harm : D.iq = true := by
     cases ha : D.iq with
     | true => rfl
     | false => rw [e6 ha] at b1; exact absurd b1 (by decide)
    exact .gr (i + 1) (j + 1) L2 D0 D2 Q harm b2 (by rw [b3, e1]; simp) (by rw [b4, e4]) b5 b6 (by rw [b7, e1]; simp) (by rw [b8, e5])
def jk (m : je) (km : Bool) (tr : Int) (b : Bal) (v : Int) : Rg × Bool := if km = true then (lq m tr).acc b v else (lq m tr).qh b
def acd (m : je) (km : Bool) (tr : Int) (b : Bal) (v : Int) : je := if (jk m km tr b v).2 = true then oz m tr (jk m km tr b v).1 else m
theorem ayc {m : je} {k : Int} {r : Rg} (ha : Asc m) (h : lk m k = some r) : oz m k r = m := aso (asm ha k r) ha fun k' => by
 rw [axr ha]
 split
 ·rename_i he; subst he; exact h.symm
 ·rfl
theorem bde {r : Rg} {b : Bal} (h : (r.qh b).2 = false) : (r.qh b).1 = r := by
 unfold Rg.qh at h ⊢
 split at h
 ·cases h
 ·rename_i hs; rw [if_neg hs]
theorem bfa {r : Rg} {b : Bal} {v : Int} (h : (r.acc b v).2 = false) : (r.acc b v).1 = r := by
 unfold Rg.acc at h ⊢
 split at h
 ·cases h
 ·rename_i hs; rw [if_neg hs]
theorem akb {r : Rg} {b : Bal} (h : r.ku b = true) : 0 < b.n := by
 unfold Rg.ku at h
 simp at h
 exact h.1
theorem ahv {r : Rg} {b : Bal} (h : (r.qh b).2 = true) : (r.qh b).1 = ⟨b, r.t, r.v⟩ ∧ 0 < b.n := by
 unfold Rg.qh at h ⊢
 split at h
 ·rename_i hs; rw [if_pos hs]; exact ⟨rfl, akb hs⟩
 ·cases h
theorem akp {r : Rg} {b : Bal} {v : Int} (h : (r.acc b v).2 = true) : (r.acc b v).1 = ⟨b, b, v⟩ ∧ 0 < b.n ∧ kb v = true := by
 unfold Rg.acc at h ⊢
 split at h
 ·rename_i hs; rw [if_pos hs]; exact ⟨rfl, akb hs.1, hs.2.1⟩
 ·cases h
theorem ahu {m : je} {km : Bool} {tr v : Int} {b : Bal} (h : (jk m km tr b v).2 = false) : (jk m km tr b v).1 = lq m tr := by
 unfold jk at h ⊢
 cases km with
 | true => simp only [if_true] at h ⊢; exact bfa h
 | false => simp only [Bool.false_eq_true, if_false] at h ⊢; exact bde h
theorem amd {m : je} {km : Bool} {tr v : Int} {b : Bal} (h : (jk m km tr b v).2 = true) : (jk m km tr b v).1.p = b ∧ 0 < b.n := by
 unfold jk at h ⊢
 cases km with
 | true => simp only [if_true] at h ⊢; rw [(akp h).1]; exact ⟨rfl, (akp h).2.1⟩
 | false => simp only [Bool.false_eq_true, if_false] at h ⊢; rw [(ahv h).1]; exact ⟨rfl, (ahv h).2⟩
theorem bah {m : je} {km : Bool} {tr v : Int} {b : Bal} (ha : Asc m) : acd m km tr b v = if (jk m km tr b v).1 = lq m tr then m else oz m tr (jk m km tr b v).1 := by
 unfold acd
 cases ho : (jk m km tr b v).2 with
 | false => simp [ahu ho]
 | true =>
  obtain ⟨h1, h2⟩ := amd ho
  simp only [if_true]
  by_cases he : (jk m km tr b v).1 = lq m tr
  ·rw [if_pos he]
   refine ayc ha ?_
   cases hl : lk m tr with
   | some r => rw [he]; unfold lq; rw [hl]; rfl
   | none =>
    have hz : lq m tr = rg0 := by unfold lq; rw [hl]; rfl
    rw [he, hz] at h1
    rw [← h1] at h2
    exact absurd h2 (by decide)
  ·rw [if_neg he]
theorem bco {m : je} (ho : ∀ p ∈ m, okE p) (k : Int) : (lq m k).right = true ∧ (lq m k).rng := by
 unfold lq
 cases hl : lk m k with
 | none => exact ⟨rfl, by simp [rg0, Rg.rng, Bal.rng, gq, ub]⟩
 | some r =>
  unfold lk at hl
  obtain ⟨p, hp, rfl⟩ := Option.map_eq_some_iff.1 hl
  have := ho p (List.mem_of_find?_eq_some hp)
  exact ⟨this.2.2.2, this.2.2.1⟩
theorem aoj {m : je} {km : Bool} {tr v : Int} {b : Bal} (ho : ∀ p ∈ m, okE p) (ht : ub tr) (ht0 : 0 < tr) (hb : b.rng) : okE (tr, (jk m km tr b v).1) := by
 obtain ⟨h1, h2⟩ := bco ho tr
 refine ⟨ht, ht0, ?_, ?_⟩
 ·cases hk : (jk m km tr b v).2 with
  | false => simp only [ahu hk]; exact h2
  | true =>
   unfold jk at hk ⊢
   cases km with
   | true => simp only [if_true] at hk ⊢; rw [(akp hk).1]; exact ⟨hb, hb⟩
   | false => simp only [Bool.false_eq_true, if_false] at hk ⊢; rw [(ahv hk).1]; exact ⟨hb, h2.2⟩
 ·cases hk : (jk m km tr b v).2 with
  | false => simp only [ahu hk]; exact h1
  | true =>
   have hn := (amd hk).2
   unfold jk at hk ⊢
   cases km with
   | true => simp only [if_true] at hk ⊢; exact (ayb h1 (by omega)).1
   | false => simp only [Bool.false_eq_true, if_false] at hk ⊢; exact (aue h1).1
open Go.Eng
def aje (r : Rg) : List Value := [.int .u64 r.p.n, .int .u64 r.p.gg, .int .u64 r.t.n, .int .u64 r.t.gg, .int .i64 r.v]
def ju (r : Rg) : Value := .agg #[.int .u64 r.p.n, .int .u64 r.p.gg, .int .u64 r.t.n, .int .u64 r.t.gg, .int .i64 r.v]
theorem ams (r : Rg) : ∀ u ∈ aje r, jq u = true := fun u hu => by
 simp only [aje, List.mem_cons, List.not_mem_nil, or_false] at hu
 rcases hu with rfl | rfl | rfl | rfl | rfl <;> rfl
theorem bgq {t : TypeId} {fs : Array Field} {i : TypeInfo} (hu : P.underlying t = some (.struct fs)) (hi : P.info? t = some i) (xs : Array Value) (o : Nat) (w : World) : (part t xs o).run P w = .ok (.agg (xs.extract o (o + i.size))) w := by
 have ha : (isAgg t).run P w = .ok true w := by
  unfold isAgg
  rw [Sem.run_bind, ii hu]
  rfl
 unfold part
 rw [Sem.run_bind, ha]
 simp only [Result.andThen, if_true, Sem.run_bind, xt hi, Sem.run_pure]
theorem baj {d : Nat} {xs ys : Array Value} {f : Field} {fs : List Field} {w : World} {b c : Bool} {ff : Array Field} {i : TypeInfo} (hn : f.name ≠ "_") (hu : P.underlying f.type = some (.struct ff)) (hi : P.info? f.type = some i)
  (he : (Op.equalIn d f.type (.agg (xs.extract f.offset (f.offset + i.size))) (.agg (ys.extract f.offset (f.offset + i.size)))).run P w = .ok b w) (hr : (Op.eqFields d xs ys fs).run P w = .ok c w) : (Op.eqFields d xs ys (f :: fs)).run P w = .ok (b && c) w := by
 simp only [Op.eqFields]
 rw [if_pos hn]
 simp only [Sem.run_bind, bgq hu hi, he, Result.andThen]
 cases b
 ·rfl
 ·simpa using hr
theorem ake (d : Nat) (x y : Bal) (w : World) : (Op.equalIn (d + 2) T.c (ja x) (ja y)).run P w = .ok (decide (x = y)) w := by
 have hS : P.underlying T.c = some (.struct (P.fieldsOf T.c)) := by kernel_rfl
 have hp : P.stoodInHeld T.c = false := by kernel_rfl
 rw [← aux]
 unfold ja
 rw [run_equalIn_agg w (d + 1) T.c _ _ hS hp]
 simp only [Program.fieldsOf, show P.underlying T.c = _ from Tryz.underlying40]
 have u22 : P.underlying T.d = some (.int .u64) := by kernel_rfl
 have a22 : yu P T.d = false := by kernel_rfl
 refine eqF (by decide) a22 rfl rfl (run_equalIn_int w d T.d _ _ _ _ u22) ?_
 have := eqF (fs := []) (d := d + 1) (xs := #[.int .u64 x.n, .int .u64 x.gg]) (ys := #[.int .u64 y.n, .int .u64 y.gg]) (f := { name := "Node", type := T.d, offset := 1, embedded := false, tag := "", pkgPath := "", byteOffset := 8 }) (w := w) (c := true) (by decide) a22 rfl rfl (run_equalIn_int w d T.d _ _ _ _ u22) rfl
 simpa using this
def anl : Array Field := #[{ name := "Promised", type := T.c, offset := 0, embedded := false, tag := "", pkgPath := "", byteOffset := 0 }, { name := "Taken", type := T.c, offset := 2, embedded := false, tag := "", pkgPath := "", byteOffset := 16 }, { name := "V", type := T.j, offset := 4, embedded := false, tag := "", pkgPath := "", byteOffset := 32 }]
theorem bhl (x y : Rg) : (decide (x.p = y.p) && (decide (x.t = y.t) && (x.v == y.v))) = decide (x = y) := by
 obtain ⟨a, b, c⟩ := x
 obtain ⟨a', b', c'⟩ := y
 simp only [Rg.mk.injEq]
 by_cases h1 : a = a' <;> by_cases h2 : b = b' <;> by_cases h3 : c = c' <;> simp [h1, h2, h3]
theorem amc {t : TypeId} (hu : P.underlying t = some (.struct anl)) (hp : P.stoodInHeld t = false) (d : Nat) (x y : Rg) (w : World) : (Op.equalIn (d + 3) t (ju x) (ju y)).run P w = .ok (decide (x = y)) w := by
 have hF : P.fieldsOf t = anl := by simp only [Program.fieldsOf, hu]
 have hS : P.underlying t = some (.struct (P.fieldsOf t)) := by rw [hF]; exact hu
 obtain ⟨bi, hbi, hsz⟩ : ∃ i, P.info? T.c = some i ∧ i.size = 2 := by
  have : (P.info? T.c).map (·.size) = some 2 := by kernel_rfl
  exact Option.map_eq_some_iff.1 this
 have bu := Tryz.underlying40
 have vu : P.underlying T.j = some (.int .i64) := by kernel_rfl
 have va : yu P T.j = false := by kernel_rfl
 rw [← bhl]
 unfold ju
 rw [run_equalIn_agg w (d + 2) t _ _ hS hp, hF]
 unfold anl
 refine baj (by decide) bu hbi ?_ (baj (by decide) bu hbi ?_ ?_)
 ·rw [hsz]; exact ake d x.p y.p w
 ·rw [hsz]; exact ake d x.t y.t w
 ·have := eqF (fs := []) (d := d + 2) (xs := #[.int .u64 x.p.n, .int .u64 x.p.gg, .int .u64 x.t.n, .int .u64 x.t.gg, .int .i64 x.v]) (ys := #[.int .u64 y.p.n, .int .u64 y.p.gg, .int .u64 y.t.n, .int .u64 y.t.gg, .int .i64 y.v]) (f := { name := "V", type := T.j, offset := 4, embedded := false, tag := "", pkgPath := "", byteOffset := 32 }) (w := w) (c := true) (by decide) va rfl rfl (run_equalIn_int w (d + 1) T.j _ _ _ _ vu) rfl
  simpa using this
theorem bfn (rx ry : Operand) (x y : Rg) (w : World) (K : KV) : fi P .neq T.g rx ry (ju x) (ju y) w K = K (.bool !(decide (x = y))) w := by
 have hm : P.eqGuardType P.depth T.g = false := by kernel_rfl
 have hg := run_eqGuard_agg (P := P) w .neq T.g rx ry #[.int .u64 x.p.n, .int .u64 x.p.gg, .int .u64 x.t.n, .int .u64 x.t.gg, .int .i64 x.v] #[.int .u64 y.p.n, .int .u64 y.p.gg, .int .u64 y.t.n, .int .u64 y.t.gg, .int .i64 y.v] hm
 have he := amc (t := T.g) (by kernel_rfl) (by kernel_rfl) 9997 x y w
 unfold fi im
 unfold ju at he ⊢
 rw [Sem.run_bind, hg]
 simp only [Result.andThen]
 rw [run_neq_struct, he]
 rfl
def wd (o : Int × Rg) : List Value := .int .u64 o.1 :: aje o.2
def aek (o : Int × Rg) : Value := .agg #[.int .u64 o.1, .int .u64 o.2.p.n, .int .u64 o.2.p.gg, .int .u64 o.2.t.n, .int .u64 o.2.t.gg, .int .i64 o.2.v]
theorem xa (o : Int × Rg) : (wd o).length = 6 := rfl
theorem aos (o : Int × Rg) : ∀ u ∈ wd o, jq u = true := fun u hu => by
 rcases List.mem_cons.1 hu with rfl | hu
 ·rfl
 ·exact ams _ u hu
abbrev SlO (w : World) (v : Value) (l : je) : Prop := Sl w 6 wd v l
def atz : Array Field := #[{ name := "Trace", type := T.d, offset := 0, embedded := false, tag := "", pkgPath := "", byteOffset := 0 }, { name := "R", type := T.i, offset := 1, embedded := false, tag := "", pkgPath := "", byteOffset := 8 }]
theorem awx (x y : Int × Rg) (w : World) : (Op.equalIn 10000 T.v (aek x) (aek y)).run P w = .ok (decide (x = y)) w := by
 have hu : P.underlying T.v = some (.struct atz) := by kernel_rfl
 have hF : P.fieldsOf T.v = atz := by simp only [Program.fieldsOf, hu]
 have hS : P.underlying T.v = some (.struct (P.fieldsOf T.v)) := by rw [hF]; exact hu
 have hp : P.stoodInHeld T.v = false := by kernel_rfl
 have ru : P.underlying T.i = some (.struct anl) := by kernel_rfl
 obtain ⟨ri, hri, hsz⟩ : ∃ i, P.info? T.i = some i ∧ i.size = 5 := by
  have : (P.info? T.i).map (·.size) = some 5 := by kernel_rfl
  exact Option.map_eq_some_iff.1 this
 have u22 : P.underlying T.d = some (.int .u64) := by kernel_rfl
 have a22 : yu P T.d = false := by kernel_rfl
 have hd : decide (x = y) = ((x.1 == y.1) && decide (x.2 = y.2)) := by
  obtain ⟨a, b⟩ := x
  obtain ⟨a', b'⟩ := y
  simp only [Prod.mk.injEq]
  by_cases h1 : a = a' <;> by_cases h2 : b = b' <;> simp [h1, h2]
 rw [hd]
 unfold aek
 rw [run_equalIn_agg w 9999 T.v _ _ hS hp, hF]
 unfold atz
 refine eqF (by decide) a22 rfl rfl (run_equalIn_int w 9998 T.d _ _ _ _ u22) ?_
 have := baj (fs := []) (d := 9999) (xs := #[.int .u64 x.1, .int .u64 x.2.p.n, .int .u64 x.2.p.gg, .int .u64 x.2.t.n, .int .u64 x.2.t.gg, .int .i64 x.2.v]) (ys := #[.int .u64 y.1, .int .u64 y.2.p.n, .int .u64 y.2.p.gg, .int .u64 y.2.t.n, .int .u64 y.2.t.gg, .int .i64 y.2.v]) (f := { name := "R", type := T.i, offset := 1, embedded := false, tag := "", pkgPath := "", byteOffset := 8 }) (w := w) (b := decide (x.2 = y.2)) (c := true) (by decide) ru hri (by rw [hsz]; exact amc ru (by kernel_rfl) 9996 x.2 y.2 w) rfl
 simpa using this
theorem avz (rx ry : Operand) (x y : Int × Rg) (w : World) (K : KV) : fi P .neq T.v rx ry (aek x) (aek y) w K = K (.bool !(decide (x = y))) w := by
 have hm : P.eqGuardType P.depth T.v = false := by kernel_rfl
 have hg := run_eqGuard_agg (P := P) w .neq T.v rx ry #[.int .u64 x.1, .int .u64 x.2.p.n, .int .u64 x.2.p.gg, .int .u64 x.2.t.n, .int .u64 x.2.t.gg, .int .i64 x.2.v] #[.int .u64 y.1, .int .u64 y.2.p.n, .int .u64 y.2.p.gg, .int .u64 y.2.t.n, .int .u64 y.2.t.gg, .int .i64 y.2.v] hm
 have he := awx x y w
 unfold fi im
 unfold aek at he ⊢
 rw [Sem.run_bind, hg]
 simp only [Result.andThen]
 rw [run_neq_struct, he]
 rfl
end Go.Proofs.YtfnhoaemapheoaaGreat
