/-
  Sorting a row of whole numbers (uint64): the partial insertion sort, the range turned round. No condition.
-/
import Derived.Test.YtfnhoaemapheoaaGreatZCatI
import Derived.Test.YtfnhoaemapheoaaGreatZSpn0
import Derived.Test.YtfnhoaemapheoaaGreatZEngSl
import Derived.Test.YtfnhoaemapheoaaGreatZMs0
import Derived.Test.YtfnhoaemapheoaaGreatM
import Derived.Test.YtfnhoaemapheoaaGreatFacts
import Derived.Test.YtfnhoaemapheoaaGreatZKeyD
set_option maxRecDepth 100000
namespace Go.Proofs.YtfnhoaemapheoaaGreat.Suint64
open Go.Eng Go.Sort
def RvI (w : World) (g : Nat) (e : TypeId) (cap n : Nat) (R : Array Int) : KL := fun x w1 => ∃ (i j : Nat) (d : Array Int), x = [.int .i64 (i : Int), .int .i64 (j : Int)] ∧ Rf w w1 g e cap d ∧ d.size = n ∧ i ≤ n ∧ j < n ∧ reverseLoop i j d = R
theorem aeh {w : World} {g cap n : Nat} {e : TypeId} {d : Array Int} (H : Rw w g e cap d) (hn : d.size = n) (h6 : n < 100000) {a b : Nat} (hb : b ≤ n) (hab : a < b) {K : KV}
  (h : ∀ w', Rf w w' g e cap (reverseRange d a b) → K (.tuple #[]) w') : jb P F.af [.slice (some ⟨g, 0, none⟩) n cap, .int .i64 a, .int .i64 b] w K := by
 apply M.am.calls
 unfold M.am
 have hw2 : IntKind.i64.wrap ((b : Int) - 1) = ((b - 1 : Nat) : Int) := by rw [ft (by omega) (by omega)]; omega
 simp only [jm, hw2]
 unfold reverseRange at h
 generalize hR : reverseLoop a (b - 1) d = R at *
 refine ⟨RvI w g e cap n R, fun x _ => ms x 1 - ms x 0, ⟨a, b - 1, d, rfl, H.nr, hn, by omega, by omega, hR⟩, ?_⟩
 clear hR
 rintro x w1 ⟨i, j, d1, rfl, H1, hn1, hi, hj, hR⟩
 simp only [fo, g20, g21]
 unfold reverseLoop at hR
 by_cases hij : i < j
 ·have hij' : (i : Int) < j := by omega
  rw [if_pos hij] at hR
  simp only [kf, hij', decide_true, Eng.cond_true]
  unfold M.am.j1
  have c1 := H1.row.at (show i < d1.size by omega)
  have c2 := H1.row.at (show j < d1.size by omega)
  have e1 : (i : Int) < n := by omega
  have e2 : (j : Int) < n := by omega
  have f1 := H1.row.frz i
  have f2 := H1.row.frz j
  have hw3 : IntKind.i64.wrap ((i : Int) + 1) = ((i + 1 : Nat) : Int) := jz (by omega)
  have hw4 : IntKind.i64.wrap ((j : Int) - 1) = ((j - 1 : Nat) : Int) := by rw [ft (by omega) (by omega)]; omega
  simp [g20, g21, e1, e2, c1, c2, f1, f2, gx, ic, hw3, hw4, -Int.natCast_add]
  refine ⟨⟨i + 1, j - 1, _, rfl, (H1.dr 1).swp (by omega) (by omega), by rw [size_swp]; exact hn1, by omega, by omega, hR⟩, ?_⟩
  simp [ms, gv]; omega
 ·have hij' : ¬ (i : Int) < j := by omega
  rw [if_neg hij] at hR
  subst hR
  simp only [kf, hij', decide_false, Eng.cond_false]
  exact h w1 H1
theorem aac (d : Array Int) (b : Nat) : ∀ m i, b - i ≤ m → i ≤ b → i ≤ scanSorted ltInt d b i ∧ scanSorted ltInt d b i ≤ b := by
 intro m
 induction m with
 | zero =>
  intro i hm hi
  unfold scanSorted
  rw [if_neg (by simp; omega)]
  omega
 | succ m ih =>
  intro i hm hi
  unfold scanSorted
  split
  ·rename_i h
   simp at h
   have := ih (i + 1) (by omega) (by omega)
   omega
  ·omega
theorem tm : ∀ (j : Nat) (d : Array Int), (shiftDown ltInt j d).size = d.size
 | 0, _ => rfl
 | j + 1, d => by
  unfold shiftDown
  split
  ·rfl
  ·rw [tm j, size_swp]
theorem abw (b : Nat) : ∀ (m j : Nat) (d : Array Int), b - j ≤ m → (shiftUp ltInt b j d).size = d.size := by
 intro m
 induction m with
 | zero =>
  intro j d hm
  unfold shiftUp
  rw [if_neg (by omega)]
 | succ m ih =>
  intro j d hm
  unfold shiftUp
  split
  ·split
   ·rfl
   ·rw [ih _ _ (by omega), size_swp]
  ·rfl
section
variable {w : World} {g cap n : Nat} {e : TypeId} {d : Array Int}
def SsI (w : World) (g : Nat) (e : TypeId) (cap : Nat) (d : Array Int) (a b r : Nat) : KL := fun x w1 => ∃ i : Nat, x = [.int .i64 (i : Int)] ∧ Rf w w1 g e cap d ∧ a < i ∧ i ≤ b ∧ scanSorted ltInt d b i = r
theorem ajb (H : Rw w g e cap d) (hn : d.size = n) (h6 : n < 100000) {a b i : Nat} (hb : b ≤ n) (ha : a < i) (hi : i ≤ b) {K4 : KL} {K : KV}
  (h : ∀ w', Rf w w' g e cap d → K4 [.int .i64 (scanSorted ltInt d b i : Nat)] w') :
  fl (fun K4 => gy [.int .i64 (i : Int)] w fun K5 x5 w => M.a.j5 x5 (.int .i64 (b : Int)) (.slice (some ⟨g, 0, none⟩) n cap) K4 K5 w K) K4 := by
 rw [fo]
 generalize hr : scanSorted ltInt d b i = r at *
 refine ⟨SsI w g e cap d a b r, fun x _ => b - ms x 0, ⟨i, rfl, H.nr, ha, hi, hr⟩, ?_⟩
 clear hr
 rintro x w1 ⟨k, rfl, H1, hak, hkb, hR⟩
 unfold M.a.j5
 unfold scanSorted at hR
 by_cases hk : k < b
 ·have a1 := H1.row.at (show k < d.size by omega)
  have a2 := H1.row.at (show k - 1 < d.size by omega)
  have b1 : (k : Int) < n := by omega
  have b2 : ((k - 1 : Nat) : Int) < n := by omega
  have b3 : (k : Int) < b := by omega
  have hw : IntKind.i64.wrap ((k : Int) - 1) = ((k - 1 : Nat) : Int) := by rw [ft (by omega) (by omega)]; omega
  simp [g0, b1, b2, b3, a1, a2, hw]
  refine kh _ _ ?_
  cases hl : ltInt d[k]! d[k - 1]! with
  | true =>
   rw [if_neg (by simp [hl])] at hR
   simp
   rw [← hR] at h
   exact h _ (H1.dr 1)
  | false =>
   rw [if_pos (by simp [hl, hk])] at hR
   simp [jz (show k < 1000000 by omega)]
   refine ⟨⟨k + 1, by simp, H1.dr 1, by omega, by omega, hR⟩, ?_⟩
   simp [ms, gv]; omega
 ·have b3 : ¬ (k : Int) < b := by omega
  rw [if_neg (by simp [hk])] at hR
  simp [g0, b3]
  rw [← hR] at h
  exact h _ (H1.dr 1)
def SdI (w : World) (g : Nat) (e : TypeId) (cap n : Nat) (R : Array Int) : KL := fun x w1 => ∃ (j : Nat) (d : Array Int), x = [.int .i64 (j : Int)] ∧ Rf w w1 g e cap d ∧ d.size = n ∧ j < n ∧ shiftDown ltInt j d = R
theorem aiq (H : Rw w g e cap d) (hn : d.size = n) (h6 : n < 100000) {j : Nat} (hj : j < n) {K9 : KL} {K : KV}
  (h : ∀ w' v, Rf w w' g e cap (shiftDown ltInt j d) → K9 [v] w') :
  gy [.int .i64 (j : Int)] w fun K10 x10 w => fl (fun K11 => fj P .geq T.b (.tmp 64) (.const (.int .i64 1)) (gv x10 0) (.int .i64 1) w fun t65 w => fm t65 (K11 [] w) (K9 [(gv x10 0)] w)) fun x11 w => M.a.j11 (.slice (some ⟨g, 0, none⟩) n cap) x10 K9 K10 w K := by
 generalize hr : shiftDown ltInt j d = R at *
 refine ⟨SdI w g e cap n R, fun x _ => ms x 0, ⟨j, d, rfl, H.nr, hn, hj, hr⟩, ?_⟩
 clear hr
 rintro x w1 ⟨k, d1, rfl, H1, hn1, hk, hR⟩
 simp only [fo, g0, li]
 cases k with
 | zero =>
  have hk0 : ¬ (1 : Int) ≤ ((0 : Nat) : Int) := by omega
  simp only [hk0, decide_false, Eng.cond_false]
  unfold shiftDown at hR
  subst hR
  exact h _ _ H1
 | succ k =>
  have hk0 : (1 : Int) ≤ ((k + 1 : Nat) : Int) := by omega
  simp only [hk0, decide_true, Eng.cond_true]
  unfold M.a.j11
  unfold shiftDown at hR
  have a1 := H1.row.at (show k + 1 < d1.size by omega)
  have a2 := H1.row.at (show k < d1.size by omega)
  have b1 : ((k + 1 : Nat) : Int) < n := by omega
  have b2 : (k : Int) < n := by omega
  have f1 := H1.row.frz (k + 1)
  have f2 := H1.row.frz k
  have hw : IntKind.i64.wrap (((k + 1 : Nat) : Int) - 1) = (k : Int) := by rw [ft (by omega) (by omega)]; omega
  simp [g0, b1, b2, a1, a2, hw, -Int.natCast_add]
  refine kh _ _ ?_
  cases hl : ltInt d1[k + 1]! d1[k]! with
  | false =>
   rw [if_pos (by simp [hl])] at hR
   subst hR
   simp
   exact h _ _ (H1.dr 1)
  | true =>
   rw [if_neg (by simp [hl])] at hR
   simp [-Int.natCast_add]
   unfold M.a.j13
   simp [g0, b1, b2, a1, a2, f1, f2, hw, gx, ic, -Int.natCast_add]
   refine ⟨⟨k, _, rfl, ((H1.dr 1).dr 1).swp (by omega) (by omega), by rw [size_swp]; exact hn1, by omega, hR⟩, ?_⟩
   simp [ms, gv]
def SuI (w : World) (g : Nat) (e : TypeId) (cap n b : Nat) (R : Array Int) : KL := fun x w1 => ∃ (j : Nat) (d : Array Int), x = [.int .i64 (j : Int)] ∧ Rf w w1 g e cap d ∧ d.size = n ∧ 1 ≤ j ∧ j ≤ b ∧ shiftUp ltInt b j d = R
theorem arr (H : Rw w g e cap d) (hn : d.size = n) (h6 : n < 100000) {j b : Nat} (hb : b ≤ n) (hj : 1 ≤ j) (hjb : j ≤ b) {K3 : KL} {x4 x8 x9 : List Value} {K : KV}
  (h : ∀ w' v, Rf w w' g e cap (shiftUp ltInt b j d) → K3 [gv x4 0, gv x8 0, gv x9 0, v] w') :
  gy [.int .i64 (j : Int)] w fun K14 x14 w => M.a.j14 x14 (.int .i64 (b : Int)) K3 x4 x8 x9 (.slice (some ⟨g, 0, none⟩) n cap) K14 w K := by
 generalize hr : shiftUp ltInt b j d = R at *
 refine ⟨SuI w g e cap n b R, fun x _ => b - ms x 0, ⟨j, d, rfl, H.nr, hn, hj, hjb, hr⟩, ?_⟩
 clear hr
 rintro x w1 ⟨k, d1, rfl, H1, hn1, hk1, hk, hR⟩
 unfold M.a.j14
 simp only [fo, g0, kf]
 unfold shiftUp at hR
 by_cases hkb : k < b
 ·have hkb' : (k : Int) < b := by omega
  rw [if_pos hkb] at hR
  simp only [hkb', decide_true, Eng.cond_true]
  unfold M.a.j15
  have a1 := H1.row.at (show k < d1.size by omega)
  have a2 := H1.row.at (show k - 1 < d1.size by omega)
  have b1 : (k : Int) < n := by omega
  have b2 : ((k - 1 : Nat) : Int) < n := by omega
  have f1 := H1.row.frz k
  have f2 := H1.row.frz (k - 1)
  have hw : IntKind.i64.wrap ((k : Int) - 1) = ((k - 1 : Nat) : Int) := by rw [ft (by omega) (by omega)]; omega
  simp [g0, b1, b2, a1, a2, hw]
  refine kh _ _ ?_
  cases hl : ltInt d1[k]! d1[k - 1]! with
  | false =>
   rw [if_pos (by simp [hl])] at hR
   subst hR
   simp
   exact h _ _ (H1.dr 1)
  | true =>
   rw [if_neg (by simp [hl])] at hR
   simp
   unfold M.a.j17
   simp [g0, b1, b2, a1, a2, f1, f2, hw, gx, ic, jz (show k < 1000000 by omega)]
   refine ⟨⟨k + 1, _, by simp, ((H1.dr 1).dr 1).swp (by omega) (by omega), by rw [size_swp]; exact hn1, by omega, by omega, hR⟩, ?_⟩
   simp [ms, gv]; omega
 ·have hkb' : ¬ (k : Int) < b := by omega
  rw [if_neg hkb] at hR
  simp only [hkb', decide_false, Eng.cond_false]
  subst hR
  exact h _ _ H1
end
def PiI (w : World) (g : Nat) (e : TypeId) (cap n a b : Nat) (R : Array Int × Bool) : KL := fun x w1 => ∃ (u1 u2 u3 : Value) (i s : Nat) (d : Array Int), x = [.int .i64 (i : Int), u1, u2, u3, .int .i64 ((5 - s : Nat) : Int)] ∧ Rf w w1 g e cap d ∧ d.size = n ∧ s ≤ 5 ∧ a < i ∧ i ≤ b ∧ partialIns ltInt a b s i d = R
theorem aaf {w : World} {g cap n : Nat} {e : TypeId} {d : Array Int} (H : Rw w g e cap d) (hn : d.size = n) (h6 : n < 100000) {a b : Nat} (hb : b ≤ n) (hab : a < b) {K : KV}
  (h : ∀ w', Rf w w' g e cap (partialInsertionSort ltInt d a b).1 → K (.bool (partialInsertionSort ltInt d a b).2) w') : jb P F.m [.slice (some ⟨g, 0, none⟩) n cap, .int .i64 a, .int .i64 b] w K := by
 apply M.a.calls
 unfold M.a
 simp only [ji, jz (show a < 1000000 by omega), fo]
 unfold partialInsertionSort at h
 generalize hR : partialIns ltInt a b 5 (a + 1) d = R at *
 refine ⟨PiI w g e cap n a b R, fun x _ => 5 - ms x 4, ⟨_, _, _, a + 1, 5, d, rfl, H.nr, hn, by omega, by omega, by omega, hR⟩, ?_⟩
 clear hR
 rintro x w1 ⟨u1, u2, u3, i, s, d1, rfl, H1, hn1, hs, hai, hib, hR⟩
 have q0 : ∀ a b c d e : Value, gv [a, b, c, d, e] 0 = a := fun _ _ _ _ _ => rfl
 have q1 : ∀ a b c d e : Value, gv [a, b, c, d, e] 1 = b := fun _ _ _ _ _ => rfl
 have q2 : ∀ a b c d e : Value, gv [a, b, c, d, e] 2 = c := fun _ _ _ _ _ => rfl
 have q3 : ∀ a b c d e : Value, gv [a, b, c, d, e] 3 = d := fun _ _ _ _ _ => rfl
 have q4 : ∀ a b c d e : Value, gv [a, b, c, d, e] 4 = e := fun _ _ _ _ _ => rfl
 unfold M.a.j1
 simp only [fo, q0, q1, q2, q3, q4, kf]
 cases s with
 | zero =>
  simp
  unfold partialIns at hR
  subst hR
  exact h _ H1
 | succ s =>
  rw [show 5 - (s + 1) = 4 - s from by omega]
  have hs5 : ((4 - s : Nat) : Int) < 5 := by omega
  simp only [hs5, decide_true, Eng.cond_true]
  unfold M.a.j2
  unfold partialIns at hR
  simp only at hR
  rw [fo]
  simp only [q0, q1, q2, q3, q4]
  refine ajb (a := a) H1.row hn1 h6 hb hai hib fun w2 H2 => ?_
  have hsc := aac d1 b _ i (Nat.le_refl _) hib
  generalize scanSorted ltInt d1 b i = i2 at *
  have H2' := H1.trans H2
  simp only [fo, g0, so]
  by_cases hib2 : i2 = b
  ·have : (i2 : Int) = b := by omega
   rw [if_pos hib2] at hR
   simp only [this, decide_true, Eng.cond_true]
   subst hR
   exact h _ H2'
  have hib2' : ¬ (i2 : Int) = b := by omega
  rw [if_neg hib2] at hR
  simp only [hib2', decide_false, Eng.cond_false]
  unfold M.a.j7
  have hw0 : IntKind.i64.wrap ((b : Int) - a) = ((b - a : Nat) : Int) := oo (by omega) (by omega)
  simp only [fo, jm, hw0, kf]
  by_cases h50 : b - a < 50
  ·have : ((b - a : Nat) : Int) < 50 := by omega
   rw [if_pos h50] at hR
   simp only [this, decide_true, Eng.cond_true]
   subst hR
   exact h _ H2'
  have h50' : ¬ ((b - a : Nat) : Int) < 50 := by omega
  rw [if_neg h50] at hR
  simp only [h50', decide_false, Eng.cond_false]
  unfold M.a.j8
  have a1 := H2.row.at (show i2 < d1.size by omega)
  have a2 := H2.row.at (show i2 - 1 < d1.size by omega)
  have b1 : (i2 : Int) < n := by omega
  have b2 : ((i2 - 1 : Nat) : Int) < n := by omega
  have f1 := H2.row.frz i2
  have f2 := H2.row.frz (i2 - 1)
  have hw : IntKind.i64.wrap ((i2 : Int) - 1) = ((i2 - 1 : Nat) : Int) := by rw [ft (by omega) (by omega)]; omega
  have hwa : IntKind.i64.wrap ((i2 : Int) - a) = ((i2 - a : Nat) : Int) := oo (by omega) (by omega)
  simp [g0, b1, b2, a1, a2, f1, f2, hw, hwa, gx, ic, -fo]
  have H3 := (H2'.dr 1).swp (i := i2) (j := i2 - 1) (by omega) (by omega)
  generalize ((dr w2 1).setCell ⟨g, i2, none⟩ (.int .u64 d1[i2 - 1]!)).setCell ⟨g, i2 - 1, none⟩ (.int .u64 d1[i2]!) = w3 at *
  have hn3 : (Sort.swp d1 i2 (i2 - 1)).size = n := by rw [size_swp]; exact hn1
  generalize Sort.swp d1 i2 (i2 - 1) = d3 at *
  -- behind the shift gr
  have tail : ∀ (x9 : List Value) (w4 : World) (d4 : Array Int), Rf w w4 g e cap d4 → d4.size = n → partialIns ltInt a b s i2 (if b - i2 ≥ 2 then shiftUp ltInt b (i2 + 1) d4 else d4) = R → ∀ (K3 : KL) (x8 x1 : List Value),
    (∀ w' v, ∀ d5, Rf w w' g e cap d5 → d5.size = n → partialIns ltInt a b s i2 d5 = R → K3 [.int .i64 (i2 : Int), gv x8 0, gv x9 0, v] w') →
    M.a.j9 (.int .i64 b) [.int .i64 i2] K3 x8 x9 (.slice (some ⟨g, 0, none⟩) n cap) x1 w4 K := by
   intro x9 w4 d4 H4 hn4 hR4 K3 x8 x1 hK
   unfold M.a.j9
   have hwb : IntKind.i64.wrap ((b : Int) - i2) = ((b - i2 : Nat) : Int) := oo (by omega) (by omega)
   simp only [g0, jm, hwb, li]
   by_cases h2 : b - i2 ≥ 2
   ·have h2' : (2 : Int) ≤ ((b - i2 : Nat) : Int) := by omega
    rw [if_pos h2] at hR4
    simp only [h2', decide_true, Eng.cond_true, ji, jz (show i2 < 1000000 by omega)]
    refine arr H4.row hn4 h6 hb (by omega) (by omega) fun w5 v H5 => ?_
    exact hK _ v _ (H4.trans H5) (by rw [abw _ _ _ _ (Nat.le_refl _)]; exact hn4) hR4
   ·have h2' : ¬ (2 : Int) ≤ ((b - i2 : Nat) : Int) := by omega
    rw [if_neg h2] at hR4
    simp only [h2', decide_false, Eng.cond_false]
    exact hK _ _ _ H4 hn4 hR4
  have fin : ∀ w' (x : List Value) d5, gv x 0 = .int .i64 i2 → Rf w w' g e cap d5 → d5.size = n → partialIns ltInt a b s i2 d5 = R →
    PiI w g e cap n a b R [gv x 0, gv x 1, gv x 2, gv x 3, .int .i64 (IntKind.i64.wrap (((4 - s : Nat) : Int) + 1))] w' ∧ 5 - ms [gv x 0, gv x 1, gv x 2, gv x 3, .int .i64 (IntKind.i64.wrap (((4 - s : Nat) : Int) + 1))] 4 < 5 - ms [.int .i64 (i : Int), u1, u2, u3, .int .i64 ((4 - s : Nat) : Int)] 4 := by
   intro w' x d5 hx H5 hn5 hR5
   have : IntKind.i64.wrap (((4 - s : Nat) : Int) + 1) = ((5 - s : Nat) : Int) := by rw [ft (by omega) (by omega)]; omega
   rw [this, hx]
   refine ⟨⟨_, _, _, i2, s, d5, rfl, H5, hn5, by omega, by omega, by omega, hR5⟩, ?_⟩
   simp only [ms, q4]; omega
  by_cases h2 : i2 - a ≥ 2
  ·have h2' : (2 : Int) ≤ ((i2 - a : Nat) : Int) := by omega
   rw [if_pos h2] at hR
   simp only [fo, h2', decide_true, Eng.cond_true]
   refine aiq H3.row hn3 h6 (by omega) fun w4 v H4 => ?_
   refine tail _ _ _ (H3.trans H4) (by rw [tm]; exact hn3) hR _ _ _ fun w' v d5 H5 hn5 hR5 => ?_
   exact fin w' [.int .i64 (i2 : Int), _, _, v] d5 rfl H5 hn5 hR5
  ·have h2' : ¬ (2 : Int) ≤ ((i2 - a : Nat) : Int) := by omega
   rw [if_neg h2] at hR
   simp only [fo, h2', decide_false, Eng.cond_false]
   refine tail _ _ _ H3 hn3 hR _ _ _ fun w' v d5 H5 hn5 hR5 => ?_
   exact fin w' [.int .i64 (i2 : Int), _, _, v] d5 rfl H5 hn5 hR5
set_option maxRecDepth 100000
open Go.Eng Go.Sort
theorem Rf.xr {w w' w'' : World} {g cap sb : Nat} {e : TypeId} {d : Array Int} (h : Rf w w' g e cap d) (f : Fr (fun b => b = sb) w' w'') (hs : w.heap.size ≤ sb) (hne : sb ≠ g) : Rf w w'' g e cap d :=
 ⟨h.row.fr f fun h => hne h.symm, h.fr.jq f fun b hb he => by omega⟩
theorem Rf.new {w w' : World} {g cap : Nat} {e : TypeId} {d : Array Int} (h : Rf w w' g e cap d) (o : Obj) : Rf w (w'.alloc o) g e cap d :=
 ⟨h.row.fr ((Fr.refl (fun _ => False) w').alloc o) fun h => h, h.fr.alloc o⟩
def Sw (w : World) (sb : Nat) : Prop := ∃ x e, w.heap[sb]? = some (.cells #[.int .i64 x] e (0, 0))
theorem vm {w : World} {g cap n sb : Nat} {e : TypeId} {d : Array Int} (H : Rw w g e cap d) (hn : d.size = n) (S : Sw w sb) (hne : sb ≠ g) {a b : Nat} (ha : a < n) (hb : b < n) {K : KV}
  (h : ∀ w' x y, (x = a ∧ y = b ∨ x = b ∧ y = a) → Sw w' sb → Fr (fun b => b = sb) w w' → K (.tuple #[.int .i64 (x : Nat), .int .i64 (y : Nat)]) w') :
  fk P F.u [.slice (some ⟨g, 0, none⟩) n cap, .int .i64 a, .int .i64 b, .pointer (some ⟨sb, 0, none⟩)] w K := by
 rw [M.cf.fcall]
 apply M.cf.calls
 unfold M.cf
 have a1 := H.at (show a < d.size by omega)
 have a2 := H.at (show b < d.size by omega)
 have b1 : (a : Int) < n := by omega
 have b2 : (b : Int) < n := by omega
 simp [b1, b2, a1, a2]
 refine kh _ _ ?_
 obtain ⟨x, e', hx⟩ := S
 cases hl : ltInt d[b]! d[a]! with
 | false =>
  simp
  exact h _ a b (.inl ⟨rfl, rfl⟩) ⟨x, e', hx⟩ ((Fr.refl _ _).dr 1)
 | true =>
  have c0 := fy hx 0
  have f0 := mj hx 0
  simp only [List.size_toArray, List.getElem?_toArray, List.getElem?_cons_zero] at c0
  simp [c0, f0]
  exact h _ b a (.inr ⟨rfl, rfl⟩) ⟨IntKind.i64.wrap (x + 1), e', abo hx⟩ (((Fr.refl (fun b => b = sb) w).dr 1).setCell (.inl rfl) _ _)
theorem aab {w : World} {g cap n sb : Nat} {e : TypeId} {d : Array Int} (H : Rw w g e cap d) (hn : d.size = n) (S : Sw w sb) (hne : sb ≠ g) {a b c : Nat} (ha : a < n) (hb : b < n) (hc : c < n) {K : KV}
  (h : ∀ w' x, (x = a ∨ x = b ∨ x = c) → Sw w' sb → Fr (fun b => b = sb) w w' → K (.int .i64 (x : Nat)) w') :
  fk P F.t [.slice (some ⟨g, 0, none⟩) n cap, .int .i64 a, .int .i64 b, .int .i64 c, .pointer (some ⟨sb, 0, none⟩)] w K := by
 rw [M.ce.fcall]
 apply M.ce.calls
 unfold M.ce
 refine vm H hn S hne ha hb fun w1 x1 y1 h1 S1 f1 => ?_
 simp
 have H1 := H.fr f1 fun h => hne h.symm
 refine vm H1 hn S1 hne (a := y1) (b := c) (by omega) hc fun w2 x2 y2 h2 S2 f2 => ?_
 simp
 have H2 := H1.fr f2 fun h => hne h.symm
 refine vm H2 hn S2 hne (a := x1) (b := x2) (by omega) (by omega) fun w3 x3 y3 h3 S3 f3 => ?_
 simp
 exact h w3 y3 (by omega) S3 ((f1.trans f2).trans f3)
theorem abv {w : World} {g cap n sb : Nat} {e : TypeId} {d : Array Int} (H : Rw w g e cap d) (hn : d.size = n) (h6 : n < 100000) (S : Sw w sb) (hne : sb ≠ g) {a : Nat} (ha : 1 ≤ a) (hb : a + 1 < n) {K : KV}
  (h : ∀ w' x, (x = a - 1 ∨ x = a ∨ x = a + 1) → Sw w' sb → Fr (fun b => b = sb) w w' → K (.int .i64 (x : Nat)) w') :
  fk P F.f [.slice (some ⟨g, 0, none⟩) n cap, .int .i64 a, .pointer (some ⟨sb, 0, none⟩)] w K := by
 rw [M.bf.fcall]
 apply M.bf.calls
 unfold M.bf
 have hw1 : IntKind.i64.wrap ((a : Int) - 1) = ((a - 1 : Nat) : Int) := by rw [ft (by omega) (by omega)]; omega
 have hw2 : IntKind.i64.wrap ((a : Int) + 1) = ((a + 1 : Nat) : Int) := jz (by omega)
 simp only [jm, ji, hw1, hw2]
 refine aab H hn S hne (by omega) (by omega) (by omega) fun w' x hx S' f' => ?_
 exact h w' x hx S' f'
theorem ain {w : World} {g cap n : Nat} {e : TypeId} {d : Array Int} (H : Rw w g e cap d) (hn : d.size = n) (h6 : n < 100000) {a b : Nat} (hb : b ≤ n) (hab : a + 12 < b) {K : KV}
  (h : ∀ w' (p hint : Nat), a ≤ p → p < b → hint ≤ 2 → Rf w w' g e cap d → K (.tuple #[.int .i64 (p : Nat), .int .i64 (hint : Nat)]) w') :
  jb P F.ah [.slice (some ⟨g, 0, none⟩) n cap, .int .i64 a, .int .i64 b] w K := by
 apply M.aa.calls
 unfold M.aa
 have hw0 : IntKind.i64.wrap ((b : Int) - a) = ((b - a : Nat) : Int) := oo (by omega) (by omega)
 generalize hl : b - a = l at *
 have q4 : IntKind.i64.wrap (((l : Nat) : Int).tdiv 4) = ((l / 4 : Nat) : Int) := by rw [Int.tdiv_eq_ediv_of_nonneg (by omega), ft (by omega) (by omega)]; omega
 have m1 : IntKind.i64.wrap (((l / 4 : Nat) : Int) * 1) = ((l / 4 : Nat) : Int) := by rw [ft (by omega) (by omega)]; omega
 have m2 : IntKind.i64.wrap (((l / 4 : Nat) : Int) * 2) = ((l / 4 * 2 : Nat) : Int) := by rw [ft (by omega) (by omega)]; omega
 have m3 : IntKind.i64.wrap (((l / 4 : Nat) : Int) * 3) = ((l / 4 * 3 : Nat) : Int) := by rw [ft (by omega) (by omega)]; omega
 have s1 : IntKind.i64.wrap ((a : Int) + ((l / 4 : Nat) : Int)) = ((a + l / 4 : Nat) : Int) := by rw [ft (by omega) (by omega)]; omega
 have s2 : IntKind.i64.wrap ((a : Int) + ((l / 4 * 2 : Nat) : Int)) = ((a + l / 4 * 2 : Nat) : Int) := by rw [ft (by omega) (by omega)]; omega
 have s3 : IntKind.i64.wrap ((a : Int) + ((l / 4 * 3 : Nat) : Int)) = ((a + l / 4 * 3 : Nat) : Int) := by rw [ft (by omega) (by omega)]; omega
 have bq : ∀ (x : Int) (t : TypeId) (rx ry : Operand) (w : World) (K : KV), fj P .quo t rx ry (.int .i64 x) (.int .i64 4) w K = K (.int .i64 (IntKind.i64.wrap (x.tdiv 4))) w := fun x t rx ry w K => aay (by decide)
 have al : ∀ (w : World) (K : KV), alT P T.b w K = K (.pointer (some ⟨w.heap.size, 0, none⟩)) (w.alloc (.cells #[.int .i64 0] T.b)) := fun w K => Eq.trans (by kernel_rfl) rfl
 have c8 : (8 : Int) ≤ (l : Int) := by omega
 simp only [jm, ji, tg, bq, hw0, q4, m1, m2, m3, s1, s2, s3, al, li, c8, decide_true, Eng.cond_true]
 clear q4 m1 m2 m3 s1 s2 s3 bq al c8 hw0
 have H0 := H.nr.new (.cells #[.int .i64 0] T.b)
 have S0 : Sw (w.alloc (.cells #[.int .i64 0] T.b)) w.heap.size := ⟨0, T.b, by rw [gm, if_pos rfl]⟩
 have hne : w.heap.size ≠ g := by have := H.lt; omega
 generalize w.alloc (.cells #[.int .i64 0] T.b) = w0 at *
 have fin : ∀ (w1 : World) (p : Nat) (v1 v2 : Value), a ≤ p → p < b → Rf w w1 g e cap d → Sw w1 w.heap.size → M.aa.j0 (.pointer (some ⟨w.heap.size, 0, none⟩)) [v1, .int .i64 (p : Nat), v2] w1 K := by
  intro w1 p v1 v2 hp1 hp2 H1 S1
  obtain ⟨x, e', hx⟩ := S1
  unfold M.aa.j0
  have c0 := fy hx 0
  simp only [List.size_toArray, List.getElem?_toArray, List.getElem?_cons_zero] at c0
  have q1 : ∀ a b c : Value, gv [a, b, c] 1 = b := fun _ _ _ => rfl
  by_cases x0 : x = 0
  ·simp [c0, q1, x0]
   exact h w1 p 1 hp1 hp2 (by decide) H1
  by_cases x12 : x = 12
  ·simp [c0, q1, x12]
   exact h w1 p 2 hp1 hp2 (by decide) H1
  ·simp [c0, q1, x0, x12]
   exact h w1 p 0 hp1 hp2 (by decide) H1
 simp only [fo]
 have kb : ∀ (w1 : World) (x y z : Nat), a ≤ x → x < b → a ≤ y → y < b → a ≤ z → z < b → Rf w w1 g e cap d → Sw w1 w.heap.size →
   fk P F.t [.slice (some ⟨g, 0, none⟩) n cap, gv [.int .i64 (x : Int), .int .i64 (y : Int), .int .i64 (z : Int)] 0, gv [.int .i64 (x : Int), .int .i64 (y : Int), .int .i64 (z : Int)] 1, gv [.int .i64 (x : Int), .int .i64 (y : Int), .int .i64 (z : Int)] 2, .pointer (some ⟨w.heap.size, 0, none⟩)] w1 fun t48 w' =>
    M.aa.j0 (.pointer (some ⟨w.heap.size, 0, none⟩)) [gv [.int .i64 (x : Int), .int .i64 (y : Int), .int .i64 (z : Int)] 0, t48, gv [.int .i64 (x : Int), .int .i64 (y : Int), .int .i64 (z : Int)] 2] w' K := by
  intro w1 x y z hx1 hx2 hy1 hy2 hz1 hz2 H1 S1
  refine aab H1.row hn S1 hne (a := x) (b := y) (c := z) (by omega) (by omega) (by omega) fun w2 p hp S2 f2 => ?_
  exact fin w2 p _ _ (by omega) (by omega) (H1.xr f2 (Nat.le_refl _) hne) S2
 by_cases h50 : 50 ≤ l
 ·have h50' : (50 : Int) ≤ (l : Int) := by omega
  simp only [h50', decide_true, Eng.cond_true]
  refine abv H0.row hn h6 S0 hne (by omega) (by omega) fun w1 x hx S1 f1 => ?_
  have H1 := H0.xr f1 (Nat.le_refl _) hne
  refine abv H1.row hn h6 S1 hne (by omega) (by omega) fun w2 y hy S2 f2 => ?_
  have H2 := H1.xr f2 (Nat.le_refl _) hne
  refine abv H2.row hn h6 S2 hne (by omega) (by omega) fun w3 z hz S3 f3 => ?_
  have H3 := H2.xr f3 (Nat.le_refl _) hne
  exact kb w3 x y z (by omega) (by omega) (by omega) (by omega) (by omega) (by omega) H3 S3
 ·have h50' : ¬ (50 : Int) ≤ (l : Int) := by omega
  simp only [h50', decide_false, Eng.cond_false]
  exact kb w0 (a + l / 4) (a + l / 4 * 2) (a + l / 4 * 3) (by omega) (by omega) (by omega) (by omega) (by omega) (by omega) H0 S0
def BpI (w : World) (g : Nat) (e : TypeId) (cap n a b idx0 : Nat) (d : Array Int) : KL := fun x w1 => ∃ (u : Value) (k : Nat) (d1 : Array Int) (r : Int), x = [u, .int .i64 ((idx0 + k : Nat) : Int)] ∧ Rf w w1 g e cap d1 ∧ d1.size = n ∧ k ≤ 3 ∧ PermIn a b d d1 ∧ 0 ≤ r ∧ r < 18446744073709551616 ∧ w1.heap[w.heap.size]? = some (.cells #[.int .u64 r] T.u (0, 0))
theorem ajg {w : World} {g cap n : Nat} {e : TypeId} {d : Array Int} (H : Rw w g e cap d) (hn : d.size = n) (h6 : n < 60000) {a b : Nat} (hb : b ≤ n) (hab : a + 12 < b) {K : KV}
  (h : ∀ w' d', PermIn a b d d' → Rf w w' g e cap d' → K (.tuple #[]) w') :
  jb P F.aa [.slice (some ⟨g, 0, none⟩) n cap, .int .i64 a, .int .i64 b] w K := by
 apply M.m.calls
 unfold M.m
 have hw0 : IntKind.i64.wrap ((b : Int) - a) = ((b - a : Nat) : Int) := oo (by omega) (by omega)
 have hlb : a + (b - a) = b := by omega
 generalize hl : b - a = l at *
 have bq : ∀ (x : Int) (t : TypeId) (rx ry : Operand) (w : World) (K : KV), fj P .quo t rx ry (.int .i64 x) (.int .i64 4) w K = K (.int .i64 (IntKind.i64.wrap (x.tdiv 4))) w := fun x t rx ry w K => aay (by decide)
 have q4 : IntKind.i64.wrap (((l : Nat) : Int).tdiv 4) = ((l / 4 : Nat) : Int) := by rw [Int.tdiv_eq_ediv_of_nonneg (by omega), ft (by omega) (by omega)]; omega
 have m2 : IntKind.i64.wrap (((l / 4 : Nat) : Int) * 2) = ((l / 4 * 2 : Nat) : Int) := by rw [ft (by omega) (by omega)]; omega
 have s2 : IntKind.i64.wrap ((a : Int) + ((l / 4 * 2 : Nat) : Int)) = ((a + l / 4 * 2 : Nat) : Int) := by rw [ft (by omega) (by omega)]; omega
 have s3 : IntKind.i64.wrap (((a + l / 4 * 2 : Nat) : Int) - 1) = ((a + l / 4 * 2 - 1 + 0 : Nat) : Int) := by rw [ft (by omega) (by omega)]; omega
 have s4 : IntKind.i64.wrap (((a + l / 4 * 2 : Nat) : Int) + 1) = ((a + l / 4 * 2 + 1 : Nat) : Int) := jz (by omega)
 have c8 : (8 : Int) ≤ (l : Int) := by omega
 have i64B : qx P T.b .i64 = true := by kernel_rfl
 have uB : qx P T.bb .u64 = true := by kernel_rfl
 have xB : qx P T.u .u64 = true := by kernel_rfl
 simp only [jm, hw0, li, c8, decide_true, Eng.cond_true]
 rw [lw i64B xB, yk (by omega)]
 have hx0 : (w.alloc (.cells #[.int .u64 0] T.u)).heap[w.heap.size]? = some (.cells #[.int .u64 0] T.u (0, 0)) := by rw [gm, if_pos rfl]
 have H0 := H.nr.new (.cells #[.int .u64 0] T.u)
 have hne : w.heap.size ≠ g := by have := H.lt; omega
 have c0 := fy hx0 0
 have f0 := mj hx0 0
 simp only [List.size_toArray, List.getElem?_toArray, List.getElem?_cons_zero] at c0
 simp [c0, f0, -fo]
 have hx1 : ((w.alloc (.cells #[.int .u64 0] T.u)).setCell ⟨w.heap.size, 0, none⟩ (.int .u64 l)).heap[w.heap.size]? = some (.cells #[.int .u64 l] T.u (0, 0)) := kt hx0
 have H1 := H0.xr ((Fr.refl (fun b => b = w.heap.size) _).setCell (.inl rfl) 0 (.int .u64 (l : Int))) (Nat.le_refl _) hne
 generalize (w.alloc (.cells #[.int .u64 0] T.u)).setCell ⟨w.heap.size, 0, none⟩ (.int .u64 (l : Int)) = w1 at *
 rw [M.cn.fcall]
 refine asx (by omega) ?_
 have hp2 : 2 ^ bitsLen l ≤ 2 * l := two_pow_bitsLen_le (by omega)
 have hp1 : 0 < 2 ^ bitsLen l := Nat.pow_pos (by decide)
 simp only [bq, q4, tg, m2, ji, s2, jm, s3]
 generalize 2 ^ bitsLen l = md at *
 generalize hi0 : a + l / 4 * 2 - 1 = i0 at *
 refine ⟨BpI w g e cap n a b i0 d, fun x _ => i0 + 3 - ms x 1, ⟨_, 0, d, l, rfl, H1, hn, by omega, permIn_refl d a b, by omega, by omega, hx1⟩, ?_⟩
 rintro x w2 ⟨u, k, d2, r, rfl, H2, hn2, hk, hP, hr0, hr1, hx2⟩
 unfold M.m.j0
 simp only [fo, bq, q4, tg, m2, ji, s2, s4, g21, yx]
 by_cases hk3 : k < 3
 ·have hle : ((i0 + k : Nat) : Int) ≤ ((a + l / 4 * 2 + 1 : Nat) : Int) := by omega
  simp only [hle, decide_true, Eng.cond_true]
  unfold M.m.j1
  simp only [fo, g21]
  rw [M.co.fcall]
  refine akt hx2 fun w3 y hy0 hy1 hx3 f3 => ?_
  have H3 := H2.xr f3 (Nat.le_refl _) hne
  obtain ⟨z, rfl⟩ : ∃ z : Nat, y = z := ⟨y.toNat, by omega⟩
  have hm1 : IntKind.u64.wrap ((md : Int) - 1) = ((md - 1 : Nat) : Int) := by rw [yq (by omega) (by omega)]; omega
  have hand : (BitVec.ofInt IntKind.u64.bits (z : Int) &&& BitVec.ofInt IntKind.u64.bits ((md - 1 : Nat) : Int)).toNat ≤ md - 1 := ayi (x := z) (y := md - 1) (by omega) (by omega)
  simp only [jm, hm1, alp]
  generalize (BitVec.ofInt IntKind.u64.bits (z : Int) &&& BitVec.ofInt IntKind.u64.bits ((md - 1 : Nat) : Int)).toNat = o at *
  rw [yk (by omega), lw uB i64B, aks (by omega)]
  have tail : ∀ (o : Nat), o < l → M.m.j3 (.int .i64 a) [.int .i64 (o : Nat)] (.slice (some ⟨g, 0, none⟩) n cap) [u, .int .i64 ((i0 + k : Nat) : Int)] (fun x2 w' => BpI w g e cap n a b i0 d [gv x2 0, .int .i64 (IntKind.i64.wrap (((i0 + k : Nat) : Int) + 1))] w' ∧ i0 + 3 - ms [gv x2 0, .int .i64 (IntKind.i64.wrap (((i0 + k : Nat) : Int) + 1))] 1 < i0 + 3 - ms [u, .int .i64 ((i0 + k : Nat) : Int)] 1) w3 K := by
   intro o ho
   unfold M.m.j3
   have wr : IntKind.i64.wrap ((a : Int) + (o : Int)) = ((a + o : Nat) : Int) := by rw [ft (by omega) (by omega)]; omega
   have a1 := H3.row.at (show i0 + k < d2.size by omega)
   have a2 := H3.row.at (show a + o < d2.size by omega)
   have b1 : ((i0 + k : Nat) : Int) < n := by omega
   have b2 : ((a + o : Nat) : Int) < n := by omega
   have f1 := H3.row.frz (i0 + k)
   have f2 := H3.row.frz (a + o)
   simp [g0, g21, wr, b1, b2, a1, a2, f1, f2, gx, ic, -Int.natCast_add]
   have hw5 : IntKind.i64.wrap (((i0 + k : Nat) : Int) + 1) = ((i0 + (k + 1) : Nat) : Int) := by rw [ft (by omega) (by omega)]; omega
   rw [hw5]
   refine ⟨⟨_, k + 1, _, z, rfl, (H3.dr 1).swp (by omega) (by omega), by rw [size_swp]; exact hn2, by omega, permIn_trans _ _ _ a b hP (swp_permIn _ a b _ _ (by omega) (by omega) (by omega) (by omega) (by omega)), by omega, by omega, ?_⟩, ?_⟩
   ·rw [aam (by omega), aam (by omega)]; exact hx3
   ·simp only [ms, g21]; omega
  simp only [fo, li, ji]
  by_cases hol : l ≤ o
  ·have hol' : (l : Int) ≤ o := by omega
   have hwo : IntKind.i64.wrap ((o : Int) - l) = ((o - l : Nat) : Int) := oo (by omega) (by omega)
   simp only [hol', decide_true, Eng.cond_true, jm, hwo]
   exact tail (o - l) (by omega)
  ·have hol' : ¬ (l : Int) ≤ o := by omega
   simp only [hol', decide_false, Eng.cond_false]
   exact tail o (by omega)
 ·have hle : ¬ ((i0 + k : Nat) : Int) ≤ ((a + l / 4 * 2 + 1 : Nat) : Int) := by omega
  simp only [hle, decide_false, Eng.cond_false]
  exact h w2 d2 hP H2
section
theorem f5 (a0 a1 a2 a3 a4 a5 a6 a7 a8 a9 a10 a11 a12 a13 : Value) : gv [a0, a1, a2, a3, a4, a5, a6, a7, a8, a9, a10, a11, a12, a13] 5 = a5 := rfl
theorem f13 (a0 a1 a2 a3 a4 a5 a6 a7 a8 a9 a10 a11 a12 a13 : Value) : gv [a0, a1, a2, a3, a4, a5, a6, a7, a8, a9, a10, a11, a12, a13] 13 = a13 := rfl
end
structure bby (w w1 : World) (g : Nat) (e : TypeId) (cap n a0 b0 : Nat) (d0 : Array Int) (a b limit : Nat) (wb wp : Bool) (d : Array Int) : Prop where
 rf : Rf w w1 g e cap d
 sz : d.size = n
 ab : a ≤ b
 bb : b - a ≤ b0 - a0
 bn : b ≤ n
 be : Below ltInt a b d
 fin : ∀ R, PermIn a b d R → SortedIn ltInt a b R → PermIn a0 b0 d0 R ∧ SortedIn ltInt a0 b0 R
def PdI (w : World) (g : Nat) (e : TypeId) (cap n a0 b0 : Nat) (d0 : Array Int) : KL := fun x w1 => ∃ (u0 u2 u3 u4 u6 u7 u9 u10 u11 : Value) (a b limit : Nat) (wb wp : Bool) (d : Array Int),
 x = [u0, .int .i64 (limit : Nat), u2, u3, u4, .int .i64 (a : Nat), u6, u7, .bool wp, u9, u10, u11, .bool wb, .int .i64 (b : Nat)] ∧ limit < 1000 ∧ bby w w1 g e cap n a0 b0 d0 a b limit wb wp d
def IH (m : Nat) : Prop := ∀ {w : World} {g cap n : Nat} {e : TypeId} {d : Array Int} (_ : Rw w g e cap d) (_ : d.size = n) (_ : n < 60000) {a b limit : Nat} (_ : b - a ≤ m) (_ : a ≤ b) (_ : b ≤ n) (_ : limit < 1000) (_ : Below ltInt a b d) {K : KV}
  (_ : ∀ w' d', PermIn a b d d' → SortedIn ltInt a b d' → Rf w w' g e cap d' → K (.tuple #[]) w'), jb P F.q [.slice (some ⟨g, 0, none⟩) n cap, .int .i64 a, .int .i64 b, .int .i64 limit] w K
section
variable {m : Nat} {w : World} {g cap n : Nat} {e : TypeId} {d d5 : Array Int} {a0 b0 a b pv hint4 lim2 : Nat} {wb wp : Bool} {x0 : List Value} {K : KV}
theorem aec (ih : IH m) (h6 : n < 60000) (hm : b0 - a0 ≤ m + 1) (hbb : b - a ≤ b0 - a0) (hbn : b ≤ n) (hab : a ≤ b) (hpv1 : a ≤ pv) (hpv2 : pv < b) (hlim2 : lim2 < 1000) {w5 : World} (H5 : Rf w w5 g e cap d5) (hn5 : d5.size = n) (B5 : Below ltInt a b d5)
  (hfin5 : ∀ R, PermIn a b d5 R → SortedIn ltInt a b R → PermIn a0 b0 d R ∧ SortedIn ltInt a0 b0 R) (e5 : gv x0 5 = .int .i64 (a : Nat)) (e8 : gv x0 8 = .bool wp) (e12 : gv x0 12 = .bool wb) (e13 : gv x0 13 = .int .i64 (b : Nat)) (m5 : ms x0 5 = a) (m13 : ms x0 13 = b) (v0 : Value) :
  M.c.j6 (.slice (some ⟨g, 0, none⟩) n cap) [v0, .int .i64 (a : Nat)] x0 [.int .i64 (pv : Nat), .int .i64 (hint4 : Nat)] (.int .i64 ((b - a : Nat) : Int)) [.int .i64 (lim2 : Nat)] (fun x' w' => PdI w g e cap n a0 b0 d x' w' ∧ ms x' 13 - ms x' 5 < ms x0 13 - ms x0 5) w5 K := by
 unfold M.c.j6
 simp only [g20, g21, e13]
 rw [M.d.fcall]
 refine acg H5.row hn5 (by omega) hbn hpv1 hpv2 fun w7 H7 => ?_
 have H7' := H5.trans H7
 obtain ⟨r1, r2, r3, rBa, rBr, rL, rR⟩ := round_part swo_ltInt (partition_holds ltInt) hpv1 hpv2 (by omega) B5 (show partition ltInt d5 a b pv = ((partition ltInt d5 a b pv).1, (partition ltInt d5 a b pv).2.1, (partition ltInt d5 a b pv).2.2) from rfl)
 generalize (partition ltInt d5 a b pv).1 = mid at *
 generalize (partition ltInt d5 a b pv).2.1 = ap at *
 generalize (partition ltInt d5 a b pv).2.2 = d7 at *
 have hn7 : d7.size = n := by omega
 have wl : IntKind.i64.wrap ((mid : Int) - a) = ((mid - a : Nat) : Int) := oo (by omega) (by omega)
 have wr : IntKind.i64.wrap ((b : Int) - mid) = ((b - mid : Nat) : Int) := oo (by omega) (by omega)
 have wm : IntKind.i64.wrap ((mid : Int) + 1) = ((mid + 1 : Nat) : Int) := jz (by omega)
 have bq : ∀ (x : Int) (t : TypeId) (rx ry : Operand) (w : World) (K : KV), fj P .quo t rx ry (.int .i64 x) (.int .i64 8) w K = K (.int .i64 (IntKind.i64.wrap (x.tdiv 8))) w := fun x t rx ry w K => aay (by decide)
 simp only [zw, zz, g0, jm, wl, wr, bq, kf, li]
 by_cases hlt : mid - a < b - mid
 ·have hlt' : ((mid - a : Nat) : Int) < ((b - mid : Nat) : Int) := by omega
  simp only [hlt', decide_true, Eng.cond_true]
  rw [M.c.fcall]
  refine ih H7.row hn7 h6 (by omega) r1 (by omega) hlim2 rBa fun w8 d8 P8 S8 H8 => ?_
  obtain ⟨hBL, hfinL⟩ := rL d8 P8 S8
  simp only [ji, wm]
  refine ⟨⟨_, _, _, _, _, _, _, _, _, mid + 1, b, lim2, _, ap, d8, rfl, hlim2, ⟨H7'.trans H8, by rw [P8.1]; exact hn7, by omega, by omega, hbn, hBL, fun R h1 h2 => ?_⟩⟩, ?_⟩
  ·obtain ⟨k1, k2⟩ := hfinL R h1 h2
   exact hfin5 R k1 k2
  ·have : ∀ y0 y1 y2 y3 y4 y6 y7 y8 y9 y10 y11 y12 : Value, ms [y0, y1, y2, y3, y4, .int .i64 ((mid + 1 : Nat) : Int), y6, y7, y8, y9, y10, y11, y12, .int .i64 (b : Nat)] 13 = b ∧ ms [y0, y1, y2, y3, y4, .int .i64 ((mid + 1 : Nat) : Int), y6, y7, y8, y9, y10, y11, y12, .int .i64 (b : Nat)] 5 = mid + 1 := fun _ _ _ _ _ _ _ _ _ _ _ _ => ⟨rfl, rfl⟩
   rw [(this _ _ _ _ _ _ _ _ _ _ _ _).1, (this _ _ _ _ _ _ _ _ _ _ _ _).2, m5, m13]; omega
 ·have hlt' : ¬ ((mid - a : Nat) : Int) < ((b - mid : Nat) : Int) := by omega
  simp only [hlt', decide_false, Eng.cond_false, ji, wm]
  rw [M.c.fcall]
  refine ih H7.row hn7 h6 (by omega) (by omega) hbn hlim2 rBr fun w8 d8 P8 S8 H8 => ?_
  obtain ⟨hBL, hfinL⟩ := rR d8 P8 S8
  refine ⟨⟨_, _, _, _, _, _, _, _, _, a, mid, lim2, _, ap, d8, rfl, hlim2, ⟨H7'.trans H8, by rw [P8.1]; exact hn7, by omega, by omega, by omega, hBL, fun R h1 h2 => ?_⟩⟩, ?_⟩
  ·obtain ⟨k1, k2⟩ := hfinL R h1 h2
   exact hfin5 R k1 k2
  ·have : ∀ y0 y1 y2 y3 y4 y6 y7 y8 y9 y10 y11 y12 : Value, ms [y0, y1, y2, y3, y4, .int .i64 (a : Nat), y6, y7, y8, y9, y10, y11, y12, .int .i64 (mid : Nat)] 13 = mid ∧ ms [y0, y1, y2, y3, y4, .int .i64 (a : Nat), y6, y7, y8, y9, y10, y11, y12, .int .i64 (mid : Nat)] 5 = a := fun _ _ _ _ _ _ _ _ _ _ _ _ => ⟨rfl, rfl⟩
   rw [(this _ _ _ _ _ _ _ _ _ _ _ _).1, (this _ _ _ _ _ _ _ _ _ _ _ _).2, m5, m13]; omega
theorem aug (ih : IH m) (h6 : n < 60000) (hm : b0 - a0 ≤ m + 1) (hbb : b - a ≤ b0 - a0) (hbn : b ≤ n) (hab : a ≤ b) (hpv1 : a ≤ pv) (hpv2 : pv < b) (hlim2 : lim2 < 1000) {w5 : World} (H5 : Rf w w5 g e cap d5) (hn5 : d5.size = n) (B5 : Below ltInt a b d5)
  (hfin5 : ∀ R, PermIn a b d5 R → SortedIn ltInt a b R → PermIn a0 b0 d R ∧ SortedIn ltInt a0 b0 R) (e5 : gv x0 5 = .int .i64 (a : Nat)) (e8 : gv x0 8 = .bool wp) (e12 : gv x0 12 = .bool wb) (e13 : gv x0 13 = .int .i64 (b : Nat)) (m5 : ms x0 5 = a) (m13 : ms x0 13 = b) :
  M.c.j5 x0 (.slice (some ⟨g, 0, none⟩) n cap) [.int .i64 (pv : Nat), .int .i64 (hint4 : Nat)] (fun x' w' => PdI w g e cap n a0 b0 d x' w' ∧ ms x' 13 - ms x' 5 < ms x0 13 - ms x0 5) (.int .i64 ((b - a : Nat) : Int)) [.int .i64 (lim2 : Nat)] w5 K := by
 unfold M.c.j5
 simp only [fo, pw, nv, e5, e13, g20, true_and, and_true, nn, rk]
 by_cases ha0 : 0 < a
 ·have ha0' : (0 : Int) < (a : Int) := by omega
  have hwa : IntKind.i64.wrap ((a : Int) - 1) = ((a - 1 : Nat) : Int) := by rw [ft (by omega) (by omega)]; omega
  have a1 := H5.row.at (show a - 1 < d5.size by omega)
  have a2 := H5.row.at (show pv < d5.size by omega)
  have b1 : ((a - 1 : Nat) : Int) < n := by omega
  have b2 : (pv : Int) < n := by omega
  simp [ha0, ha0', hwa, a1, a2, b1, b2]
  refine kh _ _ ?_
  cases hl : ltInt d5[a - 1]! d5[pv]! with
  | true =>
   simp
   exact aec ih h6 hm hbb hbn hab hpv1 hpv2 hlim2 (H5.dr 1) hn5 B5 hfin5 e5 e8 e12 e13 m5 m13 _
  | false =>
   simp
   rw [M.g.fcall]
   refine wh (H5.dr 1).row hn5 (by omega) hbn hpv1 hpv2 fun w7 H7 => ?_
   have H7' := (H5.dr 1).trans H7
   obtain ⟨r1, r2, r3, rB, rF⟩ := round_eq swo_ltInt (partitionEqual_holds ltInt) ha0 hpv1 hpv2 (by omega) B5 hl (show partitionEqual ltInt d5 a b pv = ((partitionEqual ltInt d5 a b pv).1, (partitionEqual ltInt d5 a b pv).2) from rfl)
   generalize (partitionEqual ltInt d5 a b pv).1 = mid at *
   generalize (partitionEqual ltInt d5 a b pv).2 = d7 at *
   have hn7 : d7.size = n := by omega
   refine ⟨⟨_, _, _, _, _, _, _, _, _, mid, b, lim2, wb, wp, d7, by rw [e8, e12], hlim2, ⟨H7', hn7, r2, by omega, hbn, rB, fun R h1 h2 => ?_⟩⟩, ?_⟩
   ·obtain ⟨k1, k2⟩ := rF R h1 h2
    exact hfin5 R k1 k2
   ·have : ∀ y0 y1 y2 y3 y4 y6 y7 y8 y9 y10 y11 y12 : Value, ms [y0, y1, y2, y3, y4, .int .i64 (mid : Nat), y6, y7, y8, y9, y10, y11, y12, .int .i64 (b : Nat)] 13 = b ∧ ms [y0, y1, y2, y3, y4, .int .i64 (mid : Nat), y6, y7, y8, y9, y10, y11, y12, .int .i64 (b : Nat)] 5 = mid := fun _ _ _ _ _ _ _ _ _ _ _ _ => ⟨rfl, rfl⟩
    rw [(this _ _ _ _ _ _ _ _ _ _ _ _).1, (this _ _ _ _ _ _ _ _ _ _ _ _).2, m5, m13]; omega
 ·have ha0' : ¬ (0 : Int) < (a : Int) := by omega
  simp [ha0, ha0']
  exact aec ih h6 hm hbb hbn hab hpv1 hpv2 hlim2 (H5.dr 1) hn5 B5 hfin5 e5 e8 e12 e13 m5 m13 _
theorem adh {d1 : Array Int} (ih : IH m) (h6 : n < 60000) (hm : b0 - a0 ≤ m + 1) (hbb : b - a ≤ b0 - a0) (hbn : b ≤ n) (hab : a ≤ b) (hlim2 : lim2 < 1000) (h12 : ¬ b - a ≤ 12) (hn1 : d1.size = n) (hB1 : Below ltInt a b d1)
  (hfin : ∀ R, PermIn a b d1 R → SortedIn ltInt a b R → PermIn a0 b0 d R ∧ SortedIn ltInt a0 b0 R) (h : ∀ w' d', PermIn a0 b0 d d' → SortedIn ltInt a0 b0 d' → Rf w w' g e cap d' → K (.tuple #[]) w')
  (e5 : gv x0 5 = .int .i64 (a : Nat)) (e8 : gv x0 8 = .bool wp) (e12 : gv x0 12 = .bool wb) (e13 : gv x0 13 = .int .i64 (b : Nat)) (m5 : ms x0 5 = a) (m13 : ms x0 13 = b) {w4 : World} {d4 : Array Int} (H4 : Rf w w4 g e cap d4) (P4 : PermIn a b d1 d4) (hpv1 : a ≤ pv) (hpv2 : pv < b) :
  M.c.j4 x0 [.int .i64 (pv : Nat), .int .i64 (hint4 : Nat)] (.slice (some ⟨g, 0, none⟩) n cap) (fun x' w' => PdI w g e cap n a0 b0 d x' w' ∧ ms x' 13 - ms x' 5 < ms x0 13 - ms x0 5) (.int .i64 ((b - a : Nat) : Int)) [.int .i64 (lim2 : Nat)] w4 K := by
 have hn4 : d4.size = n := by rw [P4.1]; exact hn1
 have B4 := hB1.perm (by omega) P4
 have st5 : ∀ (w5 : World) (d5 : Array Int), Rf w w5 g e cap d5 → PermIn a b d1 d5 →
   M.c.j5 x0 (.slice (some ⟨g, 0, none⟩) n cap) [.int .i64 (pv : Nat), .int .i64 (hint4 : Nat)] (fun x' w' => PdI w g e cap n a0 b0 d x' w' ∧ ms x' 13 - ms x' 5 < ms x0 13 - ms x0 5) (.int .i64 ((b - a : Nat) : Int)) [.int .i64 (lim2 : Nat)] w5 K := fun w5 d5 H5 P5 =>
  aug ih h6 hm hbb hbn hab hpv1 hpv2 hlim2 H5 (by rw [P5.1]; exact hn1) (hB1.perm (by omega) P5) (fun R h1 h2 => hfin R (permIn_trans _ _ _ a b P5 h1) h2) e5 e8 e12 e13 m5 m13
 unfold M.c.j4
 simp only [fo, e5, e8, e12, e13, rk, g21]
 cases wb with
 | false => simp; exact st5 w4 d4 H4 P4
 | true =>
  cases wp with
  | false => simp; exact st5 w4 d4 H4 P4
  | true =>
   by_cases hh1 : hint4 = 1
   ·have hd : decide ((hint4 : Int) = 1) = true := by rw [decide_eq_true_eq]; omega
    simp only [rk, adx, tw, beq_self_eq_true, _root_.cond_true, so, hd, Eng.cond_true]
    rw [M.a.fcall]
    refine aaf H4.row hn4 (by omega) hbn (by omega) fun w5 H5 => ?_
    have hpi := partialInsertionSort_holds swo_ltInt d4 a b (by omega) (by omega) B4
    cases hr : (partialInsertionSort ltInt d4 a b).2 with
    | true =>
     simp
     obtain ⟨p1, p2⟩ := hfin _ (permIn_trans _ _ _ a b P4 hpi.1) (hpi.2 hr)
     exact h w5 _ p1 p2 (H4.trans H5)
    | false =>
     simp
     exact st5 w5 _ (H4.trans H5) (permIn_trans _ _ _ a b P4 hpi.1)
   ·have hd : decide ((hint4 : Int) = 1) = false := by rw [decide_eq_false_iff_not]; omega
    simp only [rk, adx, tw, beq_self_eq_true, _root_.cond_true, so, hd, Eng.cond_false]
    exact st5 w4 d4 H4 P4
theorem aby {d1 : Array Int} (ih : IH m) (h6 : n < 60000) (hm : b0 - a0 ≤ m + 1) (hbb : b - a ≤ b0 - a0) (hbn : b ≤ n) (hab : a ≤ b) (hlim2 : lim2 < 1000) (h12 : ¬ b - a ≤ 12) (hn1 : d1.size = n) (hB1 : Below ltInt a b d1)
  (hfin : ∀ R, PermIn a b d1 R → SortedIn ltInt a b R → PermIn a0 b0 d R ∧ SortedIn ltInt a0 b0 R) (h : ∀ w' d', PermIn a0 b0 d d' → SortedIn ltInt a0 b0 d' → Rf w w' g e cap d' → K (.tuple #[]) w')
  (e5 : gv x0 5 = .int .i64 (a : Nat)) (e8 : gv x0 8 = .bool wp) (e12 : gv x0 12 = .bool wb) (e13 : gv x0 13 = .int .i64 (b : Nat)) (m5 : ms x0 5 = a) (m13 : ms x0 13 = b) {w2 : World} {d2 : Array Int} (H2 : Rf w w2 g e cap d2) (P2 : PermIn a b d1 d2) :
  M.c.j3 (.slice (some ⟨g, 0, none⟩) n cap) x0 (fun x' w' => PdI w g e cap n a0 b0 d x' w' ∧ ms x' 13 - ms x' 5 < ms x0 13 - ms x0 5) (.int .i64 ((b - a : Nat) : Int)) [.int .i64 (lim2 : Nat)] w2 K := by
 have hn2 : d2.size = n := by rw [P2.1]; exact hn1
 have B2 := hB1.perm (by omega) P2
 unfold M.c.j3
 simp only [e5, e13, fo]
 rw [M.aa.fcall]
 refine ain H2.row hn2 (by omega) hbn (by omega) fun w3 p hint hp1 hp2 hh H3 => ?_
 have H3' := H2.trans H3
 simp only [zw, zz, so]
 by_cases hh2 : hint = 2
 ·have hh2' : (hint : Int) = 2 := by omega
  simp only [hh2', decide_true, Eng.cond_true]
  rw [M.am.fcall]
  refine aeh H3.row hn2 (by omega) hbn (by omega) fun w4 H4 => ?_
  have hrev := reverseRange_holds d2 a b hab (by omega)
  have w1' : IntKind.i64.wrap ((b : Int) - 1) = ((b - 1 : Nat) : Int) := by rw [ft (by omega) (by omega)]; omega
  have w2' : IntKind.i64.wrap ((p : Int) - a) = ((p - a : Nat) : Int) := oo (by omega) (by omega)
  have w3' : IntKind.i64.wrap (((b - 1 : Nat) : Int) - ((p - a : Nat) : Int)) = ((b - 1 - (p - a) : Nat) : Int) := oo (by omega) (by omega)
  simp only [jm, w1', w2', w3']
  exact adh (hint4 := 1) ih h6 hm hbb hbn hab hlim2 h12 hn1 hB1 hfin h e5 e8 e12 e13 m5 m13 (H3'.trans H4) (permIn_trans _ _ _ a b P2 hrev) (by omega) (by omega)
 ·have hh2' : ¬ (hint : Int) = 2 := by omega
  simp only [hh2', decide_false, Eng.cond_false]
  exact adh ih h6 hm hbb hbn hab hlim2 h12 hn1 hB1 hfin h e5 e8 e12 e13 m5 m13 H3' P2 hp1 hp2
end
theorem aoq : ∀ (m : Nat), IH m := by
 intro m
 induction m with
 | zero =>
  intro w g cap n e d H hn h6 a b limit hm hab hb hlim hB K h
  -- nothing to sort
  have hba : b = a := by omega
  subst hba
  apply M.c.calls
  unfold M.c
  refine ⟨fun x w1 => x = [undef, .int .i64 (limit : Nat), undef, undef, undef, .int .i64 (b : Nat), undef, undef, .bool true, undef, undef, undef, .bool true, .int .i64 (b : Nat)] ∧ w1 = w, fun _ _ => 0, ⟨rfl, rfl⟩, ?_⟩
  rintro x w1 ⟨rfl, rfl⟩
  unfold M.c.j0
  have hw0 : IntKind.i64.wrap ((b : Int) - b) = 0 := by rw [ft (by omega) (by omega)]; omega
  simp only [f13, f5, jm, hw0, fo, yx]
  rw [M.h.fcall]
  simp
  refine vl H hn (by omega) hb hb fun w2 H2 => ?_
  have hi := insertionSort_holds swo_ltInt d b b (Nat.le_refl _) (by omega)
  exact h w2 _ hi.1 hi.2 H2
 | succ m ih =>
  intro w g cap n e d H hn h6 a0 b0 limit0 hm hab0 hb0 hlim0 hB K h
  apply M.c.calls
  unfold M.c
  refine ⟨PdI w g e cap n a0 b0 d, fun x _ => ms x 13 - ms x 5, ⟨_, _, _, _, _, _, _, _, _, a0, b0, limit0, true, true, d, rfl, hlim0, ⟨H.nr, hn, hab0, Nat.le_refl _, hb0, hB, fun R h1 h2 => ⟨h1, h2⟩⟩⟩, ?_⟩
  rintro x w1 ⟨u0, u2, u3, u4, u6, u7, u9, u10, u11, a, b, limit, wb, wp, d1, rfl, hlim, ⟨H1, hn1, hab, hbb, hbn, hB1, hfin⟩⟩
  generalize hx0 : [u0, .int .i64 (limit : Nat), u2, u3, u4, .int .i64 (a : Nat), u6, u7, .bool wp, u9, u10, u11, .bool wb, .int .i64 (b : Nat)] = x0
  have e1 : gv x0 1 = .int .i64 (limit : Nat) := by rw [← hx0]; rfl
  have e5 : gv x0 5 = .int .i64 (a : Nat) := by rw [← hx0]; rfl
  have e8 : gv x0 8 = .bool wp := by rw [← hx0]; rfl
  have e12 : gv x0 12 = .bool wb := by rw [← hx0]; rfl
  have e13 : gv x0 13 = .int .i64 (b : Nat) := by rw [← hx0]; rfl
  have m5 : ms x0 5 = a := by simp [ms, e5]
  have m13 : ms x0 13 = b := by simp [ms, e13]
  clear hx0
  have hw0 : IntKind.i64.wrap ((b : Int) - a) = ((b - a : Nat) : Int) := oo (by omega) (by omega)
  unfold M.c.j0
  simp only [e13, e5, jm, hw0, fo, yx]
  by_cases h12 : b - a ≤ 12
  ·have h12' : ((b - a : Nat) : Int) ≤ 12 := by omega
   simp only [h12', decide_true, Eng.cond_true]
   rw [M.h.fcall]
   refine vl H1.row hn1 (by omega) hbn (by omega) fun w2 H2 => ?_
   have hi := insertionSort_holds swo_ltInt d1 a b hab (by omega)
   obtain ⟨p1, p2⟩ := hfin _ hi.1 hi.2
   exact h w2 _ p1 p2 (H1.trans H2)
  have h12' : ¬ ((b - a : Nat) : Int) ≤ 12 := by omega
  simp only [h12', decide_false, Eng.cond_false]
  unfold M.c.j1
  simp only [e1, e5, e13, fo, so]
  by_cases hl0 : limit = 0
  ·have hl0' : (limit : Int) = 0 := by omega
   simp only [hl0', decide_true, Eng.cond_true]
   rw [M.r.fcall]
   refine acz H1.row hn1 (by omega) hbn (by omega) fun w2 H2 => ?_
   have hi := heapSort_holds swo_ltInt d1 a b hab (by omega)
   obtain ⟨p1, p2⟩ := hfin _ hi.1 hi.2
   exact h w2 _ p1 p2 (H1.trans H2)
  have hl0' : ¬ (limit : Int) = 0 := by omega
  simp only [hl0', decide_false, Eng.cond_false]
  unfold M.c.j2
  simp only [e12, e1, e5, e13, fo, apv]
  cases wb with
  | true =>
   simp
   exact aby ih h6 hm hbb hbn hab hlim h12 hn1 hB1 hfin h e5 e8 e12 e13 m5 m13 H1 (permIn_refl d1 a b)
  | false =>
   simp
   rw [M.m.fcall]
   refine ajg H1.row hn1 h6 hbn (by omega) fun w2 d2 P2 H2 => ?_
   have wl : IntKind.i64.wrap ((limit : Int) - 1) = ((limit - 1 : Nat) : Int) := by rw [ft (by omega) (by omega)]; omega
   simp only [wl]
   exact aby ih h6 hm hbb hbn hab (by omega) h12 hn1 hB1 hfin h e5 e8 e12 e13 m5 m13 (H1.trans H2) P2
theorem aly {w : World} {g cap n : Nat} {e : TypeId} {d : Array Int} (H : Rw w g e cap d) (hn : d.size = n) (h6 : n < 60000) {K : KV}
  (h : ∀ w', Rf w w' g e cap (d.toList.mergeSort fun x y => decide (x ≤ y)).toArray → K (.tuple #[]) w') : jb P F.ap [.slice (some ⟨g, 0, none⟩) n cap] w K := by
 apply M.bl.calls
 unfold M.bl
 have i64B : qx P T.b .i64 = true := by kernel_rfl
 have uB : qx P T.bb .u64 = true := by kernel_rfl
 simp
 rw [lw i64B uB, yk (by omega), M.dh.fcall]
 refine adw (by omega) ?_
 rw [M.c.fcall]
 have hlen : bitsLen n ≤ 16 := (bitsLen_le_iff n 16).2 (by omega)
 refine aoq n (a := 0) H hn h6 (by omega) (Nat.zero_le _) (Nat.le_refl _) (by omega) (.inl rfl) fun w' d' h1 h2 H' => ?_
 have hs : d'.toList = d.toList.mergeSort (fun x y => decide (x ≤ y)) := by
  have := sorted_unique_holds swo_ltInt (fun x y h1 h2 => by simp [ltInt] at h1 h2; omega) d d' (by rw [hn]; exact h1) (by rw [hn]; exact h2)
  rw [this]
  congr 1
  funext x y
  simp only [ltInt]
  by_cases hxy : x ≤ y
  ·simp [hxy]
  ·have : y < x := by omega
   simp [hxy, this]
 refine h w' ?_
 rw [← hs]
 exact H'
set_option maxRecDepth 100000
open Go.Eng Go.Sort
abbrev abr (x : Int) : Value := .int .u64 x
abbrev qm (x : Int) : List Value := [.int .u64 x]
abbrev OwN (w : World) (base : Nat) (v : Value) (l : List Int) : Prop := Ow w base T.d 1 qm v l
theorem bai : avd P T.f T.d abr 8 where
 et := et.f
 by5 := by decide
 ld := fun b i w K => Eq.trans (by kernel_rfl) rfl
 st := fun b i a n c w K => Eq.trans (by kernel_rfl) rfl
 bs := fun x w K => Eq.trans (by kernel_rfl) rfl
 one := fun _ => rfl
 ne := by decide
theorem afb {g : FuncId} {gn : Func} (hg : P.funcs[g]? = some gn) (hgn : (gn.name == "runtime.NumGoroutine") = false) (hgb : gn.body.isNone = false) {cap : List Value} {w : World} {Out : List Int → Prop} (hs : ail P g cap abr Out 60000 w) {K : KV}
  (h : ∀ w' v xs, Out xs → OwN w' w.heap.size v xs → Fr (fun _ => False) w w' → K v w') : jb P F.ca [.func (.func g) #[] cap.toArray] w K := by
 apply M.df.calls
 unfold M.df
 have hf : ∀ (args : List Value) (w : World) (K : KV), fk P F.c args w K = jb P F.c args w K := fun args w K => aga FN.c.at (by kernel_rfl) (by kernel_rfl) args w K
 rw [hf]
 exact agj (tQ := T.be) bai FN.c.at (by kernel_rfl) (by kernel_rfl) (by kernel_rfl) hg hgn hgb hs h
theorem Ow.rw {w : World} {base g n cap : Nat} {l : List Int} (h : OwN w base (.slice (some ⟨g, 0, none⟩) n cap) l) : n = l.length ∧ base ≤ g ∧ cap ≤ maxLen ∧ Rw w g T.d cap l.toArray := by
 rcases h.2 with ⟨h0, _⟩ | ⟨g', cap', cur, hv, hb, hc, h1, h2, h3, h4⟩
 ·cases h0
 ·injection hv with q1 q2 q3
  injection q1 with q1
  injection q1 with q1
  subst q1 q2 q3
  refine ⟨rfl, hb, h2, cur, hc, by simpa using h3, by simpa using h1, fun j hj => ?_⟩
  have hj' : j < l.length := by simpa using hj
  have h5 : (cur.toList.take (l.length * 1))[j]? = (l.flatMap qm)[j]? := by rw [h4]
  rw [List.getElem?_take_of_lt (by omega)] at h5
  have h6 : (l.flatMap qm)[j]? = some (.int .u64 l[j]) := by
   have := aav (enc := qm) (sz := 1) (fun _ => rfl) l j l[j] 0 (.int .u64 l[j]) (List.getElem?_eq_getElem hj') rfl
   simpa using this
  rw [h6] at h5
  simpa [hj'] using h5
theorem zi : ∀ l : List Int, l.flatMap qm = l.map abr
 | [] => rfl
 | x :: l => by rw [List.flatMap_cons, zi l]; rfl
theorem auo {w : World} {base g cap : Nat} {l : List Int} (hb : base ≤ g) (hm : cap ≤ maxLen) (h : Rw w g T.d cap l.toArray) : OwN w base (.slice (some ⟨g, 0, none⟩) l.length cap) l := by
 obtain ⟨cur, h1, h2, h3, h4⟩ := h
 refine ⟨by rw [zi]; simp, .inr ⟨g, cap, cur, rfl, hb, h1, by simpa using h3, hm, by simpa using h2, ?_⟩⟩
 rw [zi]
 apply List.ext_getElem?
 intro j
 by_cases hj : j < l.length
 ·rw [List.getElem?_take_of_lt (by omega)]
  have := h4 j (by simpa using hj)
  simp [hj] at this ⊢
  exact this
 ·rw [List.getElem?_take_eq_none (by omega), List.getElem?_eq_none (by simp; omega)]
theorem aiz {w : World} {K : KV} (h : K (.tuple #[]) w) : jb P F.ap [.slice none 0 0] w K := by
 apply M.bl.calls
 unfold M.bl
 have i64B : qx P T.b .i64 = true := by kernel_rfl
 have uB : qx P T.bb .u64 = true := by kernel_rfl
 simp
 rw [lw i64B uB, show IntKind.u64.wrap 0 = ((0 : Nat) : Int) from by decide, M.dh.fcall]
 refine adw (by omega) ?_
 rw [M.c.fcall]
 apply M.c.calls
 unfold M.c
 refine ⟨fun x w1 => gv x 5 = .int .i64 0 ∧ gv x 13 = .int .i64 0 ∧ w1 = w, fun _ _ => 0, ⟨rfl, rfl, rfl⟩, ?_⟩
 rintro x w1 ⟨e5, e13, rfl⟩
 unfold M.c.j0
 have w0 : IntKind.i64.wrap 0 = 0 := by decide
 simp [e5, e13, w0]
 rw [M.h.fcall]
 apply M.h.calls
 unfold M.h
 have w1' : IntKind.i64.wrap 1 = 1 := by decide
 simp [w1']
 refine ⟨fun x w2 => gv x 1 = .int .i64 1 ∧ w2 = w1, fun _ _ => 0, ⟨rfl, rfl⟩, ?_⟩
 rintro x w2 ⟨e1, rfl⟩
 unfold M.h.j0
 simp [e1]
 exact h
def oe (l : List Int) : List Int := l.mergeSort fun x y => decide (x ≤ y)
theorem nw (l : List Int) : (oe l).Perm l := List.mergeSort_perm ..
theorem vp {l l' : List Int} (h : l.Perm l') : oe l = oe l' := by
 unfold oe
 have hs : ∀ l : List Int, (l.mergeSort fun x y => decide (x ≤ y)).Pairwise fun a b => decide (a ≤ b) = true := fun l => List.pairwise_mergeSort (fun a b c h1 h2 => by simp at *; omega) (fun a b => by simp; omega) l
 exact List.Perm.eq_of_pairwise (fun a b _ _ h1 h2 => by simp at h1 h2; omega) (hs l) (hs l') (((List.mergeSort_perm ..).trans h).trans (List.mergeSort_perm ..).symm)
theorem aha {g : FuncId} {gn : Func} (hg : P.funcs[g]? = some gn) (hgn : (gn.name == "runtime.NumGoroutine") = false) (hgb : gn.body.isNone = false) {cap : List Value} {w : World} {ks : List Int} (hk : ks.length < 60000) (hs : ail P g cap abr (fun xs => xs.Perm ks) 60000 w) {K : KV}
  (h : ∀ w' v, OwN w' w.heap.size v (oe ks) → Fr (fun _ => False) w w' → K v w') : jb P F.az [.func (.func g) #[] cap.toArray] w K := by
 apply M.dj.calls
 unfold M.dj
 rw [M.df.fcall]
 refine afb hg hgn hgb hs fun w1 v xs hx o1 f1 => ?_
 rw [M.bl.fcall]
 have hlen := hx.length_eq
 rcases o1.2 with ⟨rfl, h0⟩ | ⟨g1, cap1, cur, rfl, hb1, _⟩
 ·refine aiz ?_
  have hx0 : xs = [] := List.length_eq_zero_iff.1 h0
  have hk0 : ks = [] := List.length_eq_zero_iff.1 (by rw [← hlen, hx0]; rfl)
  refine h w1 _ ?_ f1
  subst hk0
  rw [show oe [] = [] from by simp [oe]]
  exact Ow.none
 ·obtain ⟨_, hbg, hcm, hrw⟩ := Ow.rw o1
  refine aly hrw (by simp) (by omega) fun w2 H2 => ?_
  have hp : oe xs = oe ks := vp hx
  have hl : (oe xs).length = xs.length := (nw xs).length_eq
  refine h w2 _ ?_ (f1.jq H2.fr fun b hb he => by omega)
  rw [← hp]
  have := auo (base := w.heap.size) (l := oe xs) hbg hcm H2.row
  rw [hl] at this
  exact this
end Go.Proofs.YtfnhoaemapheoaaGreat.Suint64
set_option maxRecDepth 100000
namespace Go.Proofs.YtfnhoaemapheoaaGreat.KeyV
open Go.Eng Go.Sort Go.Proofs.YtfnhoaemapheoaaGreat.Suint64
end Go.Proofs.YtfnhoaemapheoaaGreat.KeyV
set_option maxRecDepth 100000
namespace Go.Proofs.YtfnhoaemapheoaaGreat.CM
open Go.Eng
end Go.Proofs.YtfnhoaemapheoaaGreat.CM
set_option maxRecDepth 100000
namespace Go.Proofs.YtfnhoaemapheoaaGreat
open Go.Eng
set_option maxRecDepth 100000
section
variable {w0 w : World} {R : List Asn} {r : Nat} {A L : List Mem} {tv : Value}
theorem xg {m : MP} (S : St w0 w (ku r .u64 m :: R)) : ph w r .u64 m ∧ (jg m).Nodup := by
 obtain ⟨B, h1, _⟩ := S.open
 exact h1.1
theorem aro {m : MP} (S : St w0 w (ku r .u64 m :: R)) {o : Obj} {k : Int} {v : Value} (h : ph (World.setObj w r o) r .u64 (rq m k v)) : St w0 (World.setObj w r o) (ku r .u64 (rq m k v) :: R) := by
 obtain ⟨B, ⟨k1, k2⟩, hB, cl⟩ := S.open
 refine cl (World.setObj w r o) [ku r .u64 (rq m k v)] ((Fr.refl B w).setObj (.inl k2) o) (Rs.one (B := B) ⟨⟨h, ?_⟩, k2⟩ fun b hb => .inl hb)
 rw [ajq]
 split
 ·exact k1.2
 ·rename_i hx
  rw [List.nodup_append]
  exact ⟨k1.2, by simp, fun a ha b hb' hab => by
   simp at hb'
   exact hx (by rw [← hb', ← hab]; exact ha)⟩
end
set_option maxRecDepth 100000
open Go.Eng
section
variable {w0 w : World} {R : List Asn} {r : Nat} {A L : List Mem} {tv : Value}
end
set_option maxRecDepth 100000
open Go.Eng
def qc (l : List Mem) (i : Nat) : Int := match i with
 | 0 => 0
 | i + 1 => (l[i]?.map Mem.id).getD 0
def MbI (W : World) (l : List Mem) : KL := fun x w1 => ∃ (u : Value) (i : Nat), x = [u, .int .i64 (i : Nat)] ∧ i ≤ l.length ∧ (qo 0 l && !(l.any pj)) = (qo (qc l i) (l.drop i) && !((l.drop i).any pj)) ∧ Fr (fun _ => False) W w1
theorem ant {w : World} {v : Value} {l : List Mem} (hs : SlM w v l) (hlen : l.length ≤ 1000000) (hid : ∀ m ∈ l, 0 ≤ m.id) {K : KV} (h : ∀ w', Fr (fun _ => False) w w' → K (.bool (ym l)) w') : fk P F.cl [v] w K := by
 rw [M.bd.fcall]
 apply M.bd.calls
 unfold M.bd
 rw [fo]
 refine ⟨MbI w l, fun x _ => l.length - ms x 1, ⟨_, 0, rfl, Nat.zero_le _, rfl, Fr.refl _ _⟩, ?_⟩
 rintro x w1 ⟨u, i, rfl, hi, hr, f1⟩
 have q0 : gv [u, .int .i64 (i : Nat)] 0 = u := rfl
 have q1 : gv [u, .int .i64 (i : Nat)] 1 = .int .i64 (i : Nat) := rfl
 have hs1 := hs.fr f1 fun _ _ _ h => h
 simp only [fo, q1]
 rw [hs1.ip (by kernel_rfl)]
 have hmr : ym l = ((qo 0 l && !(l.any pj)) && (decide (0 < l.length) && decide (l.length ≤ 16))) := by
  unfold ym
  cases qo 0 l <;> cases l.any pj <;> simp
 by_cases hil : i < l.length
 ·have hil' : (i : Int) < l.length := by omega
  simp [hil']
  unfold M.bd.j2
  obtain ⟨b, o, cap, hv, hb, _, hc⟩ := hs1.at hil
  have hld : ∀ K, ldN P 3 b (o + i * 3) w1 K = K (px l[i]) w1 := fun K => ldM hc K
  have hwi : IntKind.i64.wrap ((i : Int) + 1) = ((i + 1 : Nat) : Int) := by rw [ft (by omega) (by omega)]; rfl
  have hdrop : l.drop i = l[i] :: l.drop (i + 1) := List.drop_eq_getElem_cons hil
  have hlast : qc l (i + 1) = l[i].id := by unfold qc; simp [List.getElem?_eq_getElem hil]
  have hm0 := hid _ (List.getElem_mem hil)
  -- the one ahead
  have hprev : 0 < i → ∃ p, l[i - 1]? = some p ∧ qc l i = p.id ∧ ∀ j u, (acd p)[j]? = some u → fx w1 b (o + (i - 1) * 3 + j) = some u := fun h0 => by
   have hp : i - 1 < l.length := by omega
   obtain ⟨b', o', cap', hv', _, _, hc'⟩ := hs1.at hp
   have hvv := hv.symm.trans hv'
   injection hvv with ha1 _ _
   injection ha1 with ha1
   injection ha1 with ha4 ha5
   subst ha4 ha5
   refine ⟨l[i - 1], List.getElem?_eq_getElem hp, ?_, hc'⟩
   obtain ⟨k, rfl⟩ : ∃ k, i = k + 1 := ⟨i - 1, by omega⟩
   have hp' : k < l.length := by omega
   show (l[k]?.map Mem.id).getD 0 = _
   rw [List.getElem?_eq_getElem hp']; rfl
  rw [hdrop] at hr
  have hcons : (qo (qc l i) (l[i] :: l.drop (i + 1)) && !((l[i] :: l.drop (i + 1)).any pj)) = ((decide (qc l i < l[i].id) && !(pj l[i])) && (qo (qc l (i + 1)) (l.drop (i + 1)) && !((l.drop (i + 1)).any pj))) := by
   rw [List.any_cons, hlast]
   show ((decide (qc l i < l[i].id) && qo l[i].id (l.drop (i + 1))) && _) = _
   cases decide (qc l i < l[i].id) <;> cases qo l[i].id (l.drop (i + 1)) <;> cases pj l[i] <;> simp
  rw [hcons] at hr
  generalize hm : l[i] = m at *
  subst hv
  simp [q0, q1, hil, hld]
  rw [show px m = .agg #[.int .u64 m.id, .int .u64 m.inc, .int .i64 m.st] from rfl]
  simp
  have hba : (w1.alloc (.cells #[.int .u64 0, .int .u64 0, .int .i64 0] T.v)).heap[w1.heap.size]? = some (.cells #[.int .u64 0, .int .u64 0, .int .i64 0] T.v (0, 0)) := by rw [gm, if_pos rfl]
  refine jh (vs := [.int .u64 m.id, .int .u64 m.inc, .int .i64 m.st]) hba rfl (by simp) fun w2 b2 f2 => ?_
  have f2' : Fr (fun _ => False) w1 w2 := ((Fr.refl _ w1).alloc _).jq f2 fun y hy he => by subst he; omega
  have c0 : fx w2 w1.heap.size 0 = some (.int .u64 m.id) := by rw [fy b2]; rfl
  have c1 : fx w2 w1.heap.size 1 = some (.int .u64 m.inc) := by rw [fy b2]; rfl
  have c2 : fx w2 w1.heap.size 2 = some (.int .i64 m.st) := by rw [fy b2]; rfl
  have fin : Fr (fun _ => False) w (Eng.dr w2 1) := (f1.trans f2').dr 1
  have no : (decide (qc l i < m.id) && !(pj m)) = false → K (.bool false) (Eng.dr w2 1) := fun hx => by
   rw [hx, Bool.false_and] at hr
   have := h (Eng.dr w2 1) fin
   rw [hmr, hr] at this
   simpa using this
  have yes : (decide (qc l i < m.id) && !(pj m)) = true → MbI w l [u, .int .i64 ((i + 1 : Nat) : Int)] (Eng.dr w2 1) ∧ l.length - ms [u, .int .i64 ((i + 1 : Nat) : Int)] 1 < l.length - ms [u, .int .i64 (i : Nat)] 1 := fun hx => by
   rw [hx, Bool.true_and] at hr
   exact ⟨⟨_, i + 1, rfl, by omega, hr, fin⟩, by simp [ms, gv]; omega⟩
  by_cases e0 : m.id = 0
  ·have hb0 : (decide (qc l i < m.id) && !(pj m)) = false := by
    have : ¬ qc l i < m.id := by
     have : 0 ≤ qc l i := by
      by_cases h0 : 0 < i
      ·obtain ⟨p, hp, hpl, _⟩ := hprev h0
       rw [hpl]; exact hid p (List.mem_of_getElem? hp)
      ·have : i = 0 := by omega
       subst this; exact Int.le_refl _
     omega
    rw [decide_eq_false this, Bool.false_and]
   simp [c0, e0]
   exact no hb0
  by_cases e1 : m.inc = 0
  ·have hb0 : (decide (qc l i < m.id) && !(pj m)) = false := by
    unfold pj; simp [e1]
   simp [c0, c1, e0, e1]
   exact no hb0
  by_cases e2 : m.st < 0
  ·have hb0 : (decide (qc l i < m.id) && !(pj m)) = false := by
    unfold pj; simp [e2]
   simp [c0, c1, c2, e0, e1, e2]
   exact no hb0
  by_cases e3 : 2 < m.st
  ·have hb0 : (decide (qc l i < m.id) && !(pj m)) = false := by
    unfold pj; simp [e3]
   simp [c0, c1, c2, e0, e1, e2, e3]
   exact no hb0
  have hodd : pj m = false := by unfold pj; simp [e1, e2, e3]
  by_cases e4 : 0 < i
  ·obtain ⟨p, hp, hpl, hpc⟩ := hprev e4
   have cp := hpc 0 _ rfl
   simp only [Nat.add_zero] at cp
   have cp2 : fx w2 b (o + (i - 1) * 3) = some (.int .u64 p.id) := by rw [td (f2'.jj b hb fun h => h)]; exact cp
   have e4' : (0 : Int) < i := by omega
   have hsub : IntKind.i64.wrap ((i : Int) - 1) = ((i - 1 : Nat) : Int) := by rw [ft (by omega) (by omega)]; omega
   have hi1 : i - 1 < l.length := by omega
   have hi1' : ((i - 1 : Nat) : Int) < l.length := by omega
   by_cases e5 : m.id ≤ p.id
   ·have hb0 : (decide (qc l i < m.id) && !(pj m)) = false := by
     rw [hpl, decide_eq_false (by omega), Bool.false_and]
    simp [c0, c1, c2, e0, e1, e2, e3, e4, hsub, hi1, cp2, e5]
    exact no hb0
   ·have hb0 : (decide (qc l i < m.id) && !(pj m)) = true := by
     rw [hpl, decide_eq_true (by omega), hodd]; rfl
    simp [c0, c1, c2, e0, e1, e2, e3, e4, hsub, hi1, cp2, e5, hwi]
    exact yes hb0
  ·have hi0 : i = 0 := by omega
   have hb0 : (decide (qc l i < m.id) && !(pj m)) = true := by
    have : qc l i < m.id := by rw [hi0]; show 0 < m.id; omega
    rw [decide_eq_true this, hodd]; rfl
   simp [c0, c1, c2, e0, e1, e2, e3, e4, hwi]
   exact yes hb0
 ·have hil' : ¬ (i : Int) < l.length := by omega
  simp [hil']
  unfold M.bd.j0
  rw [List.drop_of_length_le (by omega)] at hr
  have hr' : (qo 0 l && !(l.any pj)) = true := by rw [hr]; rfl
  rw [hmr, hr', Bool.true_and] at h
  rw [hs1.ip (by kernel_rfl)]
  have hx : decide ((l.length : Int) ≤ 16) = decide (l.length ≤ 16) := by
   by_cases h16 : l.length ≤ 16
   ·rw [decide_eq_true h16, decide_eq_true (by omega)]
   ·rw [decide_eq_false h16, decide_eq_false (by omega)]
  by_cases h0 : 0 < l.length
  ·have h0' : (1 : Int) ≤ l.length := by omega
   simp [h0']
   rw [hs1.ip (by kernel_rfl)]
   simp
   rw [hx]
   have := h w1 f1
   simpa [h0] using this
  ·have h0' : ¬ (1 : Int) ≤ l.length := by omega
   simp [h0']
   have := h w1 f1
   simpa [h0] using this
structure Nd where
 id : Int
 brq : Int
 bsf : Int
 now : Int
 due : Int
 left : Bool
 v : List Mem
 h : MP
section
variable {n : Nd} {frm now pick : Int} {l : List Mem}
end
set_option maxRecDepth 100000
open Go.Eng
section
variable {w0 w : World} {R : List Asn}
end
set_option maxRecDepth 100000
open Go.Eng
section
variable {w0 w : World} {R : List Asn} {p r : Nat} {v : Value} {n : Nd}
end
set_option maxRecDepth 100000
open Go.Eng
section
variable {w0 w : World} {R : List Asn}
end
set_option maxRecDepth 100000
open Go.Eng
section
variable {w0 w : World} {R : List Asn} {p r : Nat} {v : Value} {n : Nd}
end
set_option maxRecDepth 100000
open Go.Eng
def ti (tr : Int) : List Int → List Spn → Bool
 | _, [] => true
 | met, s :: r => (decide (ul s = 0) && (decide (s.mh = tr) && !(decide (s.id ∈ met)))) && ti tr (met ++ [s.id]) r
def rn (tr : Int) (l : List Spn) : Bool := ti tr [] l && (decide (0 < l.length) && decide (l.length ≤ 16))
theorem agv {tr : Int} {met : List Int} {s : Spn} {r : List Spn} (h : ¬ (ul s = 0 ∧ s.mh = tr ∧ s.id ∉ met)) : ti tr met (s :: r) = false := by
 rw [ti]
 by_cases h1 : ul s = 0 <;> by_cases h2 : s.mh = tr <;> by_cases h3 : s.id ∈ met <;> simp_all
theorem ahz {tr : Int} {met : List Int} {s : Spn} {r : List Spn} (h1 : ul s = 0) (h2 : s.mh = tr) (h3 : s.id ∉ met) : ti tr met (s :: r) = ti tr (met ++ [s.id]) r := by
 rw [ti]; simp [h1, h2, h3]
def MsI (W : World) (mb : Nat) (tr : Int) (l : List Spn) : KL := fun x w1 => ∃ (u0 u1 : Value) (i : Nat) (m : MP), x = [u0, u1, .int .i64 (i : Nat)] ∧ i ≤ l.length ∧ St W w1 (ku mb .u64 m :: []) ∧ (∀ k, ly m k = if k ∈ (l.take i).map Spn.id then some (.bool true) else none) ∧ ti tr [] l = ti tr ((l.take i).map Spn.id) (l.drop i)
theorem ann {w : World} {v : Value} {l : List Spn} {tr : Int} (hs : SlS w v l) (hlen : l.length ≤ 1000000) {K : KV} (h : ∀ w', Fr (fun _ => False) w w' → K (.bool (rn tr l)) w') : fk P F.du [.int .u64 tr, v] w K := by
 rw [M.cm.fcall]
 apply M.cm.calls
 unfold M.cm
 rw [aox]
 have hlv : ∀ w' K, biT P .len #[T.n] T.b [false] [v] w' K = K (.int .i64 l.length) w' := fun w' K => hs.ip (by kernel_rfl) [false]
 have S0 : St w (w.alloc (.map #[] 0)) (ku w.heap.size .u64 [] :: []) := (St.jc w).add ((Fr.refl _ w).alloc _) (B := fun x => x = w.heap.size) ⟨⟨ahc w .u64, by simp [jg]⟩, rfl⟩ fun x hx => by subst hx; rw [ja]; omega
 generalize w.alloc (.map #[] 0) = w1 at *
 generalize w.heap.size = mb at *
 simp [hlv]
 refine ⟨MsI w mb tr l, fun x _ => l.length - ms x 2, ⟨_, _, 0, [], rfl, Nat.zero_le _, S0, fun k => by simp [ly], rfl⟩, ?_⟩
 rintro x w2 ⟨u0, u1, i, m, rfl, hi, S2, hm, hg⟩
 by_cases hil : i < l.length
 ·have hili : (i : Int) < (l.length : Int) := by omega
  simp [hil]
  unfold M.cm.j2
  have hs2 : SlS w2 v l := hs.fr S2.fr fun _ _ _ h => h
  obtain ⟨b, o, cap, hv, _, _, hc⟩ := hs2.at hil
  have hia : ∀ w' K, iaT P T.n v (.int .i64 (i : Nat)) w' K = K (.pointer (some ⟨b, o + i * 8, none⟩)) w' := fun w' K => by rw [hv]; simp [hil]
  have hld : ∀ K, ldN P 8 b (o + i * 8) w2 K = K (tt l[i]) w2 := fun K => ldS (fun k u hk => hc k u hk) K
  have hdrop : l.drop i = l[i] :: l.drop (i + 1) := List.drop_eq_getElem_cons hil
  rw [hdrop] at hg
  have htk : (l.take (i + 1)).map Spn.id = (l.take i).map Spn.id ++ [l[i].id] := by rw [List.take_succ_eq_append_getElem hil, List.map_append]; rfl
  generalize l[i] = s at *
  simp [hia, hld]
  unfold tt
  simp
  have S3 : St w (w2.alloc (.cells #[.int .u64 0, .int .u64 0, .int .u64 0, .int .u64 0, .int .u64 0, .string ⟨#[]⟩, .string ⟨#[]⟩, .bool false] T.z)) (gc w2.heap.size #[.int .u64 0, .int .u64 0, .int .u64 0, .int .u64 0, .int .u64 0, .string ⟨#[]⟩, .string ⟨#[]⟩, .bool false] T.z :: ku mb .u64 m :: []) := S2.add ((Fr.refl _ w2).alloc _) (B := fun x => x = w2.heap.size) ⟨by rw [gm, if_pos rfl], rfl⟩ fun x hx => by subst hx; rw [ja]; omega
  generalize w2.heap.size = sb at *
  refine jh (vs := zf s) S3.blk rfl (arn s) fun w4 b4 f4 => ?_
  have S4 : St w w4 (gc sb (zf s).toArray T.z :: ku mb .u64 m :: []) := S3.lg f4 b4
  have spC : ∀ {W : World}, St w W (gc sb (zf s).toArray T.z :: ku mb .u64 m :: []) → fx W sb 0 = some (.int .u64 s.mh) ∧ fx W sb 1 = some (.int .u64 s.id) ∧ ∀ K, ldN P 8 sb 0 W K = K (tt s) W := fun {W} S' => by
   have hh : apo W sb s := S'.blk
   exact ⟨vz hh 0 _ rfl, vz hh 1 _ rfl, fun K => ldS (fun k v hk => by rw [Nat.zero_add]; exact vz hh k v hk) K⟩
  obtain ⟨_, _, sl⟩ := spC S4
  simp [sl]
  rw [M.ef.fcall]
  refine bcd s fun w5 f5 => ?_
  have S5 := S4.iu f5
  obtain ⟨s0, s1, _⟩ := spC S5
  have bad : ¬ (ul s = 0 ∧ s.mh = tr ∧ s.id ∉ (l.take i).map Spn.id) → K (.bool false) w5 := fun hb => by
   have := h w5 S5.fr
   unfold rn at this
   rw [hg, agv hb] at this
   simpa using this
  have hmap := (xg S5.swap).1
  have hw : IntKind.i64.wrap ((i : Int) + 1) = ((i + 1 : Nat) : Int) := by rw [ft (by omega) (by omega)]; omega
  by_cases h1 : ul s = 0
  case neg =>
   simp [h1]
   exact bad fun hh => h1 hh.1
  by_cases h2 : s.mh = tr
  case neg =>
   simp [h1, s0, h2]
   exact bad fun hh => h2 hh.2.1
  have hmk := hm s.id
  by_cases h3 : s.id ∈ (l.take i).map Spn.id
  ·rw [if_pos h3] at hmk
   simp [h1, s0, h2, s1, aan mt.av hmap, hmk]
   exact bad fun hh => hh.2.2 h3
  ·rw [if_neg h3] at hmk
   simp [h1, s0, h2, s1, aan mt.av hmap, hmk]
   refine aog mt.av hmap s.id _ _ fun ob hob => ?_
   have S6 := aro S5.swap hob
   rw [hw]
   refine ⟨⟨_, _, i + 1, _, rfl, hil, (S6.swap).drop, fun k => ?_, ?_⟩, by simp [ms, gv]; omega⟩
   ·rw [acn, hm k, htk]
    by_cases hk : s.id = k
    ·subst hk; simp
    ·have hk' : ¬ k = s.id := fun e => hk e.symm
     simp [hk, hk']
   ·rw [hg, ahz h1 h2 h3, htk]
 ·have hili : ¬ (i : Int) < (l.length : Int) := by omega
  simp [hil]
  unfold M.cm.j0
  rw [List.drop_of_length_le (by omega)] at hg
  have fin := h w2 S2.fr
  unfold rn at fin
  rw [hg, ti] at fin
  by_cases h1 : 0 < l.length
  ·have h1i : (0 : Int) < (l.length : Int) := by omega
   by_cases h2 : l.length ≤ 16
   ·have h2i : (l.length : Int) ≤ 16 := by omega
    simp [hlv, h1]
    try rw [hlv]
    simp [h2i]
    simpa [h1, h2] using fin
   ·have h2i : ¬ (l.length : Int) ≤ 16 := by omega
    simp [hlv, h1]
    try rw [hlv]
    simp [h2i]
    simpa [h1, h2] using fin
  ·have h1i : ¬ (0 : Int) < (l.length : Int) := by omega
   simp [hlv, h1i]
   simpa [h1] using fin
theorem anq {w : World} {v : Value} {l : List Int} (hs : SlU w v l) (hlen : l.length ≤ 1000000) {K : KV} (h : ∀ w' v', SlU w' v' l → (∀ x, v'.ownBlock = some x → w.heap.size ≤ x) → Fr (fun _ => False) w w' → K v' w') : fk P F.ak [v] w K := by
 rw [M.ch.fcall]
 apply M.ch.calls
 unfold M.ch
 simp only [fo]
 have hs' := hs
 obtain ⟨a, cap, rfl, _⟩ := hs'
 cases a with
 | none =>
  simp
  have hz : l = [] := by
   obtain ⟨a', cap', hv, _, _, h3⟩ := hs
   cases l with
   | nil => rfl
   | cons x l =>
    obtain ⟨b, o, ha, _⟩ := h3 0 x rfl
    injection hv with h1 _ _
    rw [← h1] at ha; cases ha
  subst hz
  exact h w _ Sl.nil (fun x hx => by simp [Value.ownBlock] at hx) (Fr.refl _ _)
 | some a =>
  simp
  have f0 : Fr (fun _ => False) w (w.alloc (.cells #[] T.d)) := (Fr.refl _ w).alloc _
  refine qd et.f ajp azt (base := w.heap.size) (Ow.empty (by rw [gm, if_pos rfl]) (Nat.le_refl _)) (hs.fr f0 fun _ _ _ h => h) (by simp; omega) (by decide) (by simp) _ fun v3 w3 o3 f3 g3 => ?_
  rw [List.nil_append] at o3
  exact h w3 v3 (o3.sl ajp) (fun x hx => (o3.lt hx).1) (f0.jq f3 fun b hb hv => by simp [Value.ownBlock] at hv; omega)
inductive ThR (w : World) (p : Pk) (ls : List Spn) (lm : List Mem) (lu : List Int) : Value → Prop
 | si (v : Value) : (p.fu = 1 ∨ p.fu = 2) → SlS w v ls → ThR w p ls lm lu (.iface T.y (.agg #[.int .u64 p.tr, .bool (decide (p.fu = 2)), v]))
 | afw (v : Value) : p.fu = 3 → SlM w v lm → ThR w p ls lm lu (.iface T.aa (.agg #[v]))
 | ask : (p.fu = 4 ∨ p.fu = 6) → ThR w p ls lm lu (afo p.tr p.b p.v)
 | yd : (p.fu = 5 ∨ p.fu = 7) → ThR w p ls lm lu (.iface T.s (.agg #[.int .u64 p.tr, .int .u64 p.b.n, .int .u64 p.b.gj, .bool p.ok, .int .u64 p.im.n, .int .u64 p.im.gj, .int .i64 p.v, .bool (decide (p.fu = 7))]))
 | uo : p.fu = 8 → ThR w p ls lm lu (.iface T.ae (.agg #[.int .u64 p.tr, .int .i64 p.v]))
 | vk (v : Value) : p.fu = 9 → SlS w v ls → ThR w p ls lm lu (.iface T.w (.agg #[.int .u64 p.tr, .int .u64 p.b.n, .int .u64 p.b.gj, v]))
 | yg (v : Value) : p.fu = 10 → SlU w v lu → ThR w p ls lm lu (.iface T.ab (.agg #[.int .u64 p.tr, v]))
 | none : ¬ (1 ≤ p.fu ∧ p.fu ≤ 10) → ThR w p ls lm lu .nilIface
theorem anc {w : World} {p : Pk} {ls : List Spn} {lm : List Mem} {lu : List Int} (hp : oz w p ls lm lu) {K : KV} (h : ∀ w' t, ThR w' p ls lm lu t → Fr (fun _ => False) w w' → K t w') : fk P F.cp [pkA p] w K := by
 by_cases ha : p.fu = 4 ∨ p.fu = 6
 ·exact asa ha fun w' f => h w' _ (.ask ha) f
 rw [M.ai.fcall]
 apply M.ai.calls
 unfold M.ai
 rw [aqo hp]
 have S1 : St w (w.alloc (.cells (pkC p).toArray T.a)) (gc w.heap.size (pkC p).toArray T.a :: []) := (St.jc w).add ((Fr.refl _ w).alloc _) (B := fun x => x = w.heap.size) ⟨by rw [gm, if_pos rfl], rfl⟩ fun x hx => by subst hx; rw [ja]; omega
 generalize w.alloc (.cells (pkC p).toArray T.a) = w1 at *
 generalize w.heap.size = pb at *
 have f1 := S1.fr
 have hp1 := hp.fr f1
 have fd : Fr (fun _ => False) w1 (dr w1 1) := (Fr.refl _ w1).dr 1
 have hpd := hp1.fr fd
 have Sd := S1.iu fd
 obtain ⟨_, _, e2, _⟩ := ik Sd
 obtain ⟨c0, c1, c2, c4, c6, c7, c8, c9, c10, _⟩ := ik S1
 obtain ⟨⟨a1, k1, h1⟩, ⟨a2, k2, h2⟩, a3, k3, h3⟩ := hp.one
 have n4 : ¬ p.fu = 4 := fun h => ha (.inl h)
 have n6 : ¬ p.fu = 6 := fun h => ha (.inr h)
 by_cases q1 : p.fu = 1 ∨ p.fu = 2
 ·have fin : ∀ d : Bool, d = decide (p.fu = 2) → ∀ w2 v2, SlS w2 v2 ls → Fr (fun _ => False) (dr w1 1) w2 → K (.iface T.y (.agg #[.int .u64 p.tr, .bool d, v2])) w2 := fun d hd w2 v2 s2 f2 => by
   subst hd
   exact h w2 _ (.si v2 q1 s2) (f1.trans (fd.trans f2))
  have c8' := c8
  rw [h1] at c8'
  rcases q1 with q | q
  ·simp [c0, q]
   unfold M.ai.j1
   simp [c1, c0, q, c8']
   rw [← h1, M.al.fcall]
   refine aca hpd.s hpd.ls fun w2 v2 s2 _ f2 => ?_
   obtain ⟨a, c, hv, _⟩ := id s2
   have fin' := fin false (by simp [q]) w2 v2 s2 f2
   have S2 := Sd.iu f2
   obtain ⟨d0, d1, _⟩ := ik S2
   rw [hv] at fin' ⊢
   simp [d0, d1, q]
   exact fin'
  ·simp [c0, q]
   unfold M.ai.j1
   simp [c1, c0, q, c8']
   rw [← h1, M.al.fcall]
   refine aca hpd.s hpd.ls fun w2 v2 s2 _ f2 => ?_
   obtain ⟨a, c, hv, _⟩ := id s2
   have fin' := fin true (by simp [q]) w2 v2 s2 f2
   have S2 := Sd.iu f2
   obtain ⟨d0, d1, _⟩ := ik S2
   rw [hv] at fin' ⊢
   simp [d0, d1, q]
   exact fin'
 have n1 : ¬ p.fu = 1 := fun h => q1 (.inl h)
 have n2 : ¬ p.fu = 2 := fun h => q1 (.inr h)
 simp [c0, n1, n2]
 unfold M.ai.j1
 by_cases q3 : p.fu = 3
 ·have c9' := c9
  rw [h2] at c9'
  simp [q3, c9']
  rw [← h2]
  refine ank hp1.m hp1.lm fun w2 v2 s2 _ f2 => ?_
  obtain ⟨a, c, hv, _⟩ := id s2
  have fin := h w2 _ (.afw v2 q3 s2) (f1.trans f2)
  rw [hv] at fin ⊢
  simp
  exact fin
 simp [q3, n4, n6]
 unfold M.ai.j2
 by_cases q5 : p.fu = 5 ∨ p.fu = 7
 ·have fin := h w1 _ (.yd (ls := ls) (lm := lm) (lu := lu) q5) f1
  unfold jf at c2 c4
  rcases q5 with q | q
  ·simp [q]
   unfold M.ai.j3
   simp [c0, c1, c2, c4, c6, c7, q]
   simp [q] at fin
   exact fin
  ·simp [q]
   unfold M.ai.j3
   simp [c0, c1, c2, c4, c6, c7, q]
   simp [q] at fin
   exact fin
 have n5 : ¬ p.fu = 5 := fun h => q5 (.inl h)
 have n7 : ¬ p.fu = 7 := fun h => q5 (.inr h)
 simp [n5, n7]
 unfold M.ai.j3
 by_cases q8 : p.fu = 8
 ·simp [q8, c1, c6]
  exact h w1 _ (.uo q8) f1
 by_cases q9 : p.fu = 9
 ·have c8' := c8
  rw [h1] at c8'
  unfold jf at c2 e2
  simp [q9, c1, c2, e2, c8']
  rw [← h1, M.al.fcall]
  refine aca hpd.s hpd.ls fun w2 v2 s2 _ f2 => ?_
  obtain ⟨a, c, hv, _⟩ := id s2
  have fin := h w2 _ (.vk v2 q9 s2) (f1.trans (fd.trans f2))
  have S2 := Sd.iu f2
  obtain ⟨_, d1, d2, _⟩ := ik S2
  unfold jf at d2
  rw [hv] at fin ⊢
  simp [d1, d2]
  exact fin
 by_cases q10 : p.fu = 10
 ·have c10' := c10
  rw [h3] at c10'
  simp [q10, c1, c10']
  rw [← h3]
  refine anq hpd.u hpd.lu fun w2 v2 s2 _ f2 => ?_
  obtain ⟨a, c, hv, _⟩ := id s2
  have fin := h w2 _ (.yg v2 q10 s2) (f1.trans (fd.trans f2))
  have S2 := Sd.iu f2
  obtain ⟨_, d1, _⟩ := ik S2
  rw [hv] at fin ⊢
  simp [d1]
  exact fin
 simp [q8, q9, q10]
 exact h w1 _ (.none (by omega)) f1
def agd (tr : Int) (l : List Spn) : Bool := decide (0 < tr) && rn tr l
theorem anz {w : World} {tr : Int} {d : Bool} {v : Value} {l : List Spn} (hs : SlS w v l) (hlen : l.length ≤ 1000000) {K : KV} (h : ∀ w', Fr (fun _ => False) w w' → K (.bool (agd tr l)) w') : fk P F.aj [.iface T.y (.agg #[.int .u64 tr, .bool d, v])] w K := by
 rw [M.ad.fcall]
 apply M.ad.calls
 unfold M.ad
 obtain ⟨a, c, hv, _⟩ := id hs
 rw [hv]
 simp
 have S0 : St w (w.alloc (.cells #[.int .u64 0, .int .u64 0] T.c)) (gc w.heap.size #[.int .u64 0, .int .u64 0] T.c :: []) := (St.jc w).add ((Fr.refl _ w).alloc _) (B := fun x => x = w.heap.size) ⟨by rw [gm, if_pos rfl], rfl⟩ fun x hx => by subst hx; rw [ja]; omega
 refine jh (vs := [.int .u64 0, .int .u64 0]) S0.blk rfl (by simp [ju]) fun w2 b2 f2 => ?_
 have S2 := S0.lg f2 b2
 have S3 : St w (w2.alloc (.cells #[.int .u64 0, .bool false, .slice none 0 0] T.y)) (gc w2.heap.size #[.int .u64 0, .bool false, .slice none 0 0] T.y :: _) := S2.add ((Fr.refl _ w2).alloc _) (B := fun x => x = w2.heap.size) ⟨by rw [gm, if_pos rfl], rfl⟩ fun x hx => by subst hx; rw [ja]; omega
 refine jh (vs := [.int .u64 tr, .bool d, .slice a l.length c]) S3.blk rfl (by simp [ju]) fun w4 b4 f4 => ?_
 have S4 := S3.lg f4 b4
 generalize w2.heap.size = ob at *
 have c0 : fx w4 ob 0 = some (.int .u64 tr) := by rw [fy b4]; rfl
 have c2 : fx w4 ob 2 = some (.slice a l.length c) := by rw [fy b4]; rfl
 unfold agd at h
 by_cases h1 : 0 < tr
 ·simp [c0, c2, h1]
  rw [← hv]
  refine ann (hs.fr S4.fr fun _ _ _ h => h) hlen fun w5 f5 => ?_
  have fin := h w5 (S4.fr.trans f5)
  simpa [h1] using fin
 ·have fin := h w4 S4.fr
  simp [c0, h1]
  simpa [h1] using fin
def ahv (tr : Int) (b : Bal) (l : List Spn) : Bool := decide (0 < tr) && decide (0 < b.n) && rn tr l
theorem ali {w : World} {tr : Int} {b : Bal} {v : Value} {l : List Spn} (hs : SlS w v l) (hlen : l.length ≤ 1000000) {K : KV} (h : ∀ w', Fr (fun _ => False) w w' → K (.bool (ahv tr b l)) w') : fk P F.aj [.iface T.w (.agg #[.int .u64 tr, .int .u64 b.n, .int .u64 b.gj, v])] w K := by
 rw [M.ad.fcall]
 apply M.ad.calls
 unfold M.ad
 obtain ⟨a, c, hv, _⟩ := id hs
 rw [hv]
 simp [acq, aai, aah, acp, adm]
 have S0 : St w (w.alloc (.cells #[.int .u64 0, .int .u64 0] T.c)) (gc w.heap.size #[.int .u64 0, .int .u64 0] T.c :: []) := (St.jc w).add ((Fr.refl _ w).alloc _) (B := fun x => x = w.heap.size) ⟨by rw [gm, if_pos rfl], rfl⟩ fun x hx => by subst hx; rw [ja]; omega
 refine jh (vs := [.int .u64 0, .int .u64 0]) S0.blk rfl (by simp [ju]) fun w2 b2 f2 => ?_
 have S2 := S0.lg f2 b2
 have S3 : St w (w2.alloc (.cells #[.int .u64 0, .int .u64 0, .int .u64 0, .slice none 0 0] T.w)) (gc w2.heap.size #[.int .u64 0, .int .u64 0, .int .u64 0, .slice none 0 0] T.w :: _) := S2.add ((Fr.refl _ w2).alloc _) (B := fun x => x = w2.heap.size) ⟨by rw [gm, if_pos rfl], rfl⟩ fun x hx => by subst hx; rw [ja]; omega
 refine jh (vs := [.int .u64 tr, .int .u64 b.n, .int .u64 b.gj, .slice a l.length c]) S3.blk rfl (by simp [ju]) fun w4 b4 f4 => ?_
 have S4 := S3.lg f4 b4
 generalize w2.heap.size = ob at *
 have c0 : fx w4 ob 0 = some (.int .u64 tr) := by rw [fy b4]; rfl
 have c1 : fx w4 ob 1 = some (.int .u64 b.n) := by rw [fy b4]; rfl
 have c3 : fx w4 ob 3 = some (.slice a l.length c) := by rw [fy b4]; rfl
 unfold ahv at h
 by_cases h1 : 0 < tr
 ·by_cases h2 : 0 < b.n
  ·simp [c0, c1, c3, h1, h2]
   rw [← hv]
   refine ann (hs.fr S4.fr fun _ _ _ h => h) hlen fun w5 f5 => ?_
   have fin := h w5 (S4.fr.trans f5)
   simpa [h1, h2] using fin
  ·have fin := h w4 S4.fr
   simp [c0, c1, h1, h2]
   simpa [h1, h2] using fin
 ·have fin := h w4 S4.fr
  simp [c0, h1]
  simpa [h1] using fin
def aoh (tr v : Int) : Bool := decide (0 < tr) && ki v
theorem apa {w : World} {tr v : Int} {K : KV} (h : ∀ w', Fr (fun _ => False) w w' → K (.bool (aoh tr v)) w') : fk P F.aj [.iface T.ae (.agg #[.int .u64 tr, .int .i64 v])] w K := by
 rw [M.ad.fcall]
 apply M.ad.calls
 unfold M.ad
 simp [afd, acj, adg, afh]
 have S0 : St w (w.alloc (.cells #[.int .u64 0, .int .u64 0] T.c)) (gc w.heap.size #[.int .u64 0, .int .u64 0] T.c :: []) := (St.jc w).add ((Fr.refl _ w).alloc _) (B := fun x => x = w.heap.size) ⟨by rw [gm, if_pos rfl], rfl⟩ fun x hx => by subst hx; rw [ja]; omega
 refine jh (vs := [.int .u64 0, .int .u64 0]) S0.blk rfl (by simp [ju]) fun w2 b2 f2 => ?_
 have S2 := S0.lg f2 b2
 have S3 : St w (w2.alloc (.cells #[.int .u64 0, .int .i64 0] T.ae)) (gc w2.heap.size #[.int .u64 0, .int .i64 0] T.ae :: _) := S2.add ((Fr.refl _ w2).alloc _) (B := fun x => x = w2.heap.size) ⟨by rw [gm, if_pos rfl], rfl⟩ fun x hx => by subst hx; rw [ja]; omega
 refine jh (vs := [.int .u64 tr, .int .i64 v]) S3.blk rfl (by simp [ju]) fun w4 b4 f4 => ?_
 have S4 := S3.lg f4 b4
 generalize w2.heap.size = ob at *
 have c0 : fx w4 ob 0 = some (.int .u64 tr) := by rw [fy b4]; rfl
 have c1 : fx w4 ob 1 = some (.int .i64 v) := by rw [fy b4]; rfl
 have fin := h w4 S4.fr
 unfold aoh at fin
 by_cases h1 : 0 < tr
 ·simp [c0, c1, h1]
  refine ajl ?_
  simpa [h1] using fin
 ·simp [c0, h1]
  simpa [h1] using fin
def sg : Int → List Int → Bool
 | _, [] => true
 | kb, m :: l => decide (kb < m) && sg m l
def RuI (W : World) (l : List Int) : KL := fun x w1 => ∃ (u0 u1 : Value) (kb : Int) (i : Nat), x = [u0, u1, .int .u64 kb, .int .i64 (i : Nat)] ∧ i ≤ l.length ∧ sg 0 l = sg kb (l.drop i) ∧ Fr (fun _ => False) W w1
theorem atj {w : World} (m : Int) {K : KV} (h : K (.int .u64 m) w) : me P (.func (.func F.da) #[] #[]) [.int .u64 m] w K := by
 rw [M.ee.rcall]
 apply M.ee.calls
 unfold M.ee
 exact h
theorem azs {w : World} {v : Value} {l : List Int} (hs : SlU w v l) (hlen : l.length ≤ 1000000) {K : KV} (h : ∀ w', Fr (fun _ => False) w w' → K (.bool (sg 0 l && (decide (0 < l.length) && decide (l.length ≤ 16)))) w') :
  fk P F.cn [v, .int .i64 16, .func (.func F.da) #[] #[]] w K := by
 rw [M.be.fcall]
 apply M.be.calls
 unfold M.be
 simp only [fo]
 rw [hs.ip (by kernel_rfl)]
 refine ⟨RuI w l, fun x _ => l.length - ms x 3, ⟨_, _, 0, 0, rfl, Nat.zero_le _, rfl, Fr.refl _ _⟩, ?_⟩
 rintro x w1 ⟨u0, u1, kb, i, rfl, hi, hr, f1⟩
 have q2 : gv [u0, u1, .int .u64 kb, .int .i64 (i : Nat)] 2 = .int .u64 kb := rfl
 have q3 : gv [u0, u1, .int .u64 kb, .int .i64 (i : Nat)] 3 = .int .i64 (i : Nat) := rfl
 have hs1 := hs.fr f1 fun _ _ _ h => h
 simp only [q3]
 by_cases hil : i < l.length
 ·have hil' : (i : Int) < l.length := by omega
  simp [hil']
  unfold M.be.j2
  obtain ⟨b, o, cap, hv, hb, _, hc⟩ := hs1.at hil
  have hld := hc 0 _ rfl
  have hwi : IntKind.i64.wrap ((i : Int) + 1) = ((i + 1 : Nat) : Int) := by rw [ft (by omega) (by omega)]; rfl
  have hdrop : l.drop i = l[i] :: l.drop (i + 1) := List.drop_eq_getElem_cons hil
  rw [hdrop] at hr
  generalize l[i] = m at *
  subst hv
  have hld' : fx w1 b (o + i) = some (.int .u64 m) := by simpa using hld
  simp [q2, q3, hil, hld']
  refine atj m ?_
  simp
  by_cases hle : m ≤ kb
  ·have hlt : ¬ kb < m := by omega
   simp [hle]
   have hf : sg 0 l = false := by rw [hr]; unfold sg; simp [hlt]
   rw [hf] at h
   exact h w1 f1
  ·have hlt : kb < m := by omega
   simp [hle]
   refine atj m ?_
   simp [hwi]
   refine ⟨⟨_, _, m, i + 1, rfl, by omega, ?_, f1⟩, by simp [ms, gv]; omega⟩
   rw [hr]
   show (decide (kb < m) && sg m (l.drop (i + 1))) = _
   simp [hlt]
 ·have hil' : ¬ (i : Int) < l.length := by omega
  have hr1 : sg 0 l = true := by rw [hr, List.drop_of_length_le (by omega)]; rfl
  simp [hil']
  unfold M.be.j0
  rw [hs1.ip (by kernel_rfl)]
  rw [hr1] at h
  by_cases h0 : 0 < l.length
  ·have h0' : (0 : Int) < l.length := by omega
   have hx : decide ((l.length : Int) ≤ 16) = decide (l.length ≤ 16) := by
    by_cases h16 : l.length ≤ 16
    ·rw [decide_eq_true h16, decide_eq_true (by omega)]
    ·rw [decide_eq_false h16, decide_eq_false (by omega)]
   simp [h0]
   rw [hs1.ip (by kernel_rfl)]
   simp
   rw [hx]
   have := h w1 f1
   simpa [h0] using this
  ·simp [h0]
   have := h w1 f1
   simpa [h0] using this
def akm (tr : Int) (l : List Int) : Bool := decide (0 < tr) && (sg 0 l && (decide (0 < l.length) && decide (l.length ≤ 16)))
theorem aob {w : World} {tr : Int} {v : Value} {l : List Int} (hs : SlU w v l) (hlen : l.length ≤ 1000000) {K : KV} (h : ∀ w', Fr (fun _ => False) w w' → K (.bool (akm tr l)) w') : fk P F.aj [.iface T.ab (.agg #[.int .u64 tr, v])] w K := by
 rw [M.ad.fcall]
 apply M.ad.calls
 unfold M.ad
 obtain ⟨a, c, hv, _⟩ := id hs
 rw [hv]
 simp [adk, abp, acb, adt, aff, acm]
 have S0 : St w (w.alloc (.cells #[.int .u64 0, .int .u64 0] T.c)) (gc w.heap.size #[.int .u64 0, .int .u64 0] T.c :: []) := (St.jc w).add ((Fr.refl _ w).alloc _) (B := fun x => x = w.heap.size) ⟨by rw [gm, if_pos rfl], rfl⟩ fun x hx => by subst hx; rw [ja]; omega
 refine jh (vs := [.int .u64 0, .int .u64 0]) S0.blk rfl (by simp [ju]) fun w2 b2 f2 => ?_
 have S2 := S0.lg f2 b2
 have S3 : St w (w2.alloc (.cells #[.int .u64 0, .slice none 0 0] T.ab)) (gc w2.heap.size #[.int .u64 0, .slice none 0 0] T.ab :: _) := S2.add ((Fr.refl _ w2).alloc _) (B := fun x => x = w2.heap.size) ⟨by rw [gm, if_pos rfl], rfl⟩ fun x hx => by subst hx; rw [ja]; omega
 refine jh (vs := [.int .u64 tr, .slice a l.length c]) S3.blk rfl (by simp [ju]) fun w4 b4 f4 => ?_
 have S4 := S3.lg f4 b4
 generalize w2.heap.size = ob at *
 have c0 : fx w4 ob 0 = some (.int .u64 tr) := by rw [fy b4]; rfl
 have c1 : fx w4 ob 1 = some (.slice a l.length c) := by rw [fy b4]; rfl
 unfold akm at h
 by_cases h1 : 0 < tr
 ·simp [c0, c1, h1]
  rw [← hv]
  refine azs (hs.fr S4.fr fun _ _ _ h => h) hlen fun w5 f5 => ?_
  have fin := h w5 (S4.fr.trans f5)
  simpa [h1] using fin
 ·have fin := h w4 S4.fr
  simp [c0, h1]
  simpa [h1] using fin
def agc (tr : Int) (b : Bal) (ok : Bool) (im : Bal) (v : Int) (gr : Bool) : Bool :=
 if tr = 0 ∨ b.n = 0 then false else if ok = false then decide (v = 0) && !(decide (im = gu)) else if gr = true then decide (v = 0) && decide (im = gu) else (ki v && !(decide (im = gu))) || (decide (v = 0) && decide (im = gu))
theorem anv {w : World} {tr v : Int} {b im : Bal} {ok gr : Bool} {K : KV} (h : ∀ w', Fr (fun _ => False) w w' → K (.bool (agc tr b ok im v gr)) w') : fk P F.aj [.iface T.s (.agg #[.int .u64 tr, .int .u64 b.n, .int .u64 b.gj, .bool ok, .int .u64 im.n, .int .u64 im.gj, .int .i64 v, .bool gr])] w K := by
 rw [M.ad.fcall]
 apply M.ad.calls
 unfold M.ad
 simp [adj, abj, abl]
 have S0 : St w (w.alloc (.cells #[.int .u64 0, .int .u64 0] T.c)) (gc w.heap.size #[.int .u64 0, .int .u64 0] T.c :: []) := (St.jc w).add ((Fr.refl _ w).alloc _) (B := fun x => x = w.heap.size) ⟨by rw [gm, if_pos rfl], rfl⟩ fun x hx => by subst hx; rw [ja]; omega
 refine jh (vs := [.int .u64 0, .int .u64 0]) S0.blk rfl (by simp [ju]) fun w2 b2 f2 => ?_
 have S2 := S0.lg f2 b2
 have S3 : St w (w2.alloc (.cells #[.int .u64 0, .int .u64 0, .int .u64 0, .bool false, .int .u64 0, .int .u64 0, .int .i64 0, .bool false] T.s)) (gc w2.heap.size #[.int .u64 0, .int .u64 0, .int .u64 0, .bool false, .int .u64 0, .int .u64 0, .int .i64 0, .bool false] T.s :: _) := S2.add ((Fr.refl _ w2).alloc _) (B := fun x => x = w2.heap.size) ⟨by rw [gm, if_pos rfl], rfl⟩ fun x hx => by subst hx; rw [ja]; omega
 refine jh (vs := [.int .u64 tr, .int .u64 b.n, .int .u64 b.gj, .bool ok, .int .u64 im.n, .int .u64 im.gj, .int .i64 v, .bool gr]) S3.blk rfl (by simp [ju]) fun w4 b4 f4 => ?_
 have S4 := S3.lg f4 b4
 have fin := h w4 S4.fr
 have z0 : ∀ K, ldN P 2 w.heap.size 0 w4 K = K (jf gu) w4 := fun K => by
  have hh := S4.swap.blk
  exact ade (by rw [fy hh]; rfl) (by rw [fy hh]; rfl) K
 generalize w2.heap.size = ob at *
 generalize w.heap.size = zb at *
 have c0 : fx w4 ob 0 = some (.int .u64 tr) := by rw [fy b4]; rfl
 have c1 : fx w4 ob 1 = some (.int .u64 b.n) := by rw [fy b4]; rfl
 have c3 : fx w4 ob 3 = some (.bool ok) := by rw [fy b4]; rfl
 have c4 : ∀ K, ldN P 2 ob 4 w4 K = K (jf im) w4 := fun K => ade (by rw [fy b4]; rfl) (by rw [fy b4]; rfl) K
 have c6 : fx w4 ob 6 = some (.int .i64 v) := by rw [fy b4]; rfl
 have c7 : fx w4 ob 7 = some (.bool gr) := by rw [fy b4]; rfl
 unfold agc at fin
 by_cases h1 : tr = 0
 ·simp [c0, h1]
  simpa [h1] using fin
 by_cases h2 : b.n = 0
 ·simp [c0, c1, h1, h2]
  simpa [h2] using fin
 cases ok with
 | false =>
  by_cases h3 : v = 0
  ·simp [c0, c1, c3, c6, c4, z0, h1, h2, h3, aor]
   simpa [h1, h2, h3] using fin
  ·simp [c0, c1, c3, c6, h1, h2, h3]
   simpa [h1, h2, h3] using fin
 | true =>
 cases gr with
 | true =>
  by_cases h3 : v = 0
  ·simp [c0, c1, c3, c6, c7, c4, z0, h1, h2, h3, pt]
   simpa [h1, h2, h3] using fin
  ·simp [c0, c1, c3, c6, c7, h1, h2, h3]
   simpa [h1, h2, h3] using fin
 | false =>
 simp [c0, c1, c3, c7, h1, h2]
 unfold M.ad.j1
 simp [c6]
 refine ajl ?_
 by_cases h4 : ki v = true
 ·have hv0 : ¬ v = 0 := fun hh => by subst hh; exact absurd h4 (by decide)
  by_cases h5 : im = gu
  ·simp [h4, c4, z0, aor, h5, c6, hv0]
   simpa [h1, h2, h4, h5, hv0] using fin
  ·simp [h4, c4, z0, aor, h5]
   simpa [h1, h2, h4, h5] using fin
 ·by_cases h3 : v = 0
  ·subst h3
   have ht : ki 0 = false := by decide
   simp [ht, c6, c4, z0, pt]
   simpa [h1, h2, ht] using fin
  ·simp [h4, c6, h3]
   simpa [h1, h2, h4, h3] using fin
abbrev gt : Value := .slice none 0 0
theorem xu {w W : World} {pb : Nat} {R : List Asn} {q : Pk} (S : St w W (gc pb (pkC q).toArray T.a :: R)) (K : KV) : ldN P 11 pb 0 W K = K (pkA q) W := (ik S).2.2.2.2.2.2.2.2.2 K
theorem abk {w W : World} {pb : Nat} {R : List Asn} {q : Pk} (S : St w W (gc pb (pkC q).toArray T.a :: R)) (K : KV) : lc P T.a (.pointer (some ⟨pb, 0, none⟩)) W K = K (pkA q) W := by rw [ahg]; exact xu S K
theorem ui {k tr v : Int} {b s : Bal} {ok : Bool} {a1 a2 a3 : Option Addr} {l1 l2 l3 c1 c2 c3 : Nat} : ∀ u ∈ pkC ⟨k, tr, b, s, v, ok, .slice a1 l1 c1, .slice a2 l2 c2, .slice a3 l3 c3⟩, ju u = true := fun u hu => by
 simp only [pkC, List.mem_cons, List.not_mem_nil, or_false] at hu
 rcases hu with rfl | rfl | rfl | rfl | rfl | rfl | rfl | rfl | rfl | rfl | rfl <;> rfl
theorem agn (w : World) : St w (w.alloc (.cells #[.int .i64 0, .int .u64 0, .int .u64 0, .int .u64 0, .int .u64 0, .int .u64 0, .int .i64 0, .bool false, .slice none 0 0, .slice none 0 0, .slice none 0 0] T.a)) (gc w.heap.size #[.int .i64 0, .int .u64 0, .int .u64 0, .int .u64 0, .int .u64 0, .int .u64 0, .int .i64 0, .bool false, .slice none 0 0, .slice none 0 0, .slice none 0 0] T.a :: []) := (St.jc w).add ((Fr.refl _ w).alloc _) (B := fun x => x = w.heap.size) ⟨by rw [gm, if_pos rfl], rfl⟩ fun x hx => by subst hx; rw [ja]; omega
theorem adv {w0 w : World} {R : List Asn} (S : St w0 w R) (cs : Array Value) (t : TypeId) : St w0 (w.alloc (.cells cs t)) (gc w.heap.size cs t :: R) := S.add ((Fr.refl _ w).alloc _) (B := fun x => x = w.heap.size) ⟨by rw [gm, if_pos rfl], rfl⟩ fun x hx => by subst hx; rw [ja]; omega
theorem aoa {w : World} {tr v : Int} {K : KV} (h : ∀ w', Fr (fun _ => False) w w' → K (pkA ⟨8, tr, gu, gu, v, false, gt, gt, gt⟩) w') : fk P F.ac [.iface T.ae (.agg #[.int .u64 tr, .int .i64 v])] w K := by
 rw [M.af.fcall]
 apply M.af.calls
 unfold M.af
 simp [afd, acj, adg, afh]
 have S0 := agn w
 have z0 : (w.alloc (.cells #[.int .i64 0, .int .u64 0, .int .u64 0, .int .u64 0, .int .u64 0, .int .u64 0, .int .i64 0, .bool false, .slice none 0 0, .slice none 0 0, .slice none 0 0] T.a)).heap.size = w.heap.size + 1 := ja _ _
 generalize w.alloc (.cells #[.int .i64 0, .int .u64 0, .int .u64 0, .int .u64 0, .int .u64 0, .int .u64 0, .int .i64 0, .bool false, .slice none 0 0, .slice none 0 0, .slice none 0 0] T.a) = w1 at *
 have S1 := adv S0 #[.int .u64 0, .int .i64 0] T.ae
 rw [z0] at S1
 generalize w.heap.size = pb at *
 generalize pb + 1 = ob at *
 refine jh (vs := [.int .u64 tr, .int .i64 v]) S1.blk rfl (by simp [ju]) fun w2 b2 f2 => ?_
 have S2 := S1.lg f2 b2
 have c0 : fx w2 ob 0 = some (.int .u64 tr) := by rw [fy b2]; rfl
 have c1 : fx w2 ob 1 = some (.int .i64 v) := by rw [fy b2]; rfl
 simp [c0, c1]
 refine jh (vs := pkC ⟨8, tr, gu, gu, v, false, gt, gt, gt⟩) S2.swap.blk rfl ui fun w3 b3 f3 => ?_
 have S3 := S2.swap.lg f3 b3
 rw [xu S3]
 have e : pkA ⟨8, tr, gu, gu, v, false, gt, gt, gt⟩ = .agg #[.int .i64 8, .int .u64 tr, .int .u64 0, .int .u64 0, .int .u64 0, .int .u64 0, .int .i64 v, .bool false, .slice none 0 0, .slice none 0 0, .slice none 0 0] := rfl
 rw [e]
 simp
 refine jh (vs := pkC ⟨8, tr, gu, gu, v, false, gt, gt, gt⟩) S3.blk rfl ui fun w5 b5 f5 => ?_
 have S5 := S3.lg f5 b5
 rw [abk S5]
 exact ⟨rfl, h w5 S5.fr⟩
theorem alk {w : World} {tr v : Int} {b im : Bal} {ok gr : Bool} {K : KV} (h : ∀ w', Fr (fun _ => False) w w' → K (pkA ⟨if gr = true then 7 else 5, tr, b, im, v, ok, gt, gt, gt⟩) w') : fk P F.ac [.iface T.s (.agg #[.int .u64 tr, .int .u64 b.n, .int .u64 b.gj, .bool ok, .int .u64 im.n, .int .u64 im.gj, .int .i64 v, .bool gr])] w K := by
 rw [M.af.fcall]
 apply M.af.calls
 unfold M.af
 simp [adj, abj, abl]
 have S0 := agn w
 have z0 : (w.alloc (.cells #[.int .i64 0, .int .u64 0, .int .u64 0, .int .u64 0, .int .u64 0, .int .u64 0, .int .i64 0, .bool false, .slice none 0 0, .slice none 0 0, .slice none 0 0] T.a)).heap.size = w.heap.size + 1 := ja _ _
 generalize w.alloc (.cells #[.int .i64 0, .int .u64 0, .int .u64 0, .int .u64 0, .int .u64 0, .int .u64 0, .int .i64 0, .bool false, .slice none 0 0, .slice none 0 0, .slice none 0 0] T.a) = w1 at *
 have S1 := adv S0 #[.int .u64 0, .int .u64 0, .int .u64 0, .bool false, .int .u64 0, .int .u64 0, .int .i64 0, .bool false] T.s
 rw [z0] at S1
 generalize w.heap.size = pb at *
 generalize pb + 1 = ob at *
 refine jh (vs := [.int .u64 tr, .int .u64 b.n, .int .u64 b.gj, .bool ok, .int .u64 im.n, .int .u64 im.gj, .int .i64 v, .bool gr]) S1.blk rfl (by simp [ju]) fun w2 b2 f2 => ?_
 have S2 := S1.lg f2 b2
 have reC : ∀ {W : World} {R : List Asn}, St w W (gc ob [.int .u64 tr, .int .u64 b.n, .int .u64 b.gj, .bool ok, .int .u64 im.n, .int .u64 im.gj, .int .i64 v, .bool gr].toArray T.s :: R) → fx W ob 0 = some (.int .u64 tr) ∧ (∀ K, ldN P 2 ob 1 W K = K (.agg #[.int .u64 b.n, .int .u64 b.gj]) W) ∧ fx W ob 3 = some (.bool ok) ∧ (∀ K, ldN P 2 ob 4 W K = K (.agg #[.int .u64 im.n, .int .u64 im.gj]) W) ∧ fx W ob 6 = some (.int .i64 v) ∧ fx W ob 7 = some (.bool gr) := fun {W R} S' => by
  have hh := S'.blk
  exact ⟨by rw [fy hh]; rfl, fun K => ade (by rw [fy hh]; rfl) (by rw [fy hh]; rfl) K, by rw [fy hh]; rfl, fun K => ade (by rw [fy hh]; rfl) (by rw [fy hh]; rfl) K, by rw [fy hh]; rfl, by rw [fy hh]; rfl⟩
 obtain ⟨c0, c1, c3, c4, c6, _⟩ := reC S2
 simp [c0, c1, c3, c4, c6]
 refine jh (vs := pkC ⟨5, tr, b, im, v, ok, gt, gt, gt⟩) S2.swap.blk rfl ui fun w3 b3 f3 => ?_
 have S3 := S2.swap.lg f3 b3
 obtain ⟨_, _, _, _, _, d7⟩ := reC S3.swap
 cases gr with
 | false =>
  simp [d7]
  rw [xu S3]
  have e : pkA ⟨5, tr, b, im, v, ok, gt, gt, gt⟩ = .agg #[.int .i64 5, .int .u64 tr, .int .u64 b.n, .int .u64 b.gj, .int .u64 im.n, .int .u64 im.gj, .int .i64 v, .bool ok, .slice none 0 0, .slice none 0 0, .slice none 0 0] := rfl
  rw [e]
  simp
  refine jh (vs := pkC ⟨5, tr, b, im, v, ok, gt, gt, gt⟩) S3.blk rfl ui fun w5 b5 f5 => ?_
  have S5 := S3.lg f5 b5
  rw [abk S5]
  exact ⟨rfl, h w5 S5.fr⟩
 | true =>
  have e0 := zk S3.blk 0 _ rfl
  have ez := mj S3.blk
  simp [d7, e0, ez]
  have S4 : St w (w3.setCell ⟨pb, 0, none⟩ (.int .i64 7)) (gc pb (pkC ⟨7, tr, b, im, v, ok, gt, gt, gt⟩).toArray T.a :: _) := S3.lg ((Fr.refl (fun x => x = pb) w3).setCell (.inl rfl) _ _) ((kt S3.blk).trans rfl)
  rw [xu S4]
  have e : pkA ⟨7, tr, b, im, v, ok, gt, gt, gt⟩ = .agg #[.int .i64 7, .int .u64 tr, .int .u64 b.n, .int .u64 b.gj, .int .u64 im.n, .int .u64 im.gj, .int .i64 v, .bool ok, .slice none 0 0, .slice none 0 0, .slice none 0 0] := rfl
  rw [e]
  simp
  refine jh (vs := pkC ⟨7, tr, b, im, v, ok, gt, gt, gt⟩) S4.blk rfl ui fun w5 b5 f5 => ?_
  have S5 := S4.lg f5 b5
  rw [abk S5]
  exact ⟨rfl, h w5 S5.fr⟩
theorem amd {w : World} {tr : Int} {d : Bool} {v : Value} {l : List Spn} (hs : SlS w v l) (hlen : l.length ≤ 1000000) {K : KV} (h : ∀ w' v', SlS w' v' l → Fr (fun _ => False) w w' → K (pkA ⟨if d = true then 2 else 1, tr, gu, gu, 0, false, v', gt, gt⟩) w') : fk P F.ac [.iface T.y (.agg #[.int .u64 tr, .bool d, v])] w K := by
 rw [M.af.fcall]
 apply M.af.calls
 unfold M.af
 obtain ⟨a, c, hv, _⟩ := id hs
 rw [hv]
 simp
 have S0 := agn w
 have z0 : (w.alloc (.cells #[.int .i64 0, .int .u64 0, .int .u64 0, .int .u64 0, .int .u64 0, .int .u64 0, .int .i64 0, .bool false, .slice none 0 0, .slice none 0 0, .slice none 0 0] T.a)).heap.size = w.heap.size + 1 := ja _ _
 generalize w.alloc (.cells #[.int .i64 0, .int .u64 0, .int .u64 0, .int .u64 0, .int .u64 0, .int .u64 0, .int .i64 0, .bool false, .slice none 0 0, .slice none 0 0, .slice none 0 0] T.a) = w1 at *
 have S1 := adv S0 #[.int .u64 0, .bool false, .slice none 0 0] T.y
 rw [z0] at S1
 generalize w.heap.size = pb at *
 generalize pb + 1 = ob at *
 refine jh (vs := [Value.int .u64 tr, .bool d, .slice a l.length c]) S1.blk rfl (by simp [ju]) fun w2 b2 f2 => ?_
 have S2 := S1.lg f2 b2
 have thC : ∀ {W : World} {R : List Asn}, St w W (gc ob [Value.int .u64 tr, .bool d, .slice a l.length c].toArray T.y :: R) → fx W ob 0 = some (.int .u64 tr) ∧ fx W ob 1 = some (.bool d) ∧ fx W ob 2 = some (.slice a l.length c) := fun {W R} S' => by
  have hh := S'.blk
  exact ⟨by rw [fy hh]; rfl, by rw [fy hh]; rfl, by rw [fy hh]; rfl⟩
 have hpl : pb < w2.heap.size := (Array.getElem?_eq_some_iff.1 S2.swap.blk).1
 have fd : Fr (fun _ => False) w2 (dr w2 1) := (Fr.refl _ w2).dr 1
 have Sd := S2.iu fd
 obtain ⟨c0, c1, c2⟩ := thC S2
 obtain ⟨e0, e1, e2⟩ := thC Sd
 simp [c0, c2, e0, e2]
 rw [← hv]
 rw [M.al.fcall]
 refine aca ((hs.fr Sd.fr fun _ _ _ h => h)) hlen fun w3 v3 s3 n3 f3 => ?_
 obtain ⟨a3, c3, hv3, _⟩ := id s3
 have S3 := Sd.iu f3
 obtain ⟨g0, g1, g2⟩ := thC S3
 have hnn : ∀ b, v3.ownBlock = some b → b ≠ pb := fun b hb => by
  have := n3 b hb
  have := fd.size
  omega
 rw [hv3] at s3 hnn ⊢
 simp [g0, g2]
 refine jh (vs := pkC ⟨1, tr, gu, gu, 0, false, .slice a3 l.length c3, gt, gt⟩) S3.swap.blk rfl ui fun w4 b4 f4 => ?_
 have S4 := S3.swap.lg f4 b4
 have s4 : SlS w4 (.slice a3 l.length c3) l := s3.fr f4 fun b hb _ => hnn b hb
 obtain ⟨i0, i1, i2⟩ := thC S4.swap
 cases d with
 | false =>
  simp [i0, i2, i1]
  rw [xu S4]
  have e : pkA ⟨1, tr, gu, gu, 0, false, .slice a3 l.length c3, gt, gt⟩ = .agg #[.int .i64 1, .int .u64 tr, .int .u64 0, .int .u64 0, .int .u64 0, .int .u64 0, .int .i64 0, .bool false, .slice a3 l.length c3, .slice none 0 0, .slice none 0 0] := rfl
  rw [e]
  simp
  refine jh (vs := pkC ⟨1, tr, gu, gu, 0, false, .slice a3 l.length c3, gt, gt⟩) S4.blk rfl ui fun w5 b5 f5 => ?_
  have S5 := S4.lg f5 b5
  rw [abk S5]
  exact ⟨rfl, h w5 _ (s4.fr f5 fun b hb _ => hnn b hb) S5.fr⟩
 | true =>
  have e0 := zk S4.blk 0 _ rfl
  have ez := mj S4.blk
  simp [i0, i2, i1, e0, ez]
  have f6 : Fr (fun x => x = pb) w4 (w4.setCell ⟨pb, 0, none⟩ (.int .i64 2)) := (Fr.refl (fun x => x = pb) w4).setCell (.inl rfl) _ _
  have S6 : St w (w4.setCell ⟨pb, 0, none⟩ (.int .i64 2)) (gc pb (pkC ⟨2, tr, gu, gu, 0, false, .slice a3 l.length c3, gt, gt⟩).toArray T.a :: _) := S4.lg f6 ((kt S4.blk).trans rfl)
  have s6 : SlS (w4.setCell ⟨pb, 0, none⟩ (.int .i64 2)) (.slice a3 l.length c3) l := s4.fr f6 fun b hb _ => hnn b hb
  rw [xu S6]
  have e : pkA ⟨2, tr, gu, gu, 0, false, .slice a3 l.length c3, gt, gt⟩ = .agg #[.int .i64 2, .int .u64 tr, .int .u64 0, .int .u64 0, .int .u64 0, .int .u64 0, .int .i64 0, .bool false, .slice a3 l.length c3, .slice none 0 0, .slice none 0 0] := rfl
  rw [e]
  simp
  refine jh (vs := pkC ⟨2, tr, gu, gu, 0, false, .slice a3 l.length c3, gt, gt⟩) S6.blk rfl ui fun w5 b5 f5 => ?_
  have S5 := S6.lg f5 b5
  rw [abk S5]
  exact ⟨rfl, h w5 _ (s6.fr f5 fun b hb _ => hnn b hb) S5.fr⟩
theorem akn {w : World} {tr : Int} {b : Bal} {v : Value} {l : List Spn} (hs : SlS w v l) (hlen : l.length ≤ 1000000) {K : KV} (h : ∀ w' v', SlS w' v' l → Fr (fun _ => False) w w' → K (pkA ⟨9, tr, b, gu, 0, false, v', gt, gt⟩) w') : fk P F.ac [.iface T.w (.agg #[.int .u64 tr, .int .u64 b.n, .int .u64 b.gj, v])] w K := by
 rw [M.af.fcall]
 apply M.af.calls
 unfold M.af
 obtain ⟨a, c, hv, _⟩ := id hs
 rw [hv]
 simp [acq, aai, aah, acp, adm]
 have S0 := agn w
 have z0 : (w.alloc (.cells #[.int .i64 0, .int .u64 0, .int .u64 0, .int .u64 0, .int .u64 0, .int .u64 0, .int .i64 0, .bool false, .slice none 0 0, .slice none 0 0, .slice none 0 0] T.a)).heap.size = w.heap.size + 1 := ja _ _
 generalize w.alloc (.cells #[.int .i64 0, .int .u64 0, .int .u64 0, .int .u64 0, .int .u64 0, .int .u64 0, .int .i64 0, .bool false, .slice none 0 0, .slice none 0 0, .slice none 0 0] T.a) = w1 at *
 have S1 := adv S0 #[.int .u64 0, .int .u64 0, .int .u64 0, .slice none 0 0] T.w
 rw [z0] at S1
 generalize w.heap.size = pb at *
 generalize pb + 1 = ob at *
 refine jh (vs := [Value.int .u64 tr, .int .u64 b.n, .int .u64 b.gj, .slice a l.length c]) S1.blk rfl (by simp [ju]) fun w2 b2 f2 => ?_
 have S2 := S1.lg f2 b2
 have thC : ∀ {W : World} {R : List Asn}, St w W (gc ob [Value.int .u64 tr, .int .u64 b.n, .int .u64 b.gj, .slice a l.length c].toArray T.w :: R) → fx W ob 0 = some (.int .u64 tr) ∧ (∀ K, ldN P 2 ob 1 W K = K (.agg #[.int .u64 b.n, .int .u64 b.gj]) W) ∧ fx W ob 3 = some (.slice a l.length c) := fun {W R} S' => by
  have hh := S'.blk
  exact ⟨by rw [fy hh]; rfl, fun K => ade (by rw [fy hh]; rfl) (by rw [fy hh]; rfl) K, by rw [fy hh]; rfl⟩
 have hpl : pb < w2.heap.size := (Array.getElem?_eq_some_iff.1 S2.swap.blk).1
 have fd : Fr (fun _ => False) w2 (dr w2 1) := (Fr.refl _ w2).dr 1
 have Sd := S2.iu fd
 obtain ⟨c0, c1, c2⟩ := thC S2
 obtain ⟨e0, e1, e2⟩ := thC Sd
 simp [c0, c1, c2, e0, e1, e2]
 rw [← hv]
 rw [M.al.fcall]
 refine aca ((hs.fr Sd.fr fun _ _ _ h => h)) hlen fun w3 v3 s3 n3 f3 => ?_
 obtain ⟨a3, c3, hv3, _⟩ := id s3
 have S3 := Sd.iu f3
 obtain ⟨g0, g1, g2⟩ := thC S3
 have hnn : ∀ b, v3.ownBlock = some b → b ≠ pb := fun b hb => by
  have := n3 b hb
  have := fd.size
  omega
 rw [hv3] at s3 hnn ⊢
 simp [g0, g1, g2]
 refine jh (vs := pkC ⟨9, tr, b, gu, 0, false, .slice a3 l.length c3, gt, gt⟩) S3.swap.blk rfl ui fun w4 b4 f4 => ?_
 have S4 := S3.swap.lg f4 b4
 have s4 : SlS w4 (.slice a3 l.length c3) l := s3.fr f4 fun b hb _ => hnn b hb
 rw [xu S4]
 have e : pkA ⟨9, tr, b, gu, 0, false, .slice a3 l.length c3, gt, gt⟩ = .agg #[.int .i64 9, .int .u64 tr, .int .u64 b.n, .int .u64 b.gj, .int .u64 0, .int .u64 0, .int .i64 0, .bool false, .slice a3 l.length c3, .slice none 0 0, .slice none 0 0] := rfl
 rw [e]
 simp
 refine jh (vs := pkC ⟨9, tr, b, gu, 0, false, .slice a3 l.length c3, gt, gt⟩) S4.blk rfl ui fun w5 b5 f5 => ?_
 have S5 := S4.lg f5 b5
 rw [abk S5]
 exact ⟨rfl, h w5 _ (s4.fr f5 fun b hb _ => hnn b hb) S5.fr⟩
theorem amj {w : World} {tr : Int} {v : Value} {l : List Int} (hs : SlU w v l) (hlen : l.length ≤ 1000000) {K : KV} (h : ∀ w' v', SlU w' v' l → Fr (fun _ => False) w w' → K (pkA ⟨10, tr, gu, gu, 0, false, gt, gt, v'⟩) w') : fk P F.ac [.iface T.ab (.agg #[.int .u64 tr, v])] w K := by
 rw [M.af.fcall]
 apply M.af.calls
 unfold M.af
 obtain ⟨a, c, hv, _⟩ := id hs
 rw [hv]
 simp [adk, abp, acb, adt, aff, acm]
 have S0 := agn w
 have z0 : (w.alloc (.cells #[.int .i64 0, .int .u64 0, .int .u64 0, .int .u64 0, .int .u64 0, .int .u64 0, .int .i64 0, .bool false, .slice none 0 0, .slice none 0 0, .slice none 0 0] T.a)).heap.size = w.heap.size + 1 := ja _ _
 generalize w.alloc (.cells #[.int .i64 0, .int .u64 0, .int .u64 0, .int .u64 0, .int .u64 0, .int .u64 0, .int .i64 0, .bool false, .slice none 0 0, .slice none 0 0, .slice none 0 0] T.a) = w1 at *
 have S1 := adv S0 #[.int .u64 0, .slice none 0 0] T.ab
 rw [z0] at S1
 generalize w.heap.size = pb at *
 generalize pb + 1 = ob at *
 refine jh (vs := [Value.int .u64 tr, .slice a l.length c]) S1.blk rfl (by simp [ju]) fun w2 b2 f2 => ?_
 have S2 := S1.lg f2 b2
 have thC : ∀ {W : World} {R : List Asn}, St w W (gc ob [Value.int .u64 tr, .slice a l.length c].toArray T.ab :: R) → fx W ob 0 = some (.int .u64 tr) ∧ fx W ob 1 = some (.slice a l.length c) := fun {W R} S' => by
  have hh := S'.blk
  exact ⟨by rw [fy hh]; rfl, by rw [fy hh]; rfl⟩
 have hpl : pb < w2.heap.size := (Array.getElem?_eq_some_iff.1 S2.swap.blk).1
 have fd : Fr (fun _ => False) w2 (dr w2 1) := (Fr.refl _ w2).dr 1
 have Sd := S2.iu fd
 obtain ⟨c0, c1⟩ := thC S2
 obtain ⟨e0, e1⟩ := thC Sd
 simp [c0, c1, e0, e1]
 rw [← hv]
 refine anq ((hs.fr Sd.fr fun _ _ _ h => h)) hlen fun w3 v3 s3 n3 f3 => ?_
 obtain ⟨a3, c3, hv3, _⟩ := id s3
 have S3 := Sd.iu f3
 obtain ⟨g0, g1⟩ := thC S3
 have hnn : ∀ b, v3.ownBlock = some b → b ≠ pb := fun b hb => by
  have := n3 b hb
  have := fd.size
  omega
 rw [hv3] at s3 hnn ⊢
 simp [g0, g1]
 refine jh (vs := pkC ⟨10, tr, gu, gu, 0, false, gt, gt, .slice a3 l.length c3⟩) S3.swap.blk rfl ui fun w4 b4 f4 => ?_
 have S4 := S3.swap.lg f4 b4
 have s4 : SlU w4 (.slice a3 l.length c3) l := s3.fr f4 fun b hb _ => hnn b hb
 rw [xu S4]
 have e : pkA ⟨10, tr, gu, gu, 0, false, gt, gt, .slice a3 l.length c3⟩ = .agg #[.int .i64 10, .int .u64 tr, .int .u64 0, .int .u64 0, .int .u64 0, .int .u64 0, .int .i64 0, .bool false, .slice none 0 0, .slice none 0 0, .slice a3 l.length c3] := rfl
 rw [e]
 simp
 refine jh (vs := pkC ⟨10, tr, gu, gu, 0, false, gt, gt, .slice a3 l.length c3⟩) S4.blk rfl ui fun w5 b5 f5 => ?_
 have S5 := S4.lg f5 b5
 rw [abk S5]
 exact ⟨rfl, h w5 _ (s4.fr f5 fun b hb _ => hnn b hb) S5.fr⟩
def rj (p : Pk) (ls : List Spn) (lm : List Mem) (lu : List Int) : Bool :=
 if p.fu = 1 ∨ p.fu = 2 then agd p.tr ls else if p.fu = 3 then ym lm else if p.fu = 4 ∨ p.fu = 6 then arj p.tr p.b p.v else if p.fu = 5 ∨ p.fu = 7 then agc p.tr p.b p.ok p.im p.v (decide (p.fu = 7)) else if p.fu = 8 then aoh p.tr p.v else if p.fu = 9 then ahv p.tr p.b ls else if p.fu = 10 then akm p.tr lu else false
theorem ThR.fr {w w' : World} {p : Pk} {ls : List Spn} {lm : List Mem} {lu : List Int} {t : Value} (h : ThR w p ls lm lu t) (hf : Fr (fun _ => False) w w') : ThR w' p ls lm lu t := by
 cases h with
 | si v hk hs => exact .si v hk (hs.fr hf fun _ _ _ h => h)
 | afw v hk hs => exact .afw v hk (hs.fr hf fun _ _ _ h => h)
 | ask hk => exact .ask hk
 | yd hk => exact .yd hk
 | uo hk => exact .uo hk
 | vk v hk hs => exact .vk v hk (hs.fr hf fun _ _ _ h => h)
 | yg v hk hs => exact .yg v hk (hs.fr hf fun _ _ _ h => h)
 | none hk => exact .none hk
theorem bed (n : Nat) (w : World) (K : KV) : fj P .eql T.aq (.tmp n) (.const .nilIface) .nilIface .nilIface w K = K (.bool true) w := .trans (by kernel_rfl) rfl
theorem ThR.eqn {w : World} {p : Pk} {ls : List Spn} {lm : List Mem} {lu : List Int} {t : Value} (h : ThR w p ls lm lu t) (hk : 1 ≤ p.fu ∧ p.fu ≤ 10) (rx ry : Operand) (w1 : World) (K : KV) : fj P .eql T.aq rx ry t .nilIface w1 K = K (.bool false) w1 := by
 cases h with
 | si v hk hs => exact axe _ _ _ _ _
 | afw v hk hs => exact arw _ _ _ _ _
 | ask hk => exact bez _ _ _ _ _
 | yd hk => exact axj _ _ _ _ _
 | uo hk => exact azx _ _ _ _ _
 | vk v hk hs => exact avr _ _ _ _ _
 | yg v hk hs => exact awp _ _ _ _ _
 | none hn => exact absurd hk hn
theorem ThR.bgw {w : World} {p : Pk} {ls : List Spn} {lm : List Mem} {lu : List Int} {t : Value} (h : ThR w p ls lm lu t) (hk : ¬ (1 ≤ p.fu ∧ p.fu ≤ 10)) : t = .nilIface := by
 cases h with
 | none hn => rfl
 | _ => omega
theorem bek {w : World} {p : Pk} {ls : List Spn} {lm : List Mem} {lu : List Int} {t : Value} (ht : ThR w p ls lm lu t) (hk : 1 ≤ p.fu ∧ p.fu ≤ 10) (l1 : ls.length ≤ 1000000) (l2 : lm.length ≤ 1000000) (l3 : lu.length ≤ 1000000) {K : KV}
  (h : ∀ w', Fr (fun _ => False) w w' → K (.bool (rj p ls lm lu)) w') : fk P F.aj [t] w K := by
 unfold rj at h
 cases ht with
 | si v q hs => simp only [if_pos q] at h; exact anz hs l1 h
 | afw v q hs => simp only [q, show ¬ ((3 : Int) = 1 ∨ (3 : Int) = 2) by omega, if_false, if_true] at h; exact axc hs l2 h
 | ask q => rw [if_neg (by omega), if_neg (by omega), if_pos q] at h; exact asl h
 | yd q => rw [if_neg (by omega), if_neg (by omega), if_neg (by omega), if_pos q] at h; exact anv h
 | uo q => rw [if_neg (by omega), if_neg (by omega), if_neg (by omega), if_neg (by omega), if_pos q] at h; exact apa h
 | vk v q hs => rw [if_neg (by omega), if_neg (by omega), if_neg (by omega), if_neg (by omega), if_neg (by omega), if_pos q] at h; exact ali hs l1 h
 | yg v q hs => rw [if_neg (by omega), if_neg (by omega), if_neg (by omega), if_neg (by omega), if_neg (by omega), if_neg (by omega), if_pos q] at h; exact aob hs l3 h
 | none q => exact absurd hk q
structure zd (w : World) (p : Pk) (ls : List Spn) (lm : List Mem) (lu : List Int) : Prop where
 s : SlS w p.sv ls
 m : SlM w p.mv lm
 u : SlU w p.iv lu
structure wy (p : Pk) : Prop where
 tr : tu p.tr
 b : p.b.rng
 im : p.im.rng
theorem zd.fr {w w' : World} {p : Pk} {ls : List Spn} {lm : List Mem} {lu : List Int} (h : zd w p ls lm lu) (hf : Fr (fun _ => False) w w') : zd w' p ls lm lu :=
 ⟨h.s.fr hf fun _ _ _ h => h, h.m.fr hf fun _ _ _ h => h, h.u.fr hf fun _ _ _ h => h⟩
theorem zd.rd {w : World} {p : Pk} {ls : List Spn} {lm : List Mem} {lu : List Int} (h : zd w p ls lm lu) (h1 : ls.length ≤ 1000000) (h2 : lm.length ≤ 1000000) (h3 : lu.length ≤ 1000000) : oz w p ls lm lu := ⟨h.s, h.m, h.u, h1, h2, h3⟩
theorem wfP {x : Int} (h : (Lit.int .u64 x).wf = true) : 0 ≤ x ∧ x ≤ 18446744073709551615 := by
 simp [Lit.wf, IntKind.min, IntKind.max, IntKind.bits, IntKind.signed] at h
 omega
theorem ya {x : Int} (h : (Lit.int .u64 x).wf = true) : tu x := by
 have := wfP h
 exact ⟨this.1, by omega⟩
theorem amh {α : Type} {w : World} {sz : Nat} {enc : α → List Value} {Q : α → Prop} {v : Value} {l : List α} (h : tc w sz (fun w b o x => rdE enc w b o x ∧ Q x) v l) : Sl w sz enc v l ∧ ∀ x ∈ l, Q x := by
 refine ⟨tc.mono h fun b o x hx => hx.1, fun x hx => ?_⟩
 obtain ⟨i, hi, rfl⟩ := List.getElem_of_mem hx
 obtain ⟨a, cap, _, _, _, h3⟩ := h
 obtain ⟨b, o, _, _, hr⟩ := h3 i _ (List.getElem?_eq_getElem hi)
 exact hr.2
theorem bbb {w : World} {n : Nat} {v : Value} (h : TV P w n T.f [v]) : ∃ l, SlU w v l ∧ ∀ x ∈ l, tu x := by
 have : ∃ l : List Int, tc w 1 (fun w b o x => rdE yl w b o x ∧ tu x) v l := by
  refine abt (sz := 1) (rd := fun w b o x => rdE yl w b o x ∧ tu x) (e := T.d) (by kernel_rfl) (by kernel_rfl) (by decide) (fun n b o cs ht hl hc => ?_) h
  obtain ⟨x, hx, hw⟩ := qg (k := .u64) (by kernel_rfl) ht
  subst hx
  exact ⟨x, fun j u hj => hc j u hj, ya hw⟩
 obtain ⟨l, hl⟩ := this
 exact ⟨l, amh hl⟩
structure avg (s : Spn) : Prop where
 tr : tu s.mh
 id : tu s.id
 par : tu s.qi
 st : tu s.jc
 ln : tu s.len
theorem ayh {w : World} {n : Nat} {v : Value} (h : TV P w n T.n [v]) : ∃ l, SlS w v l ∧ ∀ s ∈ l, avg s := by
 suffices hh : ∃ l : List Spn, tc w 8 (fun w b o x => rdE zf w b o x ∧ avg x) v l by
  obtain ⟨l, hl⟩ := hh
  exact ⟨l, amh hl⟩
 refine abt (sz := 8) (rd := fun w b o x => rdE zf w b o x ∧ avg x) Tryz.underlying42 (by kernel_rfl) (by decide) (fun n b o cs ht hl hc => ?_) h
 obtain ⟨_, hf⟩ := zr Tryz.underlying85 ht
 obtain ⟨m0, t0⟩ := hf 0 _ rfl
 obtain ⟨m1, t1⟩ := hf 1 _ rfl
 obtain ⟨m2, t2⟩ := hf 2 _ rfl
 obtain ⟨m3, t3⟩ := hf 3 _ rfl
 obtain ⟨m4, t4⟩ := hf 4 _ rfl
 obtain ⟨m5, t5⟩ := hf 5 _ rfl
 obtain ⟨m6, t6⟩ := hf 6 _ rfl
 obtain ⟨m7, t7⟩ := hf 7 _ rfl
 obtain ⟨x0, e0, g0⟩ := qg Tryz.underlying35 t0
 obtain ⟨x1, e1, g1⟩ := qg Tryz.underlying35 t1
 obtain ⟨x2, e2, g2⟩ := qg Tryz.underlying35 t2
 obtain ⟨x3, e3, g3⟩ := qg Tryz.underlying35 t3
 obtain ⟨x4, e4, g4⟩ := qg Tryz.underlying35 t4
 obtain ⟨x5, e5, _⟩ := ano Tryz.underlying9 t5
 obtain ⟨x6, e6, _⟩ := ano Tryz.underlying9 t6
 obtain ⟨x7, e7⟩ := att Tryz.underlying4 t7
 have c0 : Tryz.prog.cellsOf T.d = 1 := by kernel_rfl
 have c1 : Tryz.prog.cellsOf T.al = 1 := by kernel_rfl
 have c2 : Tryz.prog.cellsOf T.ar = 1 := by kernel_rfl
 match cs, hl with
 | [u0, u1, u2, u3, u4, u5, u6, u7], _ =>
  simp [c0, c1, c2] at e0 e1 e2 e3 e4 e5 e6 e7
  subst e0 e1 e2 e3 e4 e5 e6 e7
  exact ⟨⟨x0, x1, x2, x3, x4, x5, x6, x7⟩, fun j u hj => hc j u hj, ya g0, ya g1, ya g2, ya g3, ya g4⟩
theorem bev {w : World} {n : Nat} {c : Array Value} (ht : TV P w n T.v c.toList) : ∃ m, Value.agg c = px m ∧ 0 ≤ m.id ∧ 0 ≤ m.inc := by
 obtain ⟨hl, hf⟩ := zr Tryz.underlying139 ht
 have hl3 : Tryz.prog.cellsOf T.v = 3 := by kernel_rfl
 rw [hl3] at hl
 obtain ⟨m0, t0⟩ := hf 0 _ rfl
 obtain ⟨m1, t1⟩ := hf 1 _ rfl
 obtain ⟨m2, t2⟩ := hf 2 _ rfl
 obtain ⟨x0, e0, y0⟩ := qg (k := .u64) (by kernel_rfl) t0
 obtain ⟨x1, e1, y1⟩ := qg (k := .u64) (by kernel_rfl) t1
 obtain ⟨x2, e2, _⟩ := qg (k := .i64) (by kernel_rfl) t2
 have c0 : Tryz.prog.cellsOf T.d = 1 := by kernel_rfl
 have c1 : Tryz.prog.cellsOf T.b = 1 := by kernel_rfl
 refine ⟨⟨x0, x1, x2⟩, ?_, (wfP y0).1, (wfP y1).1⟩
 unfold px
 congr 1
 apply Array.toList_inj.1
 match hcl : c.toList, hl with
 | [u0, u1, u2], _ =>
  rw [hcl] at e0 e1 e2
  simp [c0, c1] at e0 e1 e2
  subst e0 e1 e2
  rfl
theorem asd {w : World} {n : Nat} {v : Value} (h : TV P w n T.o [v]) : ∃ l, SlM w v l ∧ ∀ m ∈ l, 0 ≤ m.id ∧ 0 ≤ m.inc := by
 suffices hh : ∃ l : List Mem, tc w 3 (fun w b o x => rdE acd w b o x ∧ (0 ≤ x.id ∧ 0 ≤ x.inc)) v l by
  obtain ⟨l, hl⟩ := hh
  exact ⟨l, amh hl⟩
 refine abt (sz := 3) (rd := fun w b o x => rdE acd w b o x ∧ (0 ≤ x.id ∧ 0 ≤ x.inc)) et.o.ty (by kernel_rfl) (by decide) (fun n b o cs ht hl hc => ?_) h
 obtain ⟨m, hm, hr⟩ := bev (c := cs.toArray) (by simpa using ht)
 unfold px at hm
 injection hm with hm
 have : cs = acd m := by
  have := congrArg Array.toList hm
  simpa [acd] using this
 subst this
 exact ⟨m, fun j u hj => hc j u hj, hr⟩
structure LsR (ls : List Spn) (lm : List Mem) (lu : List Int) : Prop where
 s : ∀ x ∈ ls, avg x
 m : ∀ x ∈ lm, 0 ≤ x.id ∧ 0 ≤ x.inc
 u : ∀ x ∈ lu, tu x
theorem ayy {w : World} {n : Nat} {cs : List Value} (ht : TV P w n T.c cs) : ∃ b : Bal, cs = [.int .u64 b.n, .int .u64 b.gj] ∧ b.rng := by
 obtain ⟨hl, hf⟩ := zr Tryz.underlying40 ht
 have hl2 : Tryz.prog.cellsOf T.c = 2 := by kernel_rfl
 rw [hl2] at hl
 obtain ⟨m0, t0⟩ := hf 0 _ rfl
 obtain ⟨m1, t1⟩ := hf 1 _ rfl
 obtain ⟨x0, e0, h0⟩ := qg (k := .u64) (by kernel_rfl) t0
 obtain ⟨x1, e1, h1⟩ := qg (k := .u64) (by kernel_rfl) t1
 have c0 : Tryz.prog.cellsOf T.d = 1 := by kernel_rfl
 match cs, hl with
 | [u0, u1], _ =>
  simp [c0] at e0 e1
  subst e0 e1
  exact ⟨⟨x0, x1⟩, rfl, ya h0, ya h1⟩
theorem bhg {w : World} {n : Nat} {cs : List Value} (ht : TV P w n T.a cs) : ∃ p ls lm lu, cs = pkC p ∧ zd w p ls lm lu ∧ wy p ∧ LsR ls lm lu := by
 obtain ⟨hl, hf⟩ := zr Tryz.underlying46 ht
 have hl11 : Tryz.prog.cellsOf T.a = 11 := by kernel_rfl
 rw [hl11] at hl
 obtain ⟨m0, t0⟩ : ∃ m, TV P w m T.b ((cs.drop 0).take (P.cellsOf T.b)) := hf 0 _ rfl
 obtain ⟨m1, t1⟩ : ∃ m, TV P w m T.d ((cs.drop 1).take (P.cellsOf T.d)) := hf 1 _ rfl
 obtain ⟨m2, t2⟩ : ∃ m, TV P w m T.c ((cs.drop 2).take (P.cellsOf T.c)) := hf 2 _ rfl
 obtain ⟨m3, t3⟩ : ∃ m, TV P w m T.c ((cs.drop 4).take (P.cellsOf T.c)) := hf 3 _ rfl
 obtain ⟨m4, t4⟩ : ∃ m, TV P w m T.j ((cs.drop 6).take (P.cellsOf T.j)) := hf 4 _ rfl
 obtain ⟨m5, t5⟩ : ∃ m, TV P w m T.ar ((cs.drop 7).take (P.cellsOf T.ar)) := hf 5 _ rfl
 obtain ⟨m6, t6⟩ : ∃ m, TV P w m T.n ((cs.drop 8).take (P.cellsOf T.n)) := hf 6 _ rfl
 obtain ⟨m7, t7⟩ : ∃ m, TV P w m T.o ((cs.drop 9).take (P.cellsOf T.o)) := hf 7 _ rfl
 obtain ⟨m8, t8⟩ : ∃ m, TV P w m T.f ((cs.drop 10).take (P.cellsOf T.f)) := hf 8 _ rfl
 have c0 : P.cellsOf T.b = 1 := by kernel_rfl
 have c1 : P.cellsOf T.d = 1 := by kernel_rfl
 have c2 : P.cellsOf T.c = 2 := by kernel_rfl
 have c3 : P.cellsOf T.j = 1 := by kernel_rfl
 have c4 : P.cellsOf T.ar = 1 := by kernel_rfl
 have c5 : P.cellsOf T.n = 1 := by kernel_rfl
 have c6 : P.cellsOf T.o = 1 := by kernel_rfl
 have c7 : P.cellsOf T.f = 1 := by kernel_rfl
 match cs, hl with
 | [u0, u1, u2, u3, u4, u5, u6, u7, u8, u9, u10], _ =>
  simp only [c0, c1, c2, c3, c4, c5, c6, c7, List.drop_zero, List.drop_succ_cons, List.take_succ_cons, List.take_zero] at t0 t1 t2 t3 t4 t5 t6 t7 t8
  obtain ⟨x0, e0, _⟩ := qg (k := .i64) (by kernel_rfl) t0
  obtain ⟨x1, e1, g1⟩ := qg (k := .u64) (by kernel_rfl) t1
  obtain ⟨b2, e2, g2⟩ := ayy t2
  obtain ⟨b3, e3, g3⟩ := ayy t3
  obtain ⟨x4, e4, _⟩ := qg (k := .i64) (by kernel_rfl) t4
  obtain ⟨x5, e5⟩ := att (by kernel_rfl) t5
  obtain ⟨ls, s6, f6⟩ := ayh t6
  obtain ⟨lm, s7, f7⟩ := asd t7
  obtain ⟨lu, s8, f8⟩ := bbb t8
  simp only [List.cons.injEq, and_true] at e0 e1 e2 e3 e4 e5
  obtain ⟨rfl, rfl⟩ := e2
  obtain ⟨rfl, rfl⟩ := e3
  subst e0 e1 e4 e5
  exact ⟨⟨x0, x1, b2, b3, x4, x5, u8, u9, u10⟩, ls, lm, lu, rfl, ⟨s6, s7, s8⟩, ⟨ya g1, g2, g3⟩, f6, f7, f8⟩
open Go.Eng Go.Proofs.YtfnhoaemapheoaaGreat.Sint
abbrev PB := SV × List Int
section
variable {w0 w w' : World} {R : List Asn} {v : Value} {l : List PB} {ls : List (List Int)}
end
set_option maxRecDepth 100000
open Go.Eng Go.Proofs.YtfnhoaemapheoaaGreat.Sint
section
variable {s f : Int} {Q Q0 : List Prt} {q : Prt} {F : Nat} {D : Dk} {w : Prop} {fa lo : List Int} {L : Lg} {b l : List Int}
theorem apm : ∀ ds : List (List Int), 8 * ds.length ≤ (cat ds).length
 | [] => by simp
 | d :: ds => by
  have := apm ds
  have e : cat (d :: ds) = ii d ++ cat ds := by simp [cat]
  rw [e, List.length_append, mo]; simp; omega
theorem aqz : ∀ Q0 : List Prt, 8 * (gh Q0).length ≤ ((Q0.map ke).map Fil.len).sum
 | [] => by simp [gh]
 | q :: Q0 => by
  have h1 := aqz Q0
  have h2 := apm q.ga
  have e : gh (q :: Q0) = q.ga ++ gh Q0 := by unfold gh; simp
  have e2 : (ke q).len = (mn q.first).length + (cat q.ga).length := by unfold ke Fil.len body; simp
  rw [e, List.map_cons, List.map_cons, List.sum_cons, List.length_append, e2]
  omega
theorem ava : ∀ Q0 : List Prt, ∀ q ∈ Q0, (body q).length ≤ ((Q0.map ke).map Fil.len).sum := fun Q0 q hq => by
 have : (ke q).len ≤ ((Q0.map ke).map Fil.len).sum := afa (List.mem_map_of_mem (List.mem_map_of_mem hq))
 have e2 : (ke q).len = (body q).length := by unfold ke Fil.len; simp
 omega
theorem anb (h : ni s f L F D) : (∀ q ∈ L.fq, (body q).length ≤ D.ib) ∧ 8 * (gh L.fq).length ≤ D.ib := by
 rcases h.vir.dsc with ⟨hq, _⟩ | ⟨Q0, q, fa, lo, m, hq, hf, _, hw, _⟩
 ·rw [hq]; exact ⟨fun q h => by simp at h, by simp [gh]⟩
 ·have hb : fa.length + lo.length = (body q).length := by rw [← hw trivial, List.length_append]
  have hc : (body q).length = (mn q.first).length + (cat q.ga).length := by unfold body; rw [List.length_append]
  have hcg := apm q.ga
  have hu : D.ib = ((Q0.map ke).map Fil.len).sum + (body q).length := by
   unfold Dk.ib
   rw [hf, List.map_append, List.sum_append]
   simp [Fil.len]; omega
  refine ⟨fun x hx => ?_, ?_⟩
  ·rw [hq] at hx
   rcases List.mem_append.1 hx with hx | hx
   ·have := ava Q0 x hx; omega
   ·rw [List.mem_singleton.1 hx]; omega
  ·have := aqz Q0
   rw [hq, lh, qy, List.length_append]
   omega
theorem api : ∀ {Q : List Prt} {s f : Int}, Chn s f Q → ∀ q ∈ Q, ∀ d ∈ q.ga, d.length ≤ 8192
 | q :: r, s, f, h, x, hx, d, hd => by
  rcases List.mem_cons.1 hx with rfl | hx
  ·exact h.2.2.1 d hd
  ·exact api h.2.2.2 x hx d hd
theorem bgn : ∀ {Q : List Prt}, ∀ q ∈ Q, q.ga.length ≤ (gh Q).length := fun {Q} q hq => by
 obtain ⟨a, c, rfl⟩ := List.append_of_mem hq
 unfold gh; simp; omega
end
section
variable {w0 w : World} {R : List Asn} {p hb : Nat} {L : Lg} {D : Dk} {s f : Int} {G : Nat}
theorem amu (S : St w0 w (gk hb D :: R)) : D.ie ≤ 1048576 ∧ (D.ib : Int) ≤ D.ie := by
 obtain ⟨r, m, es, hk, _⟩ := xj S
 exact ⟨hk.ie, hk.ib⟩
theorem ard (S : St w0 w (gk hb D :: R)) (h : ni s f L G D) : (gh L.fq).length ≤ 131072 := by
 have h1 := amu S
 have h2 := (anb h).2
 omega
theorem bgk (S : St w0 w (gk hb D :: R)) (h : ni s f L G D) : LgB L := by
 have h1 := amu S
 have h2 := anb h
 refine ⟨by have := h.vir.len; omega, ata h.vir.s0 h.vir.chn, fun q hq => ?_, fun q hq => ?_⟩
 ·have := bgn q hq; omega
 ·have := h.size q hq
  have := h2.1 q hq
  omega
theorem apu (S : St w0 w (la p hb L :: gk hb D :: R)) (h : ni s f L G D) {K : KV} (hK : ∀ w' v', St w0 w' (jv v' (gh L.fq) :: la p hb L :: gk hb D :: R) → K v' w') : fk P F.bw [jd p] w K := by
 have h1 := ard S.swap h
 exact bdo S (by have := h.vir.len; omega) (by unfold Lg.all; unfold gh at h1; omega) (fun q hq d hd => by have := api h.vir.chn q hq d hd; omega) hK
end
set_option maxRecDepth 100000
open Go.Eng Go.Proofs.YtfnhoaemapheoaaGreat.Sint
theorem aup {m s f : Int} {q q2 : Prt} {r : List Prt} {D : Dk} {F : Nat} (h : ni s f ⟨m, q :: q2 :: r⟩ F D) : D.oc q.no = (D.rem q.no, 0) ∧ ni ((s + 1) % 64) (f + q.ga.length) ⟨m, q2 :: r⟩ (F - q.ga.length) (D.rem q.no) ∧ q2.first = f + q.ga.length := by
 have hv := h.vir
 have hs := hv.s0
 have hnd := agu hs hv.chn (by have := hv.len; omega)
 simp only at hv hnd
 have hfew := hv.few
 have e0 : (gh (q :: q2 :: r)).length = q.ga.length + (gh (q2 :: r)).length := by unfold gh; simp
 rcases hv.dsc with ⟨hx, _⟩ | ⟨Q0, ql, fa, lo, mm, hx, hf, hp, hw, hmm, hF, hy⟩
 ·simp at hx
 ·cases Q0 with
  | nil => simp at hx
  | cons q' Q0 =>
   rw [List.cons_append] at hx
   obtain ⟨rfl, hx2⟩ := List.cons.inj hx
   rw [List.map_cons, List.cons_append] at hf
   have hB : ∀ x ∈ Q0.map ke ++ [(⟨ql.no, fa, lo⟩ : Fil)], x.n ≠ (ke q).n := fun x hx he => by
    rw [hx2, List.map_cons, List.nodup_cons] at hnd
    refine hnd.1 ?_
    have he2 : x.n = q.no := he
    rw [← he2]
    rcases List.mem_append.1 hx with hx | hx
    ·obtain ⟨p, hp, rfl⟩ := List.mem_map.1 hx
     exact List.mem_map_of_mem (List.mem_append_left _ hp)
    ·rw [List.mem_singleton.1 hx]; simp
   have hg : D.get q.no = some (ke q) := yw (A := []) hf (by simp)
   have hr := atq (A := []) hf (by simp) hB
   rw [List.nil_append] at hr
   have hch := hv.chn
   refine ⟨by unfold Dk.oc; rw [h.up, hg]; rfl, ⟨⟨hch.2.2.2, by omega, by have := hv.f0; omega, by have := hv.len; simp at this ⊢; omega, by rw [e0] at hfew; show f + (q.ga.length : Int) + ((gh (q2 :: r)).length : Int) ≤ _; omega, ?_, fun hx => by simp at hx, fun x hx => h.size x (List.mem_cons_of_mem _ hx)⟩, fun x hx => h.size x (List.mem_cons_of_mem _ hx), h.up⟩, hch.2.2.2.2.1⟩
   have e7 : (gh (q :: Q0)).length = q.ga.length + (gh Q0).length := by unfold gh; simp
   exact .inr ⟨Q0, ql, fa, lo, mm, hx2, hr, hp, hw, hmm, by rw [e7] at hF; omega, hy⟩
theorem axs {m n : Int} : ∀ (qs : List Prt) {s f : Int} {D : Dk} {F : Nat}, ni s f ⟨m, qs⟩ F D → ∃ A s' f', qs = A ++ (kw n qs D).1.1 ∧ (kw n qs D).2 = 0 ∧ ni s' f' ⟨m, (kw n qs D).1.1⟩ (F - (gh A).length) (kw n qs D).1.2 ∧ f' = f + (gh A).length ∧ (f' ≤ n ∨ A = []) ∧ (qs ≠ [] → (kw n qs D).1.1 ≠ [])
 | [], s, f, D, F, h => ⟨[], s, f, rfl, rfl, h, by simp [gh], .inr rfl, fun h => absurd rfl h⟩
 | [q], s, f, D, F, h => ⟨[], s, f, rfl, rfl, h, by simp [gh], .inr rfl, fun _ => by simp [kw]⟩
 | q :: q2 :: r, s, f, D, F, h => by
  obtain ⟨e1, g1, e2⟩ := aup h
  rw [kw]
  by_cases hle : q2.first ≤ n
  ·rw [if_pos hle, e1, if_pos rfl]
   obtain ⟨A, s', f', h1, h2, h3, h4, h5, h6⟩ := axs (n := n) (q2 :: r) g1
   have e9 : (gh (q :: A)).length = q.ga.length + (gh A).length := by unfold gh; simp
   refine ⟨q :: A, s', f', by rw [List.cons_append, ← h1], h2, by rw [e9, ← Nat.sub_sub]; exact h3, ?_, .inl ?_, fun _ => h6 (by simp)⟩
   ·have e0 : (gh (q :: A)).length = q.ga.length + (gh A).length := by unfold gh; simp
    rw [h4, e0]; push_cast; omega
   ·rcases h5 with h5 | rfl
    ·exact h5
    ·rw [h4]; simp [gh]; omega
  ·rw [if_neg hle]
   exact ⟨[], s, f, rfl, rfl, h, by simp [gh], .inr rfl, fun _ => by simp⟩
theorem anr : ∀ (ga : List (List Int)) {l l' : iy}, Asc l → Asc l' → (∀ k, lk l k ≠ none → lk l' k ≠ none) → ∀ k, lk (ga.foldl nk l) k ≠ none → lk (ga.foldl nk l') k ≠ none
 | [], _, _, _, _, h, k, hk => h k hk
 | b :: r, l, l', hl, hl', h, k, hk => by
  rw [List.foldl_cons] at hk ⊢
  have a1 : Asc (nk l b) := by
   unfold nk
   split
   ·exact aeb hl _ _
   ·exact hl
  have a2 : Asc (nk l' b) := by
   unfold nk
   split
   ·exact aeb hl' _ _
   ·exact hl'
  refine anr r a1 a2 (fun k' hk' => ?_) k hk
  unfold nk at hk' ⊢
  split
  ·rename_i x y hxy
   rw [hxy] at hk'
   rw [agw hl'] 
   simp only at hk'
   rw [agw hl] at hk'
   split
   ·simp
   ·rename_i hne
    rw [if_neg hne] at hk'
    exact h k' hk'
  ·rename_i hxy
   rw [hxy] at hk'
   exact h k' hk'
theorem ayo (ga : List (List Int)) (a : Nat) (k : Int) (h : lk (jr (ga.drop a)) k ≠ none) : lk (jr ga) k ≠ none := by
 have e : jr ga = (ga.drop a).foldl nk (jr (ga.take a)) := by
  unfold jr
  rw [← List.foldl_append, List.take_append_drop]
 rw [e]
 exact anr _ .nil (uz _) (fun k hk => by simp [lk] at hk) k h
def jy (m : iy) : List (List Int) := m.map fun p => lz p.1 p.2
theorem aty {ga : List (List Int)} {m : iy} (hm : jr ga = m) (ho : ∀ p ∈ m, okE p) (i : Nat) : jr (ga ++ (jy m).take i) = m := by
 have hasc : Asc m := hm ▸ uz ga
 unfold jy
 rw [← List.map_take]
 refine ahs (uz _) hasc fun k => ?_
 have e : jr (ga ++ (m.take i).map fun p => lz p.1 p.2) = ((m.take i).map fun p => lz p.1 p.2).foldl nk m := by
  unfold jr
  rw [List.foldl_append]
  unfold jr at hm
  rw [hm]
 rw [e, ajc hasc (hasc.sublist (List.take_sublist _ _)) (fun p hp => ho p (List.mem_of_mem_take hp))]
 cases h : lk (m.take i) k with
 | none => rfl
 | some r =>
  have : lk m k = some r := by
   unfold lk at h ⊢
   obtain ⟨q, hq, hr⟩ := Option.map_eq_some_iff.1 h
   have h1 := List.mem_of_find?_eq_some hq
   have h2 := List.find?_some hq
   simp only [decide_eq_true_eq] at h2
   cases hf : m.find? fun p => decide (p.1 = k) with
   | none =>
    have := List.find?_eq_none.1 hf q (List.mem_of_mem_take h1)
    simp [h2] at this
   | some q2 =>
    have m2 := List.mem_of_find?_eq_some hf
    have k2 := List.find?_some hf
    simp only [decide_eq_true_eq] at k2
    have : q2 = q := by
     have hm1 := List.mem_of_mem_take h1
     obtain ⟨a, ha, rfl⟩ := List.getElem_of_mem m2
     obtain ⟨c, hc, rfl⟩ := List.getElem_of_mem hm1
     rcases Nat.lt_trichotomy a c with hlt | he | hlt
     ·have := List.pairwise_iff_getElem.1 hasc a c ha hc hlt; omega
     ·subst he; rfl
     ·have := List.pairwise_iff_getElem.1 hasc c a hc ha hlt; omega
    rw [this]
    simp [hr]
  rw [this]; rfl
theorem ayu {ga : List (List Int)} {m : iy} (hm : jr ga = m) (ho : ∀ p ∈ m, okE p) (a : Nat) : jr (ga.drop a ++ jy m) = m := by
 have hasc : Asc m := hm ▸ uz ga
 refine ahs (uz _) hasc fun k => ?_
 have e : jr (ga.drop a ++ jy m) = (jy m).foldl nk (jr (ga.drop a)) := by
  unfold jr
  rw [List.foldl_append]
 unfold jy at e ⊢
 rw [e, ajc (uz _) hasc ho]
 cases h : lk m k with
 | some r => rfl
 | none =>
  show lk (jr (ga.drop a)) k = none
  cases h2 : lk (jr (ga.drop a)) k with
  | none => rfl
  | some r =>
   have := ayo ga a k (by rw [h2]; simp)
   rw [hm, h] at this
   exact absurd rfl this
def vr (ds : List (List Int)) : Prop := ∀ d ∈ ds, ∃ p, okE p ∧ d = lz p.1 p.2
def um (ds : List (List Int)) (F : Nat) (m : iy) : Prop := ∀ j, F ≤ j → jr (ds.take j) = m
theorem abe (ds : List (List Int)) : um ds ds.length (jr ds) := fun j hj => by rw [List.take_of_length_le hj]
theorem ada {ds : List (List Int)} {F : Nat} {m : iy} (h : um ds F m) (hF : F ≤ ds.length) : jr ds = m := by
 have := h ds.length hF
 rwa [List.take_length] at this
theorem afj {ds : List (List Int)} {F : Nat} {m : iy} (h : um ds F m) (hF : F ≤ ds.length) (ho : ∀ p ∈ m, okE p) (i : Nat) : um (ds ++ (jy m).take i) F m := fun j hj => by
 by_cases hjl : j ≤ ds.length
 ·rw [List.take_append_of_le_length hjl]; exact h j hj
 ·rw [List.take_append, List.take_of_length_le (l := ds) (by omega), List.take_take]
  exact aty (ada h hF) ho _
theorem yf {ds : List (List Int)} {F j : Nat} {m : iy} (h : um ds F m) (hl : F ≤ (ds.take j).length) : jr (ds.take j) = m := h j (by rw [List.length_take] at hl; omega)
theorem app {ds : List (List Int)} {F j : Nat} {m : iy} {p : Int × Rg} (h : um ds F m) (hF : F ≤ ds.length) (hp : okE p) (hl : F ≤ ((ds ++ [lz p.1 p.2]).take j).length) : jr ((ds ++ [lz p.1 p.2]).take j) = m ∨ jr ((ds ++ [lz p.1 p.2]).take j) = nl m p.1 p.2 := by
 by_cases hj : j ≤ ds.length
 ·rw [List.take_append_of_le_length hj] at hl ⊢
  exact .inl (yf h hl)
 ·rw [List.take_of_length_le (by simp; omega), ahd hp.1 hp.2.1 hp.2.2.1 hp.2.2.2, ada h hF]
  exact .inr rfl
theorem awx {ds : List (List Int)} (h : vr ds) (j : Nat) : vr (ds.take j) := fun d hd => h d (List.mem_of_mem_take hd)
theorem aem {ds : List (List Int)} {m : iy} (h : vr ds) (ho : ∀ p ∈ m, okE p) (i : Nat) : vr (ds ++ (jy m).take i) := fun d hd => by
 rcases List.mem_append.1 hd with hd | hd
 ·exact h d hd
 ·unfold jy at hd
  obtain ⟨p, hp, rfl⟩ := List.mem_map.1 (List.mem_of_mem_take hd)
  exact ⟨p, ho p hp, rfl⟩
theorem asu : ∀ (ds : List (List Int)) {l : iy}, vr ds → (∀ p ∈ l, okE p) → ∀ p ∈ ds.foldl nk l, okE p
 | [], _, _, hl, p, hp => hl p hp
 | d :: r, l, h, hl, p, hp => by
  rw [List.foldl_cons] at hp
  refine asu r (fun x hx => h x (List.mem_cons_of_mem _ hx)) (fun x hx => ?_) p hp
  obtain ⟨q, hq, rfl⟩ := h d (by simp)
  unfold nk at hx
  rw [aap hq.1 hq.2.1 hq.2.2.1 hq.2.2.2] at hx
  rcases atd x hx with rfl | hx
  ·exact hq
  ·exact hl x hx
theorem ber {ds : List (List Int)} (h : vr ds) : ∀ p ∈ jr ds, okE p := asu ds h fun p hp => by simp at hp
def qq : Lg → Dk → List (List Int) → (Lg × Dk) × Int
 | L, D, [] => ((L, D), 0)
 | L, D, b :: r => if (L.append D b).2 = 0 then qq (L.append D b).1.1 (L.append D b).1.2 r else L.append D b
inductive Wr (s f : Int) (L : Lg) (F : Nat) (D : Dk) (ga : List (List Int)) : (Lg × Dk) × Int → Prop
 | ok (L' : Lg) (D' : Dk) : ni s f L' F D' → gh L'.fq = gh L.fq ++ ga → L'.gp = L.gp → D'.ie = D.ie → (D.ir = false → D'.ir = false) → Wr s f L F D ga ((L', D'), 0)
 | rh (i : Nat) (L' : Lg) (D' : Dk) : i < ga.length → ni s f L' F D' → gh L'.fq = gh L.fq ++ ga.take i → L'.gp = L.gp → D'.ie = D.ie → (D.ir = false → D'.ir = false) → Wr s f L F D ga ((L', D'), 9)
 | gr (i j : Nat) (L' : Lg) (D0 D' : Dk) (Q : List Prt) : D.ir = true → ni s f L' F D0 → gh L'.fq = gh L.fq ++ ga.take j → L'.gp = L.gp → D'.gr = true → Vir s f Q F D' False → gh Q = gh L.fq ++ ga.take i → D'.ie = D.ie → Wr s f L F D ga ((L', D'), 10)
theorem bfq {s f : Int} {F : Nat} : ∀ (ga : List (List Int)) {L : Lg} {D : Dk}, ni s f L F D → (∀ b ∈ ga, b.length ≤ 8192) → f + (gh L.fq).length + ga.length ≤ 1000000000000 → Wr s f L F D ga (qq L D ga)
 | [], L, D, h, _, _ => .ok L D h (by simp) rfl rfl id
 | b :: r, L, D, h, hl, hn => by
  have ha := baj (b := b) h (by simp at hn; omega)
  rw [qq]
  have hb := hl b (by simp)
  generalize L.append D b = x at ha ⊢
  cases ha with
  | ake hx => omega
  | rh D' hx g e1 e2 =>
   rw [if_neg (by simp)]
   exact .rh 0 L D' (by simp) g (by simp) rfl e1 (fun h => by rw [e2]; exact h)
  | gr D' Q e1 e2 e3 e4 e5 =>
   rw [if_neg (by simp)]
   exact .gr 1 0 L D D' Q e1 h (by simp) rfl e2 e3 (by simpa using e4) e5
  | ok L' D' g e1 e2 e3 e4 e5 e6 e7 e8 =>
   rw [if_pos rfl]
   have hr := bfq r g (fun x hx => hl x (List.mem_cons_of_mem _ hx)) (by rw [e1]; simp at hn ⊢; omega)
   simp only
   generalize qq L' D' r = y at hr ⊢
   cases hr with
   | ok L2 D2 g2 a1 a2 a3 a4 => exact .ok L2 D2 g2 (by rw [a1, e1]; simp) (by rw [a2, e4]) (by rw [a3, e5]) (fun h => a4 (e6 h))
   | rh i L2 D2 hi g2 a1 a2 a3 a4 => exact .rh (i + 1) L2 D2 (by simp; omega) g2 (by rw [a1, e1]; simp) (by rw [a2, e4]) (by rw [a3, e5]) (fun h => a4 (e6 h))
   | gr i j L2 D0 D2 Q b1 b2 b3 b4 b5 b6 b7 b8 =>
    have harm : D.ir = true := by
     cases ha : D.ir with
     | true => rfl
     | false => rw [e6 ha] at b1; exact absurd b1 (by decide)
    exact .gr (i + 1) (j + 1) L2 D0 D2 Q harm b2 (by rw [b3, e1]; simp) (by rw [b4, e4]) b5 b6 (by rw [b7, e1]; simp) (by rw [b8, e5])
theorem bae {s f gp : Int} {qs : List Prt} {ds : List (List Int)} {m : iy} {D : Dk} (h : ni s f ⟨gp, qs⟩ (gh qs).length D) (he : gh qs = ds ++ jy m) (hm : jr ds = m) (ho : ∀ p ∈ m, okE p) :
  ∃ s' f', (kw (f + ds.length) qs D).2 = 0 ∧ ni s' f' ⟨gp, (kw (f + ds.length) qs D).1.1⟩ (gh (kw (f + ds.length) qs D).1.1).length (kw (f + ds.length) qs D).1.2 ∧ (∃ a : Nat, (a ≤ ds.length ∧ f' = f + a) ∧ gh (kw (f + ds.length) qs D).1.1 = ds.drop a ++ jy m) ∧ jr (gh (kw (f + ds.length) qs D).1.1) = m := by
 obtain ⟨A, s', f', h1, h2, h3, h4, h5, _⟩ := axs (n := f + ds.length) qs h
 have hall : gh qs = gh A ++ gh (kw (f + ds.length) qs D).1.1 := by rw [← lh, ← h1]
 have hA : (gh A).length ≤ ds.length := by
  rcases h5 with h5 | h5
  ·rw [h4] at h5; omega
  ·rw [h5]; simp [gh]
 have hrem : gh (kw (f + ds.length) qs D).1.1 = ds.drop (gh A).length ++ jy m := by
  have := congrArg (List.drop (gh A).length) hall
  rw [List.drop_left', he, List.drop_append_of_le_length hA] at this
  ·exact this.symm
  ·rfl
 have hF : (gh qs).length - (gh A).length = (gh (kw (f + ds.length) qs D).1.1).length := by rw [hall]; simp
 rw [hF] at h3
 exact ⟨s', f', h2, h3, ⟨_, ⟨hA, h4⟩, hrem⟩, by rw [hrem]; exact ayu hm ho _⟩
def jo (m : iy) (kg : Bool) (tr : Int) (b : Bal) (v : Int) : Rg × Bool := if kg = true then (mi m tr).acc b v else (mi m tr).qr b
def wz (m : iy) (kg : Bool) (tr : Int) (b : Bal) (v : Int) : iy := if (jo m kg tr b v).2 = true then nl m tr (jo m kg tr b v).1 else m
theorem ayw {m : iy} {k : Int} {r : Rg} (ha : Asc m) (h : lk m k = some r) : nl m k r = m := ahs (aeb ha k r) ha fun k' => by
 rw [agw ha]
 split
 ·rename_i he; subst he; exact h.symm
 ·rfl
theorem beb {r : Rg} {b : Bal} (h : (r.qr b).2 = false) : (r.qr b).1 = r := by
 unfold Rg.qr at h ⊢
 split at h
 ·cases h
 ·rename_i hs; rw [if_neg hs]
theorem bfi {r : Rg} {b : Bal} {v : Int} (h : (r.acc b v).2 = false) : (r.acc b v).1 = r := by
 unfold Rg.acc at h ⊢
 split at h
 ·cases h
 ·rename_i hs; rw [if_neg hs]
theorem akl {r : Rg} {b : Bal} (h : r.lj b = true) : 0 < b.n := by
 unfold Rg.lj at h
 simp at h
 exact h.1
theorem aij {r : Rg} {b : Bal} (h : (r.qr b).2 = true) : (r.qr b).1 = ⟨b, r.t, r.v⟩ ∧ 0 < b.n := by
 unfold Rg.qr at h ⊢
 split at h
 ·rename_i hs; rw [if_pos hs]; exact ⟨rfl, akl hs⟩
 ·cases h
theorem amc {r : Rg} {b : Bal} {v : Int} (h : (r.acc b v).2 = true) : (r.acc b v).1 = ⟨b, b, v⟩ ∧ 0 < b.n ∧ ki v = true := by
 unfold Rg.acc at h ⊢
 split at h
 ·rename_i hs; rw [if_pos hs]; exact ⟨rfl, akl hs.1, hs.2.1⟩
 ·cases h
theorem ais {m : iy} {kg : Bool} {tr v : Int} {b : Bal} (h : (jo m kg tr b v).2 = false) : (jo m kg tr b v).1 = mi m tr := by
 unfold jo at h ⊢
 cases kg with
 | true => simp only [if_true] at h ⊢; exact bfi h
 | false => simp only [Bool.false_eq_true, if_false] at h ⊢; exact beb h
theorem ams {m : iy} {kg : Bool} {tr v : Int} {b : Bal} (h : (jo m kg tr b v).2 = true) : (jo m kg tr b v).1.p = b ∧ 0 < b.n := by
 unfold jo at h ⊢
 cases kg with
 | true => simp only [if_true] at h ⊢; rw [(amc h).1]; exact ⟨rfl, (amc h).2.1⟩
 | false => simp only [Bool.false_eq_true, if_false] at h ⊢; rw [(aij h).1]; exact ⟨rfl, (aij h).2⟩
theorem aet {m : iy} {kg : Bool} {tr v : Int} {b : Bal} (ha : Asc m) : wz m kg tr b v = if (jo m kg tr b v).1 = mi m tr then m else nl m tr (jo m kg tr b v).1 := by
 unfold wz
 cases ho : (jo m kg tr b v).2 with
 | false => simp [ais ho]
 | true =>
  obtain ⟨h1, h2⟩ := ams ho
  simp only [if_true]
  by_cases he : (jo m kg tr b v).1 = mi m tr
  ·rw [if_pos he]
   refine ayw ha ?_
   cases hl : lk m tr with
   | some r => rw [he]; unfold mi; rw [hl]; rfl
   | none =>
    have hz : mi m tr = rg0 := by unfold mi; rw [hl]; rfl
    rw [he, hz] at h1
    rw [← h1] at h2
    exact absurd h2 (by decide)
  ·rw [if_neg he]
theorem bdp {m : iy} (ho : ∀ p ∈ m, okE p) (k : Int) : (mi m k).right = true ∧ (mi m k).rng := by
 unfold mi
 cases hl : lk m k with
 | none => exact ⟨rfl, by simp [rg0, Rg.rng, Bal.rng, gu, tu]⟩
 | some r =>
  unfold lk at hl
  obtain ⟨p, hp, rfl⟩ := Option.map_eq_some_iff.1 hl
  have := ho p (List.mem_of_find?_eq_some hp)
  exact ⟨this.2.2.2, this.2.2.1⟩
theorem ajn {m : iy} {kg : Bool} {tr v : Int} {b : Bal} (ho : ∀ p ∈ m, okE p) (ht : tu tr) (ht0 : 0 < tr) (hb : b.rng) : okE (tr, (jo m kg tr b v).1) := by
 obtain ⟨h1, h2⟩ := bdp ho tr
 refine ⟨ht, ht0, ?_, ?_⟩
 ·cases hk : (jo m kg tr b v).2 with
  | false => simp only [ais hk]; exact h2
  | true =>
   unfold jo at hk ⊢
   cases kg with
   | true => simp only [if_true] at hk ⊢; rw [(amc hk).1]; exact ⟨hb, hb⟩
   | false => simp only [Bool.false_eq_true, if_false] at hk ⊢; rw [(aij hk).1]; exact ⟨hb, h2.2⟩
 ·cases hk : (jo m kg tr b v).2 with
  | false => simp only [ais hk]; exact h1
  | true =>
   have hn := (ams hk).2
   unfold jo at hk ⊢
   cases kg with
   | true => simp only [if_true] at hk ⊢; exact (ayp h1 (by omega)).1
   | false => simp only [Bool.false_eq_true, if_false] at hk ⊢; exact (avh h1).1
end Go.Proofs.YtfnhoaemapheoaaGreat
