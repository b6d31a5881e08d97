/-
  Sorting a row of whole numbers: the partial insertion sort, the range turned round. No condition.
-/
import Derived.Test.YtfnhoaemapheoaaGreatZSpn0
import Derived.Test.YtfnhoaemapheoaaGreatZEngSl
import Derived.Test.YtfnhoaemapheoaaGreatM
import Derived.Test.YtfnhoaemapheoaaGreatFacts
set_option maxRecDepth 100000
namespace Go.Proofs.YtfnhoaemapheoaaGreat.SG
open Go.Eng Go.Sort
variable [SE]
def RvI (w : World) (g : Nat) (e : TypeId) (cap n : Nat) (R : Array Int) : KL := fun x w1 => ∃ (i j : Nat) (d : Array Int), x = [.int .i64 (i : Int), .int .i64 (j : Int)] ∧ Rf w w1 g e cap d ∧ d.size = n ∧ i ≤ n ∧ j < n ∧ reverseLoop i j d = R
theorem bbd {w : World} {g cap n : Nat} {e : TypeId} {d : Array Int} (H : Rw w g e cap d) (hn : d.size = n) (h6 : n < 100000) {a b : Nat} (hb : b ≤ n) (hab : a < b) {K : KV}
  (h : ∀ w', Rf w w' g e cap (reverseRange d a b) → K (.tuple #[]) w') : ku P F.gn [.slice (some ⟨g, 0, none⟩) n cap, .int .i64 a, .int .i64 b] w K := by
 apply M.ei.calls
 unfold M.ei
 have hw2 : IntKind.i64.wrap ((b : Int) - 1) = ((b - 1 : Nat) : Int) := by rw [ig]; omega
 simp only [lz, hw2]
 unfold reverseRange at h
 generalize hR : reverseLoop a (b - 1) d = R at *
 refine ⟨RvI w g e cap n R, fun x _ => ms x 1 - ms x 0, ⟨a, b - 1, d, rfl, H.xi, hn, by omega, by omega, hR⟩, ?_⟩
 clear hR
 rintro x w1 ⟨i, j, d1, rfl, H1, hn1, hi, hj, hR⟩
 simp only [ib, g20, g21]
 unfold reverseLoop at hR
 by_cases hij : i < j
 ·have hij' : (i : Int) < j := by omega
  rw [if_pos hij] at hR
  simp only [lw, hij', decide_true, Eng.cond_true]
  unfold M.ei.j1
  have c1 := H1.row.at (show i < d1.size by omega)
  have c2 := H1.row.at (show j < d1.size by omega)
  have e1 : (i : Int) < n := by omega
  have e2 : (j : Int) < n := by omega
  have f1 := H1.row.frz i
  have f2 := H1.row.frz j
  have hw3 : IntKind.i64.wrap ((i : Int) + 1) = ((i + 1 : Nat) : Int) := rj (by omega)
  have hw4 : IntKind.i64.wrap ((j : Int) - 1) = ((j - 1 : Nat) : Int) := by rw [ig]; omega
  simp [g20, g21, e1, e2, c1, c2, f1, f2, kh, kw, hw3, hw4, -Int.natCast_add]
  refine ⟨⟨i + 1, j - 1, _, rfl, (H1.dr 1).swp (by omega) (by omega), by rw [size_swp]; exact hn1, by omega, by omega, hR⟩, ?_⟩
  simp [ms, gv]; omega
 ·have hij' : ¬ (i : Int) < j := by omega
  rw [if_neg hij] at hR
  subst hR
  simp only [lw, hij', decide_false, Eng.cond_false]
  exact h w1 H1
omit [SE] in
theorem aqc (d : Array Int) (b : Nat) : ∀ m i, b - i ≤ m → i ≤ b → i ≤ scanSorted ltInt d b i ∧ scanSorted ltInt d b i ≤ b := by
 intro m
 induction m with
 | zero =>
  intro i hm hi
  unfold scanSorted
  rw [if_neg (by simp; omega)]
  omega
 | succ m ih =>
  intro i hm hi
  unfold scanSorted
  split
  ·rename_i h
   simp at h
   have := ih (i + 1) (by omega) (by omega)
   omega
  ·omega
omit [SE] in
theorem afu : ∀ (j : Nat) (d : Array Int), (shiftDown ltInt j d).size = d.size
 | 0, _ => rfl
 | j + 1, d => by
  unfold shiftDown
  split
  ·rfl
  ·rw [afu j, size_swp]
omit [SE] in
theorem auc (b : Nat) : ∀ (m j : Nat) (d : Array Int), b - j ≤ m → (shiftUp ltInt b j d).size = d.size := by
 intro m
 induction m with
 | zero =>
  intro j d hm
  unfold shiftUp
  rw [if_neg (by omega)]
 | succ m ih =>
  intro j d hm
  unfold shiftUp
  split
  ·split
   ·rfl
   ·rw [ih _ _ (by omega), size_swp]
  ·rfl
section
variable {w : World} {g cap n : Nat} {e : TypeId} {d : Array Int}
def SsI (w : World) (g : Nat) (e : TypeId) (cap : Nat) (d : Array Int) (a b r : Nat) : KL := fun x w1 => ∃ i : Nat, x = [.int .i64 (i : Int)] ∧ Rf w w1 g e cap d ∧ a < i ∧ i ≤ b ∧ scanSorted ltInt d b i = r
theorem biw (H : Rw w g e cap d) (hn : d.size = n) (h6 : n < 100000) {a b i : Nat} (hb : b ≤ n) (ha : a < i) (hi : i ≤ b) {K4 : KL} {K : KV}
  (h : ∀ w', Rf w w' g e cap d → K4 [.int .i64 (scanSorted ltInt d b i : Nat)] w') :
  gt (fun K4 => jh [.int .i64 (i : Int)] w fun K5 x5 w => M.al.j5 x5 (.int .i64 (b : Int)) (.slice (some ⟨g, 0, none⟩) n cap) K4 K5 w K) K4 := by
 rw [ib]
 generalize hr : scanSorted ltInt d b i = r at *
 refine ⟨SsI w g e cap d a b r, fun x _ => b - ms x 0, ⟨i, rfl, H.xi, ha, hi, hr⟩, ?_⟩
 clear hr
 rintro x w1 ⟨k, rfl, H1, hak, hkb, hR⟩
 unfold M.al.j5
 unfold scanSorted at hR
 by_cases hk : k < b
 ·have a1 := H1.row.at (show k < d.size by omega)
  have a2 := H1.row.at (show k - 1 < d.size by omega)
  have b1 : (k : Int) < n := by omega
  have b2 : ((k - 1 : Nat) : Int) < n := by omega
  have b3 : (k : Int) < b := by omega
  have hw : IntKind.i64.wrap ((k : Int) - 1) = ((k - 1 : Nat) : Int) := by rw [ig]; omega
  simp [g0, b1, b2, b3, a1, a2, hw]
  refine sw _ _ ?_
  cases hl : ltInt d[k]! d[k - 1]! with
  | true =>
   rw [if_neg (by simp [hl])] at hR
   simp
   rw [← hR] at h
   exact h _ (H1.dr 1)
  | false =>
   rw [if_pos (by simp [hl, hk])] at hR
   simp [rj (show k < 1000000 by omega)]
   refine ⟨⟨k + 1, by simp, H1.dr 1, by omega, by omega, hR⟩, ?_⟩
   simp [ms, gv]; omega
 ·have b3 : ¬ (k : Int) < b := by omega
  rw [if_neg (by simp [hk])] at hR
  simp [g0, b3]
  rw [← hR] at h
  exact h _ (H1.dr 1)
def SdI (w : World) (g : Nat) (e : TypeId) (cap n : Nat) (R : Array Int) : KL := fun x w1 => ∃ (j : Nat) (d : Array Int), x = [.int .i64 (j : Int)] ∧ Rf w w1 g e cap d ∧ d.size = n ∧ j < n ∧ shiftDown ltInt j d = R
theorem bik (H : Rw w g e cap d) (hn : d.size = n) (h6 : n < 100000) {j : Nat} (hj : j < n) {K9 : KL} {K : KV}
  (h : ∀ w' v, Rf w w' g e cap (shiftDown ltInt j d) → K9 [v] w') :
  jh [.int .i64 (j : Int)] w fun K10 x10 w => gt (fun K11 => ij P .geq T.c (.tmp 64) (.const (.int .i64 1)) (gv x10 0) (.int .i64 1) w fun t65 w => ia t65 (K11 [] w) (K9 [(gv x10 0)] w)) fun x11 w => M.al.j11 (.slice (some ⟨g, 0, none⟩) n cap) x10 K9 K10 w K := by
 generalize hr : shiftDown ltInt j d = R at *
 refine ⟨SdI w g e cap n R, fun x _ => ms x 0, ⟨j, d, rfl, H.xi, hn, hj, hr⟩, ?_⟩
 clear hr
 rintro x w1 ⟨k, d1, rfl, H1, hn1, hk, hR⟩
 simp only [ib, g0, sg]
 cases k with
 | zero =>
  have hk0 : ¬ (1 : Int) ≤ ((0 : Nat) : Int) := by omega
  simp only [hk0, decide_false, Eng.cond_false]
  unfold shiftDown at hR
  subst hR
  exact h _ _ H1
 | succ k =>
  have hk0 : (1 : Int) ≤ ((k + 1 : Nat) : Int) := by omega
  simp only [hk0, decide_true, Eng.cond_true]
  unfold M.al.j11
  unfold shiftDown at hR
  have a1 := H1.row.at (show k + 1 < d1.size by omega)
  have a2 := H1.row.at (show k < d1.size by omega)
  have b1 : ((k + 1 : Nat) : Int) < n := by omega
  have b2 : (k : Int) < n := by omega
  have f1 := H1.row.frz (k + 1)
  have f2 := H1.row.frz k
  have hw : IntKind.i64.wrap (((k + 1 : Nat) : Int) - 1) = (k : Int) := by rw [ig]; omega
  simp [g0, b1, b2, a1, a2, hw, -Int.natCast_add]
  refine sw _ _ ?_
  cases hl : ltInt d1[k + 1]! d1[k]! with
  | false =>
   rw [if_pos (by simp [hl])] at hR
   subst hR
   simp
   exact h _ _ (H1.dr 1)
  | true =>
   rw [if_neg (by simp [hl])] at hR
   simp [-Int.natCast_add]
   unfold M.al.j13
   simp [g0, b1, b2, a1, a2, f1, f2, hw, kh, kw, -Int.natCast_add]
   refine ⟨⟨k, _, rfl, ((H1.dr 1).dr 1).swp (by omega) (by omega), by rw [size_swp]; exact hn1, by omega, hR⟩, ?_⟩
   simp [ms, gv]
def SuI (w : World) (g : Nat) (e : TypeId) (cap n b : Nat) (R : Array Int) : KL := fun x w1 => ∃ (j : Nat) (d : Array Int), x = [.int .i64 (j : Int)] ∧ Rf w w1 g e cap d ∧ d.size = n ∧ 1 ≤ j ∧ j ≤ b ∧ shiftUp ltInt b j d = R
theorem bnj (H : Rw w g e cap d) (hn : d.size = n) (h6 : n < 100000) {j b : Nat} (hb : b ≤ n) (hj : 1 ≤ j) (hjb : j ≤ b) {K3 : KL} {x4 x8 x9 : List Value} {K : KV}
  (h : ∀ w' v, Rf w w' g e cap (shiftUp ltInt b j d) → K3 [gv x4 0, gv x8 0, gv x9 0, v] w') :
  jh [.int .i64 (j : Int)] w fun K14 x14 w => M.al.j14 x14 (.int .i64 (b : Int)) K3 x4 x8 x9 (.slice (some ⟨g, 0, none⟩) n cap) K14 w K := by
 generalize hr : shiftUp ltInt b j d = R at *
 refine ⟨SuI w g e cap n b R, fun x _ => b - ms x 0, ⟨j, d, rfl, H.xi, hn, hj, hjb, hr⟩, ?_⟩
 clear hr
 rintro x w1 ⟨k, d1, rfl, H1, hn1, hk1, hk, hR⟩
 unfold M.al.j14
 simp only [ib, g0, lw]
 unfold shiftUp at hR
 by_cases hkb : k < b
 ·have hkb' : (k : Int) < b := by omega
  rw [if_pos hkb] at hR
  simp only [hkb', decide_true, Eng.cond_true]
  unfold M.al.j15
  have a1 := H1.row.at (show k < d1.size by omega)
  have a2 := H1.row.at (show k - 1 < d1.size by omega)
  have b1 : (k : Int) < n := by omega
  have b2 : ((k - 1 : Nat) : Int) < n := by omega
  have f1 := H1.row.frz k
  have f2 := H1.row.frz (k - 1)
  have hw : IntKind.i64.wrap ((k : Int) - 1) = ((k - 1 : Nat) : Int) := by rw [ig]; omega
  simp [g0, b1, b2, a1, a2, hw]
  refine sw _ _ ?_
  cases hl : ltInt d1[k]! d1[k - 1]! with
  | false =>
   rw [if_pos (by simp [hl])] at hR
   subst hR
   simp
   exact h _ _ (H1.dr 1)
  | true =>
   rw [if_neg (by simp [hl])] at hR
   simp
   unfold M.al.j17
   simp [g0, b1, b2, a1, a2, f1, f2, hw, kh, kw, rj (show k < 1000000 by omega)]
   refine ⟨⟨k + 1, _, by simp, ((H1.dr 1).dr 1).swp (by omega) (by omega), by rw [size_swp]; exact hn1, by omega, by omega, hR⟩, ?_⟩
   simp [ms, gv]; omega
 ·have hkb' : ¬ (k : Int) < b := by omega
  rw [if_neg hkb] at hR
  simp only [hkb', decide_false, Eng.cond_false]
  subst hR
  exact h _ _ H1
end
def PiI (w : World) (g : Nat) (e : TypeId) (cap n a b : Nat) (R : Array Int × Bool) : KL := fun x w1 => ∃ (u1 u2 u3 : Value) (i s : Nat) (d : Array Int), x = [.int .i64 (i : Int), u1, u2, u3, .int .i64 ((5 - s : Nat) : Int)] ∧ Rf w w1 g e cap d ∧ d.size = n ∧ s ≤ 5 ∧ a < i ∧ i ≤ b ∧ partialIns ltInt a b s i d = R
theorem apy {w : World} {g cap n : Nat} {e : TypeId} {d : Array Int} (H : Rw w g e cap d) (hn : d.size = n) (h6 : n < 100000) {a b : Nat} (hb : b ≤ n) (hab : a < b) {K : KV}
  (h : ∀ w', Rf w w' g e cap (partialInsertionSort ltInt d a b).1 → K (.bool (partialInsertionSort ltInt d a b).2) w') : ku P F.gh [.slice (some ⟨g, 0, none⟩) n cap, .int .i64 a, .int .i64 b] w K := by
 apply M.al.calls
 unfold M.al
 simp only [kz, rj (show a < 1000000 by omega), ib]
 unfold partialInsertionSort at h
 generalize hR : partialIns ltInt a b 5 (a + 1) d = R at *
 refine ⟨PiI w g e cap n a b R, fun x _ => 5 - ms x 4, ⟨_, _, _, a + 1, 5, d, rfl, H.xi, hn, by omega, by omega, by omega, hR⟩, ?_⟩
 clear hR
 rintro x w1 ⟨u1, u2, u3, i, s, d1, rfl, H1, hn1, hs, hai, hib, hR⟩
 have q0 : ∀ a b c d e : Value, gv [a, b, c, d, e] 0 = a := fun _ _ _ _ _ => rfl
 have q1 : ∀ a b c d e : Value, gv [a, b, c, d, e] 1 = b := fun _ _ _ _ _ => rfl
 have q2 : ∀ a b c d e : Value, gv [a, b, c, d, e] 2 = c := fun _ _ _ _ _ => rfl
 have q3 : ∀ a b c d e : Value, gv [a, b, c, d, e] 3 = d := fun _ _ _ _ _ => rfl
 have q4 : ∀ a b c d e : Value, gv [a, b, c, d, e] 4 = e := fun _ _ _ _ _ => rfl
 unfold M.al.j1
 simp only [ib, q0, q1, q2, q3, q4, lw]
 cases s with
 | zero =>
  simp
  unfold partialIns at hR
  subst hR
  exact h _ H1
 | succ s =>
  rw [show 5 - (s + 1) = 4 - s from by omega]
  have hs5 : ((4 - s : Nat) : Int) < 5 := by omega
  simp only [hs5, decide_true, Eng.cond_true]
  unfold M.al.j2
  unfold partialIns at hR
  simp only at hR
  rw [ib]
  simp only [q0, q1, q2, q3, q4]
  refine biw (a := a) H1.row hn1 h6 hb hai hib fun w2 H2 => ?_
  have hsc := aqc d1 b _ i (Nat.le_refl _) hib
  generalize scanSorted ltInt d1 b i = i2 at *
  have H2' := H1.trans H2
  simp only [ib, g0, ur]
  by_cases hib2 : i2 = b
  ·have : (i2 : Int) = b := by omega
   rw [if_pos hib2] at hR
   simp only [this, decide_true, Eng.cond_true]
   subst hR
   exact h _ H2'
  have hib2' : ¬ (i2 : Int) = b := by omega
  rw [if_neg hib2] at hR
  simp only [hib2', decide_false, Eng.cond_false]
  unfold M.al.j7
  have hw0 : IntKind.i64.wrap ((b : Int) - a) = ((b - a : Nat) : Int) := yv (by omega) (by omega)
  simp only [ib, lz, hw0, lw]
  by_cases h50 : b - a < 50
  ·have : ((b - a : Nat) : Int) < 50 := by omega
   rw [if_pos h50] at hR
   simp only [this, decide_true, Eng.cond_true]
   subst hR
   exact h _ H2'
  have h50' : ¬ ((b - a : Nat) : Int) < 50 := by omega
  rw [if_neg h50] at hR
  simp only [h50', decide_false, Eng.cond_false]
  unfold M.al.j8
  have a1 := H2.row.at (show i2 < d1.size by omega)
  have a2 := H2.row.at (show i2 - 1 < d1.size by omega)
  have b1 : (i2 : Int) < n := by omega
  have b2 : ((i2 - 1 : Nat) : Int) < n := by omega
  have f1 := H2.row.frz i2
  have f2 := H2.row.frz (i2 - 1)
  have hw : IntKind.i64.wrap ((i2 : Int) - 1) = ((i2 - 1 : Nat) : Int) := by rw [ig]; omega
  have hwa : IntKind.i64.wrap ((i2 : Int) - a) = ((i2 - a : Nat) : Int) := yv (by omega) (by omega)
  simp [g0, b1, b2, a1, a2, f1, f2, hw, hwa, kh, kw, -ib]
  have H3 := (H2'.dr 1).swp (i := i2) (j := i2 - 1) (by omega) (by omega)
  generalize ((dr w2 1).setCell ⟨g, i2, none⟩ (.int SD.k d1[i2 - 1]!)).setCell ⟨g, i2 - 1, none⟩ (.int SD.k d1[i2]!) = w3 at *
  have hn3 : (Sort.swp d1 i2 (i2 - 1)).size = n := by rw [size_swp]; exact hn1
  generalize Sort.swp d1 i2 (i2 - 1) = d3 at *
  -- behind the shift jj
  have tail : ∀ (x9 : List Value) (w4 : World) (d4 : Array Int), Rf w w4 g e cap d4 → d4.size = n → partialIns ltInt a b s i2 (if b - i2 ≥ 2 then shiftUp ltInt b (i2 + 1) d4 else d4) = R → ∀ (K3 : KL) (x8 x1 : List Value),
    (∀ w' v, ∀ d5, Rf w w' g e cap d5 → d5.size = n → partialIns ltInt a b s i2 d5 = R → K3 [.int .i64 (i2 : Int), gv x8 0, gv x9 0, v] w') →
    M.al.j9 (.int .i64 b) [.int .i64 i2] K3 x8 x9 (.slice (some ⟨g, 0, none⟩) n cap) x1 w4 K := by
   intro x9 w4 d4 H4 hn4 hR4 K3 x8 x1 hK
   unfold M.al.j9
   have hwb : IntKind.i64.wrap ((b : Int) - i2) = ((b - i2 : Nat) : Int) := yv (by omega) (by omega)
   simp only [g0, lz, hwb, sg]
   by_cases h2 : b - i2 ≥ 2
   ·have h2' : (2 : Int) ≤ ((b - i2 : Nat) : Int) := by omega
    rw [if_pos h2] at hR4
    simp only [h2', decide_true, Eng.cond_true, kz, rj (show i2 < 1000000 by omega)]
    refine bnj H4.row hn4 h6 hb (by omega) (by omega) fun w5 v H5 => ?_
    exact hK _ v _ (H4.trans H5) (by rw [auc _ _ _ _ (Nat.le_refl _)]; exact hn4) hR4
   ·have h2' : ¬ (2 : Int) ≤ ((b - i2 : Nat) : Int) := by omega
    rw [if_neg h2] at hR4
    simp only [h2', decide_false, Eng.cond_false]
    exact hK _ _ _ H4 hn4 hR4
  have fin : ∀ w' (x : List Value) d5, gv x 0 = .int .i64 i2 → Rf w w' g e cap d5 → d5.size = n → partialIns ltInt a b s i2 d5 = R →
    PiI w g e cap n a b R [gv x 0, gv x 1, gv x 2, gv x 3, .int .i64 (IntKind.i64.wrap (((4 - s : Nat) : Int) + 1))] w' ∧ 5 - ms [gv x 0, gv x 1, gv x 2, gv x 3, .int .i64 (IntKind.i64.wrap (((4 - s : Nat) : Int) + 1))] 4 < 5 - ms [.int .i64 (i : Int), u1, u2, u3, .int .i64 ((4 - s : Nat) : Int)] 4 := by
   intro w' x d5 hx H5 hn5 hR5
   have : IntKind.i64.wrap (((4 - s : Nat) : Int) + 1) = ((5 - s : Nat) : Int) := by rw [ig]; omega
   rw [this, hx]
   refine ⟨⟨_, _, _, i2, s, d5, rfl, H5, hn5, by omega, by omega, by omega, hR5⟩, ?_⟩
   simp only [ms, q4]; omega
  by_cases h2 : i2 - a ≥ 2
  ·have h2' : (2 : Int) ≤ ((i2 - a : Nat) : Int) := by omega
   rw [if_pos h2] at hR
   simp only [ib, h2', decide_true, Eng.cond_true]
   refine bik H3.row hn3 h6 (by omega) fun w4 v H4 => ?_
   refine tail _ _ _ (H3.trans H4) (by rw [afu]; exact hn3) hR _ _ _ fun w' v d5 H5 hn5 hR5 => ?_
   exact fin w' [.int .i64 (i2 : Int), _, _, v] d5 rfl H5 hn5 hR5
  ·have h2' : ¬ (2 : Int) ≤ ((i2 - a : Nat) : Int) := by omega
   rw [if_neg h2] at hR
   simp only [ib, h2', decide_false, Eng.cond_false]
   refine tail _ _ _ H3 hn3 hR _ _ _ fun w' v d5 H5 hn5 hR5 => ?_
   exact fin w' [.int .i64 (i2 : Int), _, _, v] d5 rfl H5 hn5 hR5
end Go.Proofs.YtfnhoaemapheoaaGreat.SG
set_option maxRecDepth 100000
namespace Go.Proofs.YtfnhoaemapheoaaGreat
open Go.Eng
theorem bni : ∀ v : Fin 256, ((⟨#[0, 1, 2, 2, 3, 3, 3, 3, 4, 4, 4, 4, 4, 4, 4, 4, 5, 5, 5, 5, 5, 5, 5, 5, 5, 5, 5, 5, 5, 5, 5, 5, 6, 6, 6, 6, 6, 6, 6, 6, 6, 6, 6, 6, 6, 6, 6, 6, 6, 6, 6, 6, 6, 6, 6, 6, 6, 6, 6, 6, 6, 6, 6, 6, 7, 7, 7, 7, 7, 7, 7, 7, 7, 7, 7, 7, 7, 7, 7, 7, 7, 7, 7, 7, 7, 7, 7, 7, 7, 7, 7, 7, 7, 7, 7, 7, 7, 7, 7, 7, 7, 7, 7, 7, 7, 7, 7, 7, 7, 7, 7, 7, 7, 7, 7, 7, 7, 7, 7, 7, 7, 7, 7, 7, 7, 7, 7, 7, 8, 8, 8, 8, 8, 8, 8, 8, 8, 8, 8, 8, 8, 8, 8, 8, 8, 8, 8, 8, 8, 8, 8, 8, 8, 8, 8, 8, 8, 8, 8, 8, 8, 8, 8, 8, 8, 8, 8, 8, 8, 8, 8, 8, 8, 8, 8, 8, 8, 8, 8, 8, 8, 8, 8, 8, 8, 8, 8, 8, 8, 8, 8, 8, 8, 8, 8, 8, 8, 8, 8, 8, 8, 8, 8, 8, 8, 8, 8, 8, 8, 8, 8, 8, 8, 8, 8, 8, 8, 8, 8, 8, 8, 8, 8, 8, 8, 8, 8, 8, 8, 8, 8, 8, 8, 8, 8, 8, 8, 8, 8, 8, 8, 8, 8, 8, 8, 8, 8, 8, 8, 8, 8, 8, 8, 8, 8, 8]⟩ : ByteArray).get! v.val).toNat = Sort.bitsLen v.val := by decide +kernel
theorem boy : abf P T.ah = true := kr
theorem bhq {w : World} {x : Nat} (hx : x < 65536) {K : KV} (h : K (.int .i64 (Sort.bitsLen x : Nat)) w) : ku P F.eu [.int .u64 x] w K := by
 apply M.ar.calls
 unfold M.ar
 have h1 : ¬ (4294967296 : Int) ≤ x := by omega
 simp only [ib, sg, h1, decide_false, Eng.cond_false]
 unfold M.ar.j0
 have q0 : ∀ a b : Value, gv [a, b] 0 = a := fun _ _ => rfl
 have q1 : ∀ a b : Value, gv [a, b] 1 = b := fun _ _ => rfl
 have h2 : ¬ (65536 : Int) ≤ x := by omega
 simp only [ib, q0, q1, sg, h2, decide_false, Eng.cond_false]
 unfold M.ar.j1
 have u64B : yj P T.g .u64 = true := by kernel_rfl
 have u8B : yj P T.ao .u8 = true := by kernel_rfl
 have i64B : yj P T.c .i64 = true := by kernel_rfl
 have fin : ∀ (y z : Nat), y < 256 → z + Sort.bitsLen y = Sort.bitsLen x → z < 1000 → M.ar.j2 [.int .u64 y, .int .i64 z] w K := by
  intro y z hy hz hz1
  unfold M.ar.j2
  simp only [q0, q1]
  rw [pj u64B u8B, boe hy, bkj boy (by exact hy)]
  have ht := bni ⟨y, hy⟩
  simp only at ht
  rw [ht, pj u8B i64B]
  have hb : Sort.bitsLen y ≤ 16 := (Sort.bitsLen_le_iff y 16).2 (by omega)
  rw [alx (by omega)]
  simp only [kz]
  have : ((z : Nat) : Int) + (Sort.bitsLen y : Nat) = ((Sort.bitsLen x : Nat) : Int) := by omega
  simp only [this]
  rw [alx (by omega)]
  exact h
 simp only [ib, q0, q1, sg]
 by_cases h3 : 256 ≤ x
 ·have h3' : (256 : Int) ≤ x := by omega
  have hs : ij P .shr T.g (.tmp 15) (.const (.int .u64 8)) (.int .u64 (x : Int)) (.int .u64 8) w = fun K => K (.int .u64 ((x / 256 : Nat) : Int)) w := by
   funext K
   rw [aco (by decide)]
   have : (min (8 : Int).toNat IntKind.u64.bits) = 8 := by decide
   rw [this, aje]
  have ha : IntKind.i64.wrap (0 + 8) = ((8 : Nat) : Int) := by decide
  simp only [h3', decide_true, Eng.cond_true, hs, kz, ha]
  exact fin (x / 256) 8 (by omega) (awq h3).symm (by decide)
 ·have h3' : ¬ (256 : Int) ≤ x := by omega
  simp only [h3', decide_false, Eng.cond_false]
  exact fin x 0 (by omega) (by omega) (by decide)
theorem aor {w : World} {x : Nat} (hx : x < 65536) {K : KV} (h : K (.int .i64 (Sort.bitsLen x : Nat)) w) : ku P F.en [.int .u64 x] w K := by
 apply M.dl.calls
 unfold M.dl
 simp only [ib, Eng.cond_false]
 rw [M.ar.fcall]
 exact bhq hx h
theorem bki {w : World} {x : Nat} (hx : x < 65536) {K : KV} (h : K (.int .u64 ((2 ^ Sort.bitsLen x : Nat) : Int)) w) : ku P F.cm [.int .i64 x] w K := by
 apply M.cr.calls
 unfold M.cr
 have uB : yj P T.ba .u64 = true := by kernel_rfl
 have i64B : yj P T.c .i64 = true := by kernel_rfl
 rw [pj i64B uB, ace (by omega), M.dl.fcall]
 refine aor hx ?_
 have hb : Sort.bitsLen x ≤ 16 := (Sort.bitsLen_le_iff x 16).2 (by omega)
 have hp : 2 ^ Sort.bitsLen x ≤ 2 ^ 16 := Nat.pow_le_pow_right (by decide) hb
 rw [aff (by omega)]
 have e1 : (((Sort.bitsLen x : Nat) : Int)).toNat = Sort.bitsLen x := by omega
 have e2 : min (Sort.bitsLen x) IntKind.u64.bits = Sort.bitsLen x := by
  have : IntKind.u64.bits = 64 := rfl
  omega
 have e3 : (1 : Int) * 2 ^ Sort.bitsLen x = ((2 ^ Sort.bitsLen x : Nat) : Int) := by simp
 rw [e1, e2, e3, ace (by omega)]
 exact h
theorem afy {w : World} {b : Nat} {x v : Value} {e : TypeId} (h : w.heap[b]? = some (.cells #[x] e (0, 0))) : ((dr w 1).setCell ⟨b, 0, none⟩ v).heap[b]? = some (.cells #[v] e (0, 0)) :=
 nj (w := dr w 1) h
theorem bau {w : World} {sb : Nat} {x : Int} {e : TypeId} (hb : w.heap[sb]? = some (.cells #[.int .u64 x] e (0, 0))) {K : KV}
  (h : ∀ w' (y : Int), 0 ≤ y → y < 18446744073709551616 → w'.heap[sb]? = some (.cells #[.int .u64 y] e (0, 0)) → Fr (fun b => b = sb) w w' → K (.int .u64 y) w') : ku P F.cn [.pointer (some ⟨sb, 0, none⟩)] w K := by
 apply M.cs.calls
 unfold M.cs
 have s13 : ∀ (x : Int) (w : World) (K : KV) (t : TypeId) (rx ry : Operand), ij P .shl t rx ry (.int .u64 x) (.int .u64 13) w K = K (.int .u64 (IntKind.u64.wrap (x * 2 ^ min (13 : Int).toNat IntKind.u64.bits))) w := fun x w K t rx ry => aff (by decide)
 have s7 : ∀ (x : Int) (w : World) (K : KV) (t : TypeId) (rx ry : Operand), ij P .shr t rx ry (.int .u64 x) (.int .u64 7) w K = K (.int .u64 (x.fdiv (2 ^ min (7 : Int).toNat IntKind.u64.bits))) w := fun x w K t rx ry => aco (by decide)
 have s17 : ∀ (x : Int) (w : World) (K : KV) (t : TypeId) (rx ry : Operand), ij P .shl t rx ry (.int .u64 x) (.int .u64 17) w K = K (.int .u64 (IntKind.u64.wrap (x * 2 ^ min (17 : Int).toNat IntKind.u64.bits))) w := fun x w K t rx ry => aff (by decide)
 have c0 := ie hb 0
 have f0 := pg hb 0
 simp only [List.size_toArray, List.getElem?_toArray, List.getElem?_cons_zero] at c0
 simp [c0, f0, s13, s7, s17, axn, kh, kw]
 refine h _ _ (akd _).1 (akd _).2 ?_ ?_
 ·exact afy (afy (afy hb))
 ·exact (((((((Fr.refl (fun b => b = sb) w).dr 1).setCell (.inl rfl) _ _).dr 1).setCell (.inl rfl) _ _).dr 1).setCell (.inl rfl) _ _)
end Go.Proofs.YtfnhoaemapheoaaGreat
set_option maxRecDepth 100000
namespace Go.Proofs.YtfnhoaemapheoaaGreat.SG
open Go.Eng Go.Sort
variable [SE]
theorem Rf.aih {w w' w'' : World} {g cap sb : Nat} {e : TypeId} {d : Array Int} (h : Rf w w' g e cap d) (f : Fr (fun b => b = sb) w' w'') (hs : w.heap.size ≤ sb) (hne : sb ≠ g) : Rf w w'' g e cap d :=
 ⟨h.row.fr f fun h => hne h.symm, h.fr.lq f fun b hb he => by omega⟩
theorem Rf.new {w w' : World} {g cap : Nat} {e : TypeId} {d : Array Int} (h : Rf w w' g e cap d) (o : Obj) : Rf w (w'.alloc o) g e cap d :=
 ⟨h.row.fr ((Fr.refl (fun _ => False) w').alloc o) fun h => h, h.fr.alloc o⟩
def Sw (w : World) (sb : Nat) : Prop := ∃ x e, w.heap[sb]? = some (.cells #[.int .i64 x] e (0, 0))
theorem aio {w : World} {g cap n sb : Nat} {e : TypeId} {d : Array Int} (H : Rw w g e cap d) (hn : d.size = n) (S : Sw w sb) (hne : sb ≠ g) {a b : Nat} (ha : a < n) (hb : b < n) {K : KV}
  (h : ∀ w' x y, (x = a ∧ y = b ∨ x = b ∧ y = a) → Sw w' sb → Fr (fun b => b = sb) w w' → K (.tuple #[.int .i64 (x : Nat), .int .i64 (y : Nat)]) w') :
  gr P F.gc [.slice (some ⟨g, 0, none⟩) n cap, .int .i64 a, .int .i64 b, .pointer (some ⟨sb, 0, none⟩)] w K := by
 rw [M.ew.fcall]
 apply M.ew.calls
 unfold M.ew
 have a1 := H.at (show a < d.size by omega)
 have a2 := H.at (show b < d.size by omega)
 have b1 : (a : Int) < n := by omega
 have b2 : (b : Int) < n := by omega
 simp [b1, b2, a1, a2]
 refine sw _ _ ?_
 obtain ⟨x, e', hx⟩ := S
 cases hl : ltInt d[b]! d[a]! with
 | false =>
  simp
  exact h _ a b (.inl ⟨rfl, rfl⟩) ⟨x, e', hx⟩ ((Fr.refl _ _).dr 1)
 | true =>
  have c0 := ie hx 0
  have f0 := pg hx 0
  simp only [List.size_toArray, List.getElem?_toArray, List.getElem?_cons_zero] at c0
  simp [c0, f0]
  exact h _ b a (.inr ⟨rfl, rfl⟩) ⟨IntKind.i64.wrap (x + 1), e', afy hx⟩ (((Fr.refl (fun b => b = sb) w).dr 1).setCell (.inl rfl) _ _)
theorem apk {w : World} {g cap n sb : Nat} {e : TypeId} {d : Array Int} (H : Rw w g e cap d) (hn : d.size = n) (S : Sw w sb) (hne : sb ≠ g) {a b c : Nat} (ha : a < n) (hb : b < n) (hc : c < n) {K : KV}
  (h : ∀ w' x, (x = a ∨ x = b ∨ x = c) → Sw w' sb → Fr (fun b => b = sb) w w' → K (.int .i64 (x : Nat)) w') :
  gr P F.gd [.slice (some ⟨g, 0, none⟩) n cap, .int .i64 a, .int .i64 b, .int .i64 c, .pointer (some ⟨sb, 0, none⟩)] w K := by
 rw [M.ex.fcall]
 apply M.ex.calls
 unfold M.ex
 refine aio H hn S hne ha hb fun w1 x1 y1 h1 S1 f1 => ?_
 simp
 have H1 := H.fr f1 fun h => hne h.symm
 refine aio H1 hn S1 hne (a := y1) (b := c) (by omega) hc fun w2 x2 y2 h2 S2 f2 => ?_
 simp
 have H2 := H1.fr f2 fun h => hne h.symm
 refine aio H2 hn S2 hne (a := x1) (b := x2) (by omega) (by omega) fun w3 x3 y3 h3 S3 f3 => ?_
 simp
 exact h w3 y3 (by omega) S3 ((f1.trans f2).trans f3)
theorem ata {w : World} {g cap n sb : Nat} {e : TypeId} {d : Array Int} (H : Rw w g e cap d) (hn : d.size = n) (h6 : n < 100000) (S : Sw w sb) (hne : sb ≠ g) {a : Nat} (ha : 1 ≤ a) (hb : a + 1 < n) {K : KV}
  (h : ∀ w' x, (x = a - 1 ∨ x = a ∨ x = a + 1) → Sw w' sb → Fr (fun b => b = sb) w w' → K (.int .i64 (x : Nat)) w') :
  gr P F.fy [.slice (some ⟨g, 0, none⟩) n cap, .int .i64 a, .pointer (some ⟨sb, 0, none⟩)] w K := by
 rw [M.ec.fcall]
 apply M.ec.calls
 unfold M.ec
 have hw1 : IntKind.i64.wrap ((a : Int) - 1) = ((a - 1 : Nat) : Int) := by rw [ig]; omega
 have hw2 : IntKind.i64.wrap ((a : Int) + 1) = ((a + 1 : Nat) : Int) := rj (by omega)
 simp only [lz, kz, hw1, hw2]
 refine apk H hn S hne (by omega) (by omega) (by omega) fun w' x hx S' f' => ?_
 exact h w' x hx S' f'
theorem bgg {w : World} {g cap n : Nat} {e : TypeId} {d : Array Int} (H : Rw w g e cap d) (hn : d.size = n) (h6 : n < 100000) {a b : Nat} (hb : b ≤ n) (hab : a + 12 < b) {K : KV}
  (h : ∀ w' (p hint : Nat), a ≤ p → p < b → hint ≤ 2 → Rf w w' g e cap d → K (.tuple #[.int .i64 (p : Nat), .int .i64 (hint : Nat)]) w') :
  ku P F.gm [.slice (some ⟨g, 0, none⟩) n cap, .int .i64 a, .int .i64 b] w K := by
 apply M.ed.calls
 unfold M.ed
 have hw0 : IntKind.i64.wrap ((b : Int) - a) = ((b - a : Nat) : Int) := yv (by omega) (by omega)
 generalize hl : b - a = l at *
 have q4 : IntKind.i64.wrap (((l : Nat) : Int).tdiv 4) = ((l / 4 : Nat) : Int) := by rw [Int.tdiv_eq_ediv_of_nonneg (by omega), ig]; omega
 have m1 : IntKind.i64.wrap (((l / 4 : Nat) : Int) * 1) = ((l / 4 : Nat) : Int) := by rw [ig]; omega
 have m2 : IntKind.i64.wrap (((l / 4 : Nat) : Int) * 2) = ((l / 4 * 2 : Nat) : Int) := by rw [ig]; omega
 have m3 : IntKind.i64.wrap (((l / 4 : Nat) : Int) * 3) = ((l / 4 * 3 : Nat) : Int) := by rw [ig]; omega
 have s1 : IntKind.i64.wrap ((a : Int) + ((l / 4 : Nat) : Int)) = ((a + l / 4 : Nat) : Int) := by rw [ig]; omega
 have s2 : IntKind.i64.wrap ((a : Int) + ((l / 4 * 2 : Nat) : Int)) = ((a + l / 4 * 2 : Nat) : Int) := by rw [ig]; omega
 have s3 : IntKind.i64.wrap ((a : Int) + ((l / 4 * 3 : Nat) : Int)) = ((a + l / 4 * 3 : Nat) : Int) := by rw [ig]; omega
 have bq : ∀ (x : Int) (t : TypeId) (rx ry : Operand) (w : World) (K : KV), ij P .quo t rx ry (.int .i64 x) (.int .i64 4) w K = K (.int .i64 (IntKind.i64.wrap (x.tdiv 4))) w := fun x t rx ry w K => anl (by decide)
 have al : ∀ (w : World) (K : KV), alT P T.c w K = K (.pointer (some ⟨w.heap.size, 0, none⟩)) (w.alloc (.cells #[.int .i64 0] T.c)) := fun w K => kr
 have c8 : (8 : Int) ≤ (l : Int) := by omega
 simp only [lz, kz, vx, bq, hw0, q4, m1, m2, m3, s1, s2, s3, al, sg, c8, decide_true, Eng.cond_true]
 clear q4 m1 m2 m3 s1 s2 s3 bq al c8 hw0
 have H0 := H.xi.new (.cells #[.int .i64 0] T.c)
 have S0 : Sw (w.alloc (.cells #[.int .i64 0] T.c)) w.heap.size := ⟨0, T.c, by rw [iw, if_pos rfl]⟩
 have hne : w.heap.size ≠ g := by have := H.lt; omega
 generalize w.alloc (.cells #[.int .i64 0] T.c) = w0 at *
 have fin : ∀ (w1 : World) (p : Nat) (v1 v2 : Value), a ≤ p → p < b → Rf w w1 g e cap d → Sw w1 w.heap.size → M.ed.j0 (.pointer (some ⟨w.heap.size, 0, none⟩)) [v1, .int .i64 (p : Nat), v2] w1 K := by
  intro w1 p v1 v2 hp1 hp2 H1 S1
  obtain ⟨x, e', hx⟩ := S1
  unfold M.ed.j0
  have c0 := ie hx 0
  simp only [List.size_toArray, List.getElem?_toArray, List.getElem?_cons_zero] at c0
  have q1 : ∀ a b c : Value, gv [a, b, c] 1 = b := fun _ _ _ => rfl
  by_cases x0 : x = 0
  ·simp [c0, q1, x0]
   exact h w1 p 1 hp1 hp2 (by decide) H1
  by_cases x12 : x = 12
  ·simp [c0, q1, x12]
   exact h w1 p 2 hp1 hp2 (by decide) H1
  ·simp [c0, q1, x0, x12]
   exact h w1 p 0 hp1 hp2 (by decide) H1
 simp only [ib]
 have mf : ∀ (w1 : World) (x y z : Nat), a ≤ x → x < b → a ≤ y → y < b → a ≤ z → z < b → Rf w w1 g e cap d → Sw w1 w.heap.size →
   gr P F.gd [.slice (some ⟨g, 0, none⟩) n cap, gv [.int .i64 (x : Int), .int .i64 (y : Int), .int .i64 (z : Int)] 0, gv [.int .i64 (x : Int), .int .i64 (y : Int), .int .i64 (z : Int)] 1, gv [.int .i64 (x : Int), .int .i64 (y : Int), .int .i64 (z : Int)] 2, .pointer (some ⟨w.heap.size, 0, none⟩)] w1 fun t48 w' =>
    M.ed.j0 (.pointer (some ⟨w.heap.size, 0, none⟩)) [gv [.int .i64 (x : Int), .int .i64 (y : Int), .int .i64 (z : Int)] 0, t48, gv [.int .i64 (x : Int), .int .i64 (y : Int), .int .i64 (z : Int)] 2] w' K := by
  intro w1 x y z hx1 hx2 hy1 hy2 hz1 hz2 H1 S1
  refine apk H1.row hn S1 hne (a := x) (b := y) (c := z) (by omega) (by omega) (by omega) fun w2 p hp S2 f2 => ?_
  exact fin w2 p _ _ (by omega) (by omega) (H1.aih f2 (Nat.le_refl _) hne) S2
 by_cases h50 : 50 ≤ l
 ·have h50' : (50 : Int) ≤ (l : Int) := by omega
  simp only [h50', decide_true, Eng.cond_true]
  refine ata H0.row hn h6 S0 hne (by omega) (by omega) fun w1 x hx S1 f1 => ?_
  have H1 := H0.aih f1 (Nat.le_refl _) hne
  refine ata H1.row hn h6 S1 hne (by omega) (by omega) fun w2 y hy S2 f2 => ?_
  have H2 := H1.aih f2 (Nat.le_refl _) hne
  refine ata H2.row hn h6 S2 hne (by omega) (by omega) fun w3 z hz S3 f3 => ?_
  have H3 := H2.aih f3 (Nat.le_refl _) hne
  exact mf w3 x y z (by omega) (by omega) (by omega) (by omega) (by omega) (by omega) H3 S3
 ·have h50' : ¬ (50 : Int) ≤ (l : Int) := by omega
  simp only [h50', decide_false, Eng.cond_false]
  exact mf w0 (a + l / 4) (a + l / 4 * 2) (a + l / 4 * 3) (by omega) (by omega) (by omega) (by omega) (by omega) (by omega) H0 S0
def BpI (w : World) (g : Nat) (e : TypeId) (cap n a b idx0 : Nat) (d : Array Int) : KL := fun x w1 => ∃ (u : Value) (k : Nat) (d1 : Array Int) (r : Int), x = [u, .int .i64 ((idx0 + k : Nat) : Int)] ∧ Rf w w1 g e cap d1 ∧ d1.size = n ∧ k ≤ 3 ∧ PermIn a b d d1 ∧ 0 ≤ r ∧ r < 18446744073709551616 ∧ w1.heap[w.heap.size]? = some (.cells #[.int .u64 r] T.x (0, 0))
theorem bgt {w : World} {g cap n : Nat} {e : TypeId} {d : Array Int} (H : Rw w g e cap d) (hn : d.size = n) (h6 : n < 60000) {a b : Nat} (hb : b ≤ n) (hab : a + 12 < b) {K : KV}
  (h : ∀ w' d', PermIn a b d d' → Rf w w' g e cap d' → K (.tuple #[]) w') :
  ku P F.gl [.slice (some ⟨g, 0, none⟩) n cap, .int .i64 a, .int .i64 b] w K := by
 apply M.df.calls
 unfold M.df
 have hw0 : IntKind.i64.wrap ((b : Int) - a) = ((b - a : Nat) : Int) := yv (by omega) (by omega)
 have hlb : a + (b - a) = b := by omega
 generalize hl : b - a = l at *
 have bq : ∀ (x : Int) (t : TypeId) (rx ry : Operand) (w : World) (K : KV), ij P .quo t rx ry (.int .i64 x) (.int .i64 4) w K = K (.int .i64 (IntKind.i64.wrap (x.tdiv 4))) w := fun x t rx ry w K => anl (by decide)
 have q4 : IntKind.i64.wrap (((l : Nat) : Int).tdiv 4) = ((l / 4 : Nat) : Int) := by rw [Int.tdiv_eq_ediv_of_nonneg (by omega), ig]; omega
 have m2 : IntKind.i64.wrap (((l / 4 : Nat) : Int) * 2) = ((l / 4 * 2 : Nat) : Int) := by rw [ig]; omega
 have s2 : IntKind.i64.wrap ((a : Int) + ((l / 4 * 2 : Nat) : Int)) = ((a + l / 4 * 2 : Nat) : Int) := by rw [ig]; omega
 have s3 : IntKind.i64.wrap (((a + l / 4 * 2 : Nat) : Int) - 1) = ((a + l / 4 * 2 - 1 + 0 : Nat) : Int) := by rw [ig]; omega
 have s4 : IntKind.i64.wrap (((a + l / 4 * 2 : Nat) : Int) + 1) = ((a + l / 4 * 2 + 1 : Nat) : Int) := rj (by omega)
 have c8 : (8 : Int) ≤ (l : Int) := by omega
 have i64B : yj P T.c .i64 = true := by kernel_rfl
 have uB : yj P T.ba .u64 = true := by kernel_rfl
 have xB : yj P T.x .u64 = true := by kernel_rfl
 simp only [lz, hw0, sg, c8, decide_true, Eng.cond_true]
 rw [pj i64B xB, ace (by omega)]
 have hx0 : (w.alloc (.cells #[.int .u64 0] T.x)).heap[w.heap.size]? = some (.cells #[.int .u64 0] T.x (0, 0)) := by rw [iw, if_pos rfl]
 have H0 := H.xi.new (.cells #[.int .u64 0] T.x)
 have hne : w.heap.size ≠ g := by have := H.lt; omega
 have c0 := ie hx0 0
 have f0 := pg hx0 0
 simp only [List.size_toArray, List.getElem?_toArray, List.getElem?_cons_zero] at c0
 simp [c0, f0, -ib]
 have hx1 : ((w.alloc (.cells #[.int .u64 0] T.x)).setCell ⟨w.heap.size, 0, none⟩ (.int .u64 l)).heap[w.heap.size]? = some (.cells #[.int .u64 l] T.x (0, 0)) := nj hx0
 have H1 := H0.aih ((Fr.refl (fun b => b = w.heap.size) _).setCell (.inl rfl) 0 (.int .u64 (l : Int))) (Nat.le_refl _) hne
 generalize (w.alloc (.cells #[.int .u64 0] T.x)).setCell ⟨w.heap.size, 0, none⟩ (.int .u64 (l : Int)) = w1 at *
 rw [M.cr.fcall]
 refine bki (by omega) ?_
 have hp2 : 2 ^ bitsLen l ≤ 2 * l := two_pow_bitsLen_le (by omega)
 have hp1 : 0 < 2 ^ bitsLen l := Nat.pow_pos (by decide)
 simp only [bq, q4, vx, m2, kz, s2, lz, s3]
 generalize 2 ^ bitsLen l = md at *
 generalize hi0 : a + l / 4 * 2 - 1 = i0 at *
 refine ⟨BpI w g e cap n a b i0 d, fun x _ => i0 + 3 - ms x 1, ⟨_, 0, d, l, rfl, H1, hn, by omega, permIn_refl d a b, by omega, by omega, hx1⟩, ?_⟩
 rintro x w2 ⟨u, k, d2, r, rfl, H2, hn2, hk, hP, hr0, hr1, hx2⟩
 unfold M.df.j0
 simp only [ib, bq, q4, vx, m2, kz, s2, s4, g21, acu]
 by_cases hk3 : k < 3
 ·have hle : ((i0 + k : Nat) : Int) ≤ ((a + l / 4 * 2 + 1 : Nat) : Int) := by omega
  simp only [hle, decide_true, Eng.cond_true]
  unfold M.df.j1
  simp only [ib, g21]
  rw [M.cs.fcall]
  refine bau hx2 fun w3 y hy0 hy1 hx3 f3 => ?_
  have H3 := H2.aih f3 (Nat.le_refl _) hne
  obtain ⟨z, rfl⟩ : ∃ z : Nat, y = z := ⟨y.toNat, by omega⟩
  have hm1 : IntKind.u64.wrap ((md : Int) - 1) = ((md - 1 : Nat) : Int) := by rw [adp (by omega) (by omega)]; omega
  have hand : (BitVec.ofInt IntKind.u64.bits (z : Int) &&& BitVec.ofInt IntKind.u64.bits ((md - 1 : Nat) : Int)).toNat ≤ md - 1 := bmy (x := z) (y := md - 1) (by omega) (by omega)
  simp only [lz, hm1, ayj]
  generalize (BitVec.ofInt IntKind.u64.bits (z : Int) &&& BitVec.ofInt IntKind.u64.bits ((md - 1 : Nat) : Int)).toNat = o at *
  rw [ace (by omega), pj uB i64B, alx (by omega)]
  have tail : ∀ (o : Nat), o < l → M.df.j3 (.int .i64 a) [.int .i64 (o : Nat)] (.slice (some ⟨g, 0, none⟩) n cap) [u, .int .i64 ((i0 + k : Nat) : Int)] (fun x2 w' => BpI w g e cap n a b i0 d [gv x2 0, .int .i64 (IntKind.i64.wrap (((i0 + k : Nat) : Int) + 1))] w' ∧ i0 + 3 - ms [gv x2 0, .int .i64 (IntKind.i64.wrap (((i0 + k : Nat) : Int) + 1))] 1 < i0 + 3 - ms [u, .int .i64 ((i0 + k : Nat) : Int)] 1) w3 K := by
   intro o ho
   unfold M.df.j3
   have wr : IntKind.i64.wrap ((a : Int) + (o : Int)) = ((a + o : Nat) : Int) := by rw [ig]; omega
   have a1 := H3.row.at (show i0 + k < d2.size by omega)
   have a2 := H3.row.at (show a + o < d2.size by omega)
   have b1 : ((i0 + k : Nat) : Int) < n := by omega
   have b2 : ((a + o : Nat) : Int) < n := by omega
   have f1 := H3.row.frz (i0 + k)
   have f2 := H3.row.frz (a + o)
   simp [g0, g21, wr, b1, b2, a1, a2, f1, f2, kh, kw, -Int.natCast_add]
   have hw5 : IntKind.i64.wrap (((i0 + k : Nat) : Int) + 1) = ((i0 + (k + 1) : Nat) : Int) := by rw [ig]; omega
   rw [hw5]
   refine ⟨⟨_, k + 1, _, z, rfl, (H3.dr 1).swp (by omega) (by omega), by rw [size_swp]; exact hn2, by omega, permIn_trans _ _ _ a b hP (swp_permIn _ a b _ _ (by omega) (by omega) (by omega) (by omega) (by omega)), by omega, by omega, ?_⟩, ?_⟩
   ·rw [amu (by omega), amu (by omega)]; exact hx3
   ·simp only [ms, g21]; omega
  simp only [ib, sg, kz]
  by_cases hol : l ≤ o
  ·have hol' : (l : Int) ≤ o := by omega
   have hwo : IntKind.i64.wrap ((o : Int) - l) = ((o - l : Nat) : Int) := yv (by omega) (by omega)
   simp only [hol', decide_true, Eng.cond_true, lz, hwo]
   exact tail (o - l) (by omega)
  ·have hol' : ¬ (l : Int) ≤ o := by omega
   simp only [hol', decide_false, Eng.cond_false]
   exact tail o (by omega)
 ·have hle : ¬ ((i0 + k : Nat) : Int) ≤ ((a + l / 4 * 2 + 1 : Nat) : Int) := by omega
  simp only [hle, decide_false, Eng.cond_false]
  exact h w2 d2 hP H2
end Go.Proofs.YtfnhoaemapheoaaGreat.SG
set_option maxRecDepth 100000
namespace Go.Proofs.YtfnhoaemapheoaaGreat.SG
open Go.Eng Go.Sort
variable [SE]
section
omit [SE] in
theorem f5 (a0 a1 a2 a3 a4 a5 a6 a7 a8 a9 a10 a11 a12 a13 : Value) : gv [a0, a1, a2, a3, a4, a5, a6, a7, a8, a9, a10, a11, a12, a13] 5 = a5 := rfl
omit [SE] in
theorem f13 (a0 a1 a2 a3 a4 a5 a6 a7 a8 a9 a10 a11 a12 a13 : Value) : gv [a0, a1, a2, a3, a4, a5, a6, a7, a8, a9, a10, a11, a12, a13] 13 = a13 := rfl
end
structure bqg (w w1 : World) (g : Nat) (e : TypeId) (cap n a0 b0 : Nat) (d0 : Array Int) (a b limit : Nat) (wb wp : Bool) (d : Array Int) : Prop where
 rf : Rf w w1 g e cap d
 sz : d.size = n
 ab : a ≤ b
 bb : b - a ≤ b0 - a0
 bn : b ≤ n
 be : Below ltInt a b d
 fin : ∀ R, PermIn a b d R → SortedIn ltInt a b R → PermIn a0 b0 d0 R ∧ SortedIn ltInt a0 b0 R
def PdI (w : World) (g : Nat) (e : TypeId) (cap n a0 b0 : Nat) (d0 : Array Int) : KL := fun x w1 => ∃ (u0 u2 u3 u4 u6 u7 u9 u10 u11 : Value) (a b limit : Nat) (wb wp : Bool) (d : Array Int),
 x = [u0, .int .i64 (limit : Nat), u2, u3, u4, .int .i64 (a : Nat), u6, u7, .bool wp, u9, u10, u11, .bool wb, .int .i64 (b : Nat)] ∧ limit < 1000 ∧ bqg w w1 g e cap n a0 b0 d0 a b limit wb wp d
def IH (m : Nat) : Prop := ∀ {w : World} {g cap n : Nat} {e : TypeId} {d : Array Int} (_ : Rw w g e cap d) (_ : d.size = n) (_ : n < 60000) {a b limit : Nat} (_ : b - a ≤ m) (_ : a ≤ b) (_ : b ≤ n) (_ : limit < 1000) (_ : Below ltInt a b d) {K : KV}
  (_ : ∀ w' d', PermIn a b d d' → SortedIn ltInt a b d' → Rf w w' g e cap d' → K (.tuple #[]) w'), ku P F.ge [.slice (some ⟨g, 0, none⟩) n cap, .int .i64 a, .int .i64 b, .int .i64 limit] w K
section
variable {m : Nat} {w : World} {g cap n : Nat} {e : TypeId} {d d5 : Array Int} {a0 b0 a b pv hint4 lim2 : Nat} {wb wp : Bool} {x0 : List Value} {K : KV}
theorem axg (ih : IH m) (h6 : n < 60000) (hm : b0 - a0 ≤ m + 1) (hbb : b - a ≤ b0 - a0) (hbn : b ≤ n) (hab : a ≤ b) (hpv1 : a ≤ pv) (hpv2 : pv < b) (hlim2 : lim2 < 1000) {w5 : World} (H5 : Rf w w5 g e cap d5) (hn5 : d5.size = n) (B5 : Below ltInt a b d5)
  (hfin5 : ∀ R, PermIn a b d5 R → SortedIn ltInt a b R → PermIn a0 b0 d R ∧ SortedIn ltInt a0 b0 R) (e5 : gv x0 5 = .int .i64 (a : Nat)) (e8 : gv x0 8 = .bool wp) (e12 : gv x0 12 = .bool wb) (e13 : gv x0 13 = .int .i64 (b : Nat)) (m5 : ms x0 5 = a) (m13 : ms x0 13 = b) (v0 : Value) :
  M.bj.j6 (.slice (some ⟨g, 0, none⟩) n cap) [v0, .int .i64 (a : Nat)] x0 [.int .i64 (pv : Nat), .int .i64 (hint4 : Nat)] (.int .i64 ((b - a : Nat) : Int)) [.int .i64 (lim2 : Nat)] (fun x' w' => PdI w g e cap n a0 b0 d x' w' ∧ ms x' 13 - ms x' 5 < ms x0 13 - ms x0 5) w5 K := by
 unfold M.bj.j6
 simp only [g20, g21, e13]
 rw [M.au.fcall]
 refine avs H5.row hn5 (by omega) hbn hpv1 hpv2 fun w7 H7 => ?_
 have H7' := H5.trans H7
 obtain ⟨r1, r2, r3, rBa, rBr, rL, rR⟩ := round_part swo_ltInt (partition_holds ltInt) hpv1 hpv2 (by omega) B5 (show partition ltInt d5 a b pv = ((partition ltInt d5 a b pv).1, (partition ltInt d5 a b pv).2.1, (partition ltInt d5 a b pv).2.2) from rfl)
 generalize (partition ltInt d5 a b pv).1 = mid at *
 generalize (partition ltInt d5 a b pv).2.1 = ap at *
 generalize (partition ltInt d5 a b pv).2.2 = d7 at *
 have hn7 : d7.size = n := by omega
 have wl : IntKind.i64.wrap ((mid : Int) - a) = ((mid - a : Nat) : Int) := yv (by omega) (by omega)
 have wr : IntKind.i64.wrap ((b : Int) - mid) = ((b - mid : Nat) : Int) := yv (by omega) (by omega)
 have wm : IntKind.i64.wrap ((mid : Int) + 1) = ((mid + 1 : Nat) : Int) := rj (by omega)
 have bq : ∀ (x : Int) (t : TypeId) (rx ry : Operand) (w : World) (K : KV), ij P .quo t rx ry (.int .i64 x) (.int .i64 8) w K = K (.int .i64 (IntKind.i64.wrap (x.tdiv 8))) w := fun x t rx ry w K => anl (by decide)
 simp only [aew, afm, g0, lz, wl, wr, bq, lw, sg]
 by_cases hlt : mid - a < b - mid
 ·have hlt' : ((mid - a : Nat) : Int) < ((b - mid : Nat) : Int) := by omega
  simp only [hlt', decide_true, Eng.cond_true]
  rw [M.bj.fcall]
  refine ih H7.row hn7 h6 (by omega) r1 (by omega) hlim2 rBa fun w8 d8 P8 S8 H8 => ?_
  obtain ⟨hBL, hfinL⟩ := rL d8 P8 S8
  simp only [kz, wm]
  refine ⟨⟨_, _, _, _, _, _, _, _, _, mid + 1, b, lim2, _, ap, d8, rfl, hlim2, ⟨H7'.trans H8, by rw [P8.1]; exact hn7, by omega, by omega, hbn, hBL, fun R h1 h2 => ?_⟩⟩, ?_⟩
  ·obtain ⟨k1, k2⟩ := hfinL R h1 h2
   exact hfin5 R k1 k2
  ·have : ∀ y0 y1 y2 y3 y4 y6 y7 y8 y9 y10 y11 y12 : Value, ms [y0, y1, y2, y3, y4, .int .i64 ((mid + 1 : Nat) : Int), y6, y7, y8, y9, y10, y11, y12, .int .i64 (b : Nat)] 13 = b ∧ ms [y0, y1, y2, y3, y4, .int .i64 ((mid + 1 : Nat) : Int), y6, y7, y8, y9, y10, y11, y12, .int .i64 (b : Nat)] 5 = mid + 1 := fun _ _ _ _ _ _ _ _ _ _ _ _ => ⟨rfl, rfl⟩
   rw [(this _ _ _ _ _ _ _ _ _ _ _ _).1, (this _ _ _ _ _ _ _ _ _ _ _ _).2, m5, m13]; omega
 ·have hlt' : ¬ ((mid - a : Nat) : Int) < ((b - mid : Nat) : Int) := by omega
  simp only [hlt', decide_false, Eng.cond_false, kz, wm]
  rw [M.bj.fcall]
  refine ih H7.row hn7 h6 (by omega) (by omega) hbn hlim2 rBr fun w8 d8 P8 S8 H8 => ?_
  obtain ⟨hBL, hfinL⟩ := rR d8 P8 S8
  refine ⟨⟨_, _, _, _, _, _, _, _, _, a, mid, lim2, _, ap, d8, rfl, hlim2, ⟨H7'.trans H8, by rw [P8.1]; exact hn7, by omega, by omega, by omega, hBL, fun R h1 h2 => ?_⟩⟩, ?_⟩
  ·obtain ⟨k1, k2⟩ := hfinL R h1 h2
   exact hfin5 R k1 k2
  ·have : ∀ y0 y1 y2 y3 y4 y6 y7 y8 y9 y10 y11 y12 : Value, ms [y0, y1, y2, y3, y4, .int .i64 (a : Nat), y6, y7, y8, y9, y10, y11, y12, .int .i64 (mid : Nat)] 13 = mid ∧ ms [y0, y1, y2, y3, y4, .int .i64 (a : Nat), y6, y7, y8, y9, y10, y11, y12, .int .i64 (mid : Nat)] 5 = a := fun _ _ _ _ _ _ _ _ _ _ _ _ => ⟨rfl, rfl⟩
   rw [(this _ _ _ _ _ _ _ _ _ _ _ _).1, (this _ _ _ _ _ _ _ _ _ _ _ _).2, m5, m13]; omega
theorem bnv (ih : IH m) (h6 : n < 60000) (hm : b0 - a0 ≤ m + 1) (hbb : b - a ≤ b0 - a0) (hbn : b ≤ n) (hab : a ≤ b) (hpv1 : a ≤ pv) (hpv2 : pv < b) (hlim2 : lim2 < 1000) {w5 : World} (H5 : Rf w w5 g e cap d5) (hn5 : d5.size = n) (B5 : Below ltInt a b d5)
  (hfin5 : ∀ R, PermIn a b d5 R → SortedIn ltInt a b R → PermIn a0 b0 d R ∧ SortedIn ltInt a0 b0 R) (e5 : gv x0 5 = .int .i64 (a : Nat)) (e8 : gv x0 8 = .bool wp) (e12 : gv x0 12 = .bool wb) (e13 : gv x0 13 = .int .i64 (b : Nat)) (m5 : ms x0 5 = a) (m13 : ms x0 13 = b) :
  M.bj.j5 x0 (.slice (some ⟨g, 0, none⟩) n cap) [.int .i64 (pv : Nat), .int .i64 (hint4 : Nat)] (fun x' w' => PdI w g e cap n a0 b0 d x' w' ∧ ms x' 13 - ms x' 5 < ms x0 13 - ms x0 5) (.int .i64 ((b - a : Nat) : Int)) [.int .i64 (lim2 : Nat)] w5 K := by
 unfold M.bj.j5
 simp only [ib, qw, xp, e5, e13, g20, true_and, and_true, si, aaw]
 by_cases ha0 : 0 < a
 ·have ha0' : (0 : Int) < (a : Int) := by omega
  have hwa : IntKind.i64.wrap ((a : Int) - 1) = ((a - 1 : Nat) : Int) := by rw [ig]; omega
  have a1 := H5.row.at (show a - 1 < d5.size by omega)
  have a2 := H5.row.at (show pv < d5.size by omega)
  have b1 : ((a - 1 : Nat) : Int) < n := by omega
  have b2 : (pv : Int) < n := by omega
  simp [ha0, ha0', hwa, a1, a2, b1, b2]
  refine sw _ _ ?_
  cases hl : ltInt d5[a - 1]! d5[pv]! with
  | true =>
   simp
   exact axg ih h6 hm hbb hbn hab hpv1 hpv2 hlim2 (H5.dr 1) hn5 B5 hfin5 e5 e8 e12 e13 m5 m13 _
  | false =>
   simp
   rw [M.cx.fcall]
   refine ajy (H5.dr 1).row hn5 (by omega) hbn hpv1 hpv2 fun w7 H7 => ?_
   have H7' := (H5.dr 1).trans H7
   obtain ⟨r1, r2, r3, rB, rF⟩ := round_eq swo_ltInt (partitionEqual_holds ltInt) ha0 hpv1 hpv2 (by omega) B5 hl (show partitionEqual ltInt d5 a b pv = ((partitionEqual ltInt d5 a b pv).1, (partitionEqual ltInt d5 a b pv).2) from rfl)
   generalize (partitionEqual ltInt d5 a b pv).1 = mid at *
   generalize (partitionEqual ltInt d5 a b pv).2 = d7 at *
   have hn7 : d7.size = n := by omega
   refine ⟨⟨_, _, _, _, _, _, _, _, _, mid, b, lim2, wb, wp, d7, by rw [e8, e12], hlim2, ⟨H7', hn7, r2, by omega, hbn, rB, fun R h1 h2 => ?_⟩⟩, ?_⟩
   ·obtain ⟨k1, k2⟩ := rF R h1 h2
    exact hfin5 R k1 k2
   ·have : ∀ y0 y1 y2 y3 y4 y6 y7 y8 y9 y10 y11 y12 : Value, ms [y0, y1, y2, y3, y4, .int .i64 (mid : Nat), y6, y7, y8, y9, y10, y11, y12, .int .i64 (b : Nat)] 13 = b ∧ ms [y0, y1, y2, y3, y4, .int .i64 (mid : Nat), y6, y7, y8, y9, y10, y11, y12, .int .i64 (b : Nat)] 5 = mid := fun _ _ _ _ _ _ _ _ _ _ _ _ => ⟨rfl, rfl⟩
    rw [(this _ _ _ _ _ _ _ _ _ _ _ _).1, (this _ _ _ _ _ _ _ _ _ _ _ _).2, m5, m13]; omega
 ·have ha0' : ¬ (0 : Int) < (a : Int) := by omega
  simp [ha0, ha0']
  exact axg ih h6 hm hbb hbn hab hpv1 hpv2 hlim2 (H5.dr 1) hn5 B5 hfin5 e5 e8 e12 e13 m5 m13 _
theorem ayk {d1 : Array Int} (ih : IH m) (h6 : n < 60000) (hm : b0 - a0 ≤ m + 1) (hbb : b - a ≤ b0 - a0) (hbn : b ≤ n) (hab : a ≤ b) (hlim2 : lim2 < 1000) (h12 : ¬ b - a ≤ 12) (hn1 : d1.size = n) (hB1 : Below ltInt a b d1)
  (hfin : ∀ R, PermIn a b d1 R → SortedIn ltInt a b R → PermIn a0 b0 d R ∧ SortedIn ltInt a0 b0 R) (h : ∀ w' d', PermIn a0 b0 d d' → SortedIn ltInt a0 b0 d' → Rf w w' g e cap d' → K (.tuple #[]) w')
  (e5 : gv x0 5 = .int .i64 (a : Nat)) (e8 : gv x0 8 = .bool wp) (e12 : gv x0 12 = .bool wb) (e13 : gv x0 13 = .int .i64 (b : Nat)) (m5 : ms x0 5 = a) (m13 : ms x0 13 = b) {w4 : World} {d4 : Array Int} (H4 : Rf w w4 g e cap d4) (P4 : PermIn a b d1 d4) (hpv1 : a ≤ pv) (hpv2 : pv < b) :
  M.bj.j4 x0 [.int .i64 (pv : Nat), .int .i64 (hint4 : Nat)] (.slice (some ⟨g, 0, none⟩) n cap) (fun x' w' => PdI w g e cap n a0 b0 d x' w' ∧ ms x' 13 - ms x' 5 < ms x0 13 - ms x0 5) (.int .i64 ((b - a : Nat) : Int)) [.int .i64 (lim2 : Nat)] w4 K := by
 have hn4 : d4.size = n := by rw [P4.1]; exact hn1
 have B4 := hB1.perm (by omega) P4
 have st5 : ∀ (w5 : World) (d5 : Array Int), Rf w w5 g e cap d5 → PermIn a b d1 d5 →
   M.bj.j5 x0 (.slice (some ⟨g, 0, none⟩) n cap) [.int .i64 (pv : Nat), .int .i64 (hint4 : Nat)] (fun x' w' => PdI w g e cap n a0 b0 d x' w' ∧ ms x' 13 - ms x' 5 < ms x0 13 - ms x0 5) (.int .i64 ((b - a : Nat) : Int)) [.int .i64 (lim2 : Nat)] w5 K := fun w5 d5 H5 P5 =>
  bnv ih h6 hm hbb hbn hab hpv1 hpv2 hlim2 H5 (by rw [P5.1]; exact hn1) (hB1.perm (by omega) P5) (fun R h1 h2 => hfin R (permIn_trans _ _ _ a b P5 h1) h2) e5 e8 e12 e13 m5 m13
 unfold M.bj.j4
 simp only [ib, e5, e8, e12, e13, aaw, g21]
 cases wb with
 | false => simp; exact st5 w4 d4 H4 P4
 | true =>
  cases wp with
  | false => simp; exact st5 w4 d4 H4 P4
  | true =>
   by_cases hh1 : hint4 = 1
   ·have hd : decide ((hint4 : Int) = 1) = true := by rw [decide_eq_true_eq]; omega
    simp only [aaw, aof, ach, beq_self_eq_true, _root_.cond_true, ur, hd, Eng.cond_true]
    rw [M.al.fcall]
    refine apy H4.row hn4 (by omega) hbn (by omega) fun w5 H5 => ?_
    have hpi := partialInsertionSort_holds swo_ltInt d4 a b (by omega) (by omega) B4
    cases hr : (partialInsertionSort ltInt d4 a b).2 with
    | true =>
     simp
     obtain ⟨p1, p2⟩ := hfin _ (permIn_trans _ _ _ a b P4 hpi.1) (hpi.2 hr)
     exact h w5 _ p1 p2 (H4.trans H5)
    | false =>
     simp
     exact st5 w5 _ (H4.trans H5) (permIn_trans _ _ _ a b P4 hpi.1)
   ·have hd : decide ((hint4 : Int) = 1) = false := by rw [decide_eq_false_iff_not]; omega
    simp only [aaw, aof, ach, beq_self_eq_true, _root_.cond_true, ur, hd, Eng.cond_false]
    exact st5 w4 d4 H4 P4
theorem arw {d1 : Array Int} (ih : IH m) (h6 : n < 60000) (hm : b0 - a0 ≤ m + 1) (hbb : b - a ≤ b0 - a0) (hbn : b ≤ n) (hab : a ≤ b) (hlim2 : lim2 < 1000) (h12 : ¬ b - a ≤ 12) (hn1 : d1.size = n) (hB1 : Below ltInt a b d1)
  (hfin : ∀ R, PermIn a b d1 R → SortedIn ltInt a b R → PermIn a0 b0 d R ∧ SortedIn ltInt a0 b0 R) (h : ∀ w' d', PermIn a0 b0 d d' → SortedIn ltInt a0 b0 d' → Rf w w' g e cap d' → K (.tuple #[]) w')
  (e5 : gv x0 5 = .int .i64 (a : Nat)) (e8 : gv x0 8 = .bool wp) (e12 : gv x0 12 = .bool wb) (e13 : gv x0 13 = .int .i64 (b : Nat)) (m5 : ms x0 5 = a) (m13 : ms x0 13 = b) {w2 : World} {d2 : Array Int} (H2 : Rf w w2 g e cap d2) (P2 : PermIn a b d1 d2) :
  M.bj.j3 (.slice (some ⟨g, 0, none⟩) n cap) x0 (fun x' w' => PdI w g e cap n a0 b0 d x' w' ∧ ms x' 13 - ms x' 5 < ms x0 13 - ms x0 5) (.int .i64 ((b - a : Nat) : Int)) [.int .i64 (lim2 : Nat)] w2 K := by
 have hn2 : d2.size = n := by rw [P2.1]; exact hn1
 have B2 := hB1.perm (by omega) P2
 unfold M.bj.j3
 simp only [e5, e13, ib]
 rw [M.ed.fcall]
 refine bgg H2.row hn2 (by omega) hbn (by omega) fun w3 p hint hp1 hp2 hh H3 => ?_
 have H3' := H2.trans H3
 simp only [aew, afm, ur]
 by_cases hh2 : hint = 2
 ·have hh2' : (hint : Int) = 2 := by omega
  simp only [hh2', decide_true, Eng.cond_true]
  rw [M.ei.fcall]
  refine bbd H3.row hn2 (by omega) hbn (by omega) fun w4 H4 => ?_
  have hrev := reverseRange_holds d2 a b hab (by omega)
  have w1' : IntKind.i64.wrap ((b : Int) - 1) = ((b - 1 : Nat) : Int) := by rw [ig]; omega
  have w2' : IntKind.i64.wrap ((p : Int) - a) = ((p - a : Nat) : Int) := yv (by omega) (by omega)
  have w3' : IntKind.i64.wrap (((b - 1 : Nat) : Int) - ((p - a : Nat) : Int)) = ((b - 1 - (p - a) : Nat) : Int) := yv (by omega) (by omega)
  simp only [lz, w1', w2', w3']
  exact ayk (hint4 := 1) ih h6 hm hbb hbn hab hlim2 h12 hn1 hB1 hfin h e5 e8 e12 e13 m5 m13 (H3'.trans H4) (permIn_trans _ _ _ a b P2 hrev) (by omega) (by omega)
 ·have hh2' : ¬ (hint : Int) = 2 := by omega
  simp only [hh2', decide_false, Eng.cond_false]
  exact ayk ih h6 hm hbb hbn hab hlim2 h12 hn1 hB1 hfin h e5 e8 e12 e13 m5 m13 H3' P2 hp1 hp2
end
theorem bml : ∀ (m : Nat), IH m := by
 intro m
 induction m with
 | zero =>
  intro w g cap n e d H hn h6 a b limit hm hab hb hlim hB K h
  -- nothing to sort
  have hba : b = a := by omega
  subst hba
  apply M.bj.calls
  unfold M.bj
  refine ⟨fun x w1 => x = [undef, .int .i64 (limit : Nat), undef, undef, undef, .int .i64 (b : Nat), undef, undef, .bool true, undef, undef, undef, .bool true, .int .i64 (b : Nat)] ∧ w1 = w, fun _ _ => 0, ⟨rfl, rfl⟩, ?_⟩
  rintro x w1 ⟨rfl, rfl⟩
  unfold M.bj.j0
  have hw0 : IntKind.i64.wrap ((b : Int) - b) = 0 := by rw [ig]; omega
  simp only [f13, f5, lz, hw0, ib, acu]
  rw [M.cw.fcall]
  simp
  refine ahi H hn (by omega) hb hb fun w2 H2 => ?_
  have hi := insertionSort_holds swo_ltInt d b b (Nat.le_refl _) (by omega)
  exact h w2 _ hi.1 hi.2 H2
 | succ m ih =>
  intro w g cap n e d H hn h6 a0 b0 limit0 hm hab0 hb0 hlim0 hB K h
  apply M.bj.calls
  unfold M.bj
  refine ⟨PdI w g e cap n a0 b0 d, fun x _ => ms x 13 - ms x 5, ⟨_, _, _, _, _, _, _, _, _, a0, b0, limit0, true, true, d, rfl, hlim0, ⟨H.xi, hn, hab0, Nat.le_refl _, hb0, hB, fun R h1 h2 => ⟨h1, h2⟩⟩⟩, ?_⟩
  rintro x w1 ⟨u0, u2, u3, u4, u6, u7, u9, u10, u11, a, b, limit, wb, wp, d1, rfl, hlim, ⟨H1, hn1, hab, hbb, hbn, hB1, hfin⟩⟩
  generalize hx0 : [u0, .int .i64 (limit : Nat), u2, u3, u4, .int .i64 (a : Nat), u6, u7, .bool wp, u9, u10, u11, .bool wb, .int .i64 (b : Nat)] = x0
  have e1 : gv x0 1 = .int .i64 (limit : Nat) := by rw [← hx0]; rfl
  have e5 : gv x0 5 = .int .i64 (a : Nat) := by rw [← hx0]; rfl
  have e8 : gv x0 8 = .bool wp := by rw [← hx0]; rfl
  have e12 : gv x0 12 = .bool wb := by rw [← hx0]; rfl
  have e13 : gv x0 13 = .int .i64 (b : Nat) := by rw [← hx0]; rfl
  have m5 : ms x0 5 = a := by simp [ms, e5]
  have m13 : ms x0 13 = b := by simp [ms, e13]
  clear hx0
  have hw0 : IntKind.i64.wrap ((b : Int) - a) = ((b - a : Nat) : Int) := yv (by omega) (by omega)
  unfold M.bj.j0
  simp only [e13, e5, lz, hw0, ib, acu]
  by_cases h12 : b - a ≤ 12
  ·have h12' : ((b - a : Nat) : Int) ≤ 12 := by omega
   simp only [h12', decide_true, Eng.cond_true]
   rw [M.cw.fcall]
   refine ahi H1.row hn1 (by omega) hbn (by omega) fun w2 H2 => ?_
   have hi := insertionSort_holds swo_ltInt d1 a b hab (by omega)
   obtain ⟨p1, p2⟩ := hfin _ hi.1 hi.2
   exact h w2 _ p1 p2 (H1.trans H2)
  have h12' : ¬ ((b - a : Nat) : Int) ≤ 12 := by omega
  simp only [h12', decide_false, Eng.cond_false]
  unfold M.bj.j1
  simp only [e1, e5, e13, ib, ur]
  by_cases hl0 : limit = 0
  ·have hl0' : (limit : Int) = 0 := by omega
   simp only [hl0', decide_true, Eng.cond_true]
   rw [M.ct.fcall]
   refine awr H1.row hn1 (by omega) hbn (by omega) fun w2 H2 => ?_
   have hi := heapSort_holds swo_ltInt d1 a b hab (by omega)
   obtain ⟨p1, p2⟩ := hfin _ hi.1 hi.2
   exact h w2 _ p1 p2 (H1.trans H2)
  have hl0' : ¬ (limit : Int) = 0 := by omega
  simp only [hl0', decide_false, Eng.cond_false]
  unfold M.bj.j2
  simp only [e12, e1, e5, e13, ib, arq]
  cases wb with
  | true =>
   simp
   exact arw ih h6 hm hbb hbn hab hlim h12 hn1 hB1 hfin h e5 e8 e12 e13 m5 m13 H1 (permIn_refl d1 a b)
  | false =>
   simp
   rw [M.df.fcall]
   refine bgt H1.row hn1 h6 hbn (by omega) fun w2 d2 P2 H2 => ?_
   have wl : IntKind.i64.wrap ((limit : Int) - 1) = ((limit - 1 : Nat) : Int) := by rw [ig]; omega
   simp only [wl]
   exact arw ih h6 hm hbb hbn hab (by omega) h12 hn1 hB1 hfin h e5 e8 e12 e13 m5 m13 (H1.trans H2) P2
theorem aao {w : World} {g cap n : Nat} {e : TypeId} {d : Array Int} (H : Rw w g e cap d) (hn : d.size = n) (h6 : n < 60000) {K : KV}
  (h : ∀ w', Rf w w' g e cap (d.toList.mergeSort fun x y => decide (x ≤ y)).toArray → K (.tuple #[]) w') : ku P F.go [.slice (some ⟨g, 0, none⟩) n cap] w K := by
 apply M.ee.calls
 unfold M.ee
 have i64B : yj P T.c .i64 = true := by kernel_rfl
 have uB : yj P T.ba .u64 = true := by kernel_rfl
 simp
 rw [pj i64B uB, ace (by omega), M.dl.fcall]
 refine aor (by omega) ?_
 rw [M.bj.fcall]
 have hlen : bitsLen n ≤ 16 := (bitsLen_le_iff n 16).2 (by omega)
 refine bml n (a := 0) H hn h6 (by omega) (Nat.zero_le _) (Nat.le_refl _) (by omega) (.inl rfl) fun w' d' h1 h2 H' => ?_
 have hs : d'.toList = d.toList.mergeSort (fun x y => decide (x ≤ y)) := by
  have := sorted_unique_holds swo_ltInt (fun x y h1 h2 => by simp [ltInt] at h1 h2; omega) d d' (by rw [hn]; exact h1) (by rw [hn]; exact h2)
  rw [this]
  congr 1
  funext x y
  simp only [ltInt]
  by_cases hxy : x ≤ y
  ·simp [hxy]
  ·have : y < x := by omega
   simp [hxy, this]
 refine h w' ?_
 rw [← hs]
 exact H'
theorem zj {w : World} {K : KV} (h : K (.tuple #[]) w) : ku P F.go [.slice none 0 0] w K := by
 apply M.ee.calls
 unfold M.ee
 have i64B : yj P T.c .i64 = true := by kernel_rfl
 have uB : yj P T.ba .u64 = true := by kernel_rfl
 simp
 rw [pj i64B uB, show IntKind.u64.wrap 0 = ((0 : Nat) : Int) from by decide, M.dl.fcall]
 refine aor (by omega) ?_
 rw [M.bj.fcall]
 apply M.bj.calls
 unfold M.bj
 refine ⟨fun x w1 => gv x 5 = .int .i64 0 ∧ gv x 13 = .int .i64 0 ∧ w1 = w, fun _ _ => 0, ⟨rfl, rfl, rfl⟩, ?_⟩
 rintro x w1 ⟨e5, e13, rfl⟩
 unfold M.bj.j0
 have w0 : IntKind.i64.wrap 0 = 0 := by decide
 simp [e5, e13, w0]
 rw [M.cw.fcall]
 apply M.cw.calls
 unfold M.cw
 have w1' : IntKind.i64.wrap 1 = 1 := by decide
 simp [w1']
 refine ⟨fun x w2 => gv x 1 = .int .i64 1 ∧ w2 = w1, fun _ _ => 0, ⟨rfl, rfl⟩, ?_⟩
 rintro x w2 ⟨e1, rfl⟩
 unfold M.cw.j0
 simp [e1]
 exact h
end Go.Proofs.YtfnhoaemapheoaaGreat.SG
set_option maxRecDepth 100000
namespace Go.Proofs.YtfnhoaemapheoaaGreat.Sint
open Go.Eng Go.Sort
abbrev Rw (w : World) (g : Nat) (e : TypeId) (cap : Nat) (d : Array Int) : Prop := @SG.Rw seI w g e cap d
abbrev Rf (w w' : World) (g : Nat) (e : TypeId) (cap : Nat) (d : Array Int) : Prop := @SG.Rf seI w w' g e cap d
theorem alo {w w' : World} {g : Nat} {e : TypeId} {cap : Nat} {d : Array Int} (h : Rf w w' g e cap d) : Rw w' g e cap d := @SG.Rf.row seI _ _ _ _ _ _ h
theorem aqs {w w' : World} {g : Nat} {e : TypeId} {cap : Nat} {d : Array Int} (h : Rf w w' g e cap d) : Fr (fun b => b = g) w w' := @SG.Rf.fr seI _ _ _ _ _ _ h
abbrev adl (x : Int) : Value := .int .i64 x
abbrev rz (x : Int) : List Value := [.int .i64 x]
abbrev OwN (w : World) (base : Nat) (v : Value) (l : List Int) : Prop := Ow w base T.c 1 rz v l
theorem asv : auw P T.ad T.c adl rz 1 8 where
 et := et.ad
 by5 := by decide
 ld := fun b i w K => kr
 st := fun b i a n c w K => kr
 bs := fun x w K => kr
 len := fun _ => rfl
 one := fun _ u hu => by simp at hu; subst hu; rfl
 ne := by decide
theorem agq {g : FuncId} {gn : Func} (hg : P.funcs[g]? = some gn) (hgn : (gn.name == "runtime.NumGoroutine") = false) (hgb : gn.body.isNone = false) {cap : List Value} {w : World} {Out : List Int → Prop} (hs : agn P g cap adl Out 60000 w) {K : KV}
  (h : ∀ w' v xs, Out xs → OwN w' w.heap.size v xs → Fz w w' → K v w') : ku P F.dh [.func (.func g) #[] cap.toArray] w K := by
 apply M.dc.calls
 unfold M.dc
 have hf : ∀ (args : List Value) (w : World) (K : KV), gr P F.ag args w K = ku P F.ag args w K := fun args w K => aek FN.ag.at (by kernel_rfl) (by kernel_rfl) args w K
 rw [hf]
 exact acz (tQ := T.bm) (att asv) asv.ld FN.ag.at (by kernel_rfl) (by kernel_rfl) (by kernel_rfl) hg hgn hgb hs h
theorem Ow.rw {w : World} {base g n cap : Nat} {l : List Int} (h : OwN w base (.slice (some ⟨g, 0, none⟩) n cap) l) : n = l.length ∧ base ≤ g ∧ cap ≤ maxLen ∧ Rw w g T.c cap l.toArray := by
 rcases h.2 with ⟨h0, _⟩ | ⟨g', cap', cur, hv, hb, hc, h1, h2, h3, h4⟩
 ·cases h0
 ·injection hv with q1 q2 q3
  injection q1 with q1
  injection q1 with q1
  subst q1 q2 q3
  refine ⟨rfl, hb, h2, cur, hc, by simpa using h3, by simpa using h1, fun j hj => ?_⟩
  show cur[j]? = some (.int .i64 l.toArray[j]!)
  have hj' : j < l.length := by simpa using hj
  have h5 : (cur.toList.take (l.length * 1))[j]? = (l.flatMap rz)[j]? := by rw [h4]
  rw [List.getElem?_take_of_lt (by omega)] at h5
  have h6 : (l.flatMap rz)[j]? = some (.int .i64 l[j]) := by
   have := zy (enc := rz) (sz := 1) (fun _ => rfl) l j l[j] 0 (.int .i64 l[j]) (List.getElem?_eq_getElem hj') rfl
   simpa using this
  rw [h6] at h5
  simpa [hj'] using h5
theorem aar : ∀ l : List Int, l.flatMap rz = l.map adl
 | [] => rfl
 | x :: l => by rw [List.flatMap_cons, aar l]; rfl
theorem aqk {w : World} {base g cap : Nat} {l : List Int} (hb : base ≤ g) (hm : cap ≤ maxLen) (h : Rw w g T.c cap l.toArray) : OwN w base (.slice (some ⟨g, 0, none⟩) l.length cap) l := by
 obtain ⟨cur, h1, h2, h3, h4'⟩ := h
 have h4 : ∀ j, j < l.toArray.size → cur[j]? = some (.int .i64 l.toArray[j]!) := h4'
 refine ⟨by rw [aar]; simp, .inr ⟨g, cap, cur, rfl, hb, h1, by simpa using h3, hm, by simpa using h2, ?_⟩⟩
 rw [aar]
 apply List.ext_getElem?
 intro j
 by_cases hj : j < l.length
 ·rw [List.getElem?_take_of_lt (by omega)]
  have := h4 j (by simpa using hj)
  simp [hj] at this ⊢
  exact this
 ·rw [List.getElem?_take_eq_none (by omega), List.getElem?_eq_none (by simp; omega)]
theorem zj {w : World} {K : KV} (h : K (.tuple #[]) w) : ku P F.ab [.slice none 0 0] w K := @SG.zj seI w K h
theorem aao {w : World} {g cap n : Nat} {e : TypeId} {d : Array Int} (H : Rw w g e cap d) (hn : d.size = n) (h6 : n < 60000) {K : KV}
  (h : ∀ w', Rf w w' g e cap (d.toList.mergeSort fun x y => decide (x ≤ y)).toArray → K (.tuple #[]) w') : ku P F.ab [.slice (some ⟨g, 0, none⟩) n cap] w K := @SG.aao seI w g cap n e d H hn h6 K h
def mo (l : List Int) : List Int := l.mergeSort fun x y => decide (x ≤ y)
theorem nu (l : List Int) : (mo l).Perm l := List.mergeSort_perm ..
theorem vt {l l' : List Int} (h : l.Perm l') : mo l = mo l' := by
 unfold mo
 have hs : ∀ l : List Int, (l.mergeSort fun x y => decide (x ≤ y)).Pairwise fun a b => decide (a ≤ b) = true := fun l => List.pairwise_mergeSort (fun a b c h1 h2 => by simp at *; omega) (fun a b => by simp; omega) l
 exact List.Perm.eq_of_pairwise (fun a b _ _ h1 h2 => by simp at h1 h2; omega) (hs l) (hs l') (((List.mergeSort_perm ..).trans h).trans (List.mergeSort_perm ..).symm)
theorem aid {g : FuncId} {gn : Func} (hg : P.funcs[g]? = some gn) (hgn : (gn.name == "runtime.NumGoroutine") = false) (hgb : gn.body.isNone = false) {cap : List Value} {w : World} {ks : List Int} (hk : ks.length < 60000) (hs : agn P g cap adl (fun xs => xs.Perm ks) 60000 w) {K : KV}
  (h : ∀ w' v, OwN w' w.heap.size v (mo ks) → Fz w w' → K v w') : ku P F.ca [.func (.func g) #[] cap.toArray] w K := by
 apply M.dh.calls
 unfold M.dh
 rw [M.dc.fcall]
 refine agq hg hgn hgb hs fun w1 v xs hx o1 f1 => ?_
 rw [M.fh.fcall]
 have hlen := hx.length_eq
 rcases o1.2 with ⟨rfl, h0⟩ | ⟨g1, cap1, cur, rfl, hb1, _⟩
 ·refine zj ?_
  have hx0 : xs = [] := List.length_eq_zero_iff.1 h0
  have hk0 : ks = [] := List.length_eq_zero_iff.1 (by rw [← hlen, hx0]; rfl)
  refine h w1 _ ?_ f1
  subst hk0
  rw [show mo [] = [] from by simp [mo]]
  exact Ow.none
 ·obtain ⟨_, hbg, hcm, hrw⟩ := Ow.rw o1
  refine aao hrw (by simp) (by omega) fun w2 H2 => ?_
  have hp : mo xs = mo ks := vt hx
  have hl : (mo xs).length = xs.length := (nu xs).length_eq
  refine h w2 _ ?_ (f1.lq (aqs H2) fun b hb he => by omega)
  rw [← hp]
  have := aqk (base := w.heap.size) (l := mo xs) hbg hcm (alo H2)
  rw [hl] at this
  exact this
end Go.Proofs.YtfnhoaemapheoaaGreat.Sint
set_option maxRecDepth 100000
namespace Go.Proofs.YtfnhoaemapheoaaGreat.KeyD
open Go.Eng Go.Sort Go.Proofs.YtfnhoaemapheoaaGreat.Sint
def KI (w W : World) (U : Nat → Prop) (r : Nat) (m : MP) (J : List Int → Asn) : KL := fun x w1 => ∃ (done : List Int) (U1 : Nat → Prop), x.length = 1 ∧ yi w1 W.heap.size r .i64 m done ∧ (J done.reverse).ok w1 U1 ∧ (∀ b, U1 b → w.heap.size ≤ b ∧ b < w1.heap.size ∧ b ≠ W.heap.size) ∧ Fr (fun b => w.heap.size ≤ b) W w1
theorem aap {w : World} {it r : Nat} {k : IntKind} {m : MP} {done : List Int} (h : yi w it r k m done) : done.Nodup ∧ ∀ x ∈ done, x ∈ kj m := by
 obtain ⟨es, clk, since, c0, jr, _, _, _, _, _, _, _, _, _, h1, h2⟩ := h
 exact ⟨h1, h2⟩
theorem akp {w : World} {r Bm : Nat} {m : MP} {e : TypeId} (hm : pt w r .i64 m) (hn : (kj m).Nodup) (hB : w.heap[Bm]? = some (.cells #[.map (some r)] e (0, 0))) (hl : m.length < 60000) :
  agn P F.c [.pointer (some ⟨Bm, 0, none⟩)] adl (fun xs => xs.Perm (kj m)) 60000 w := by
 intro l J W U K hf hJ hU hround hend
 apply M.u.calls
 unfold M.u
 have hBm : W.heap[Bm]? = some (.cells #[.map (some r)] e (0, 0)) := hf.heap hB fun h => h
 have c0 := ie hBm 0
 simp only [List.size_toArray, List.getElem?_toArray, List.getElem?_cons_zero] at c0
 have hm' : pt W r .i64 m := hm.uw (hf.ke r hm.lt fun h => h)
 have hrw := hm.lt
 simp [c0]
 refine ash mt.p hm' fun w1 hi f1 => ?_
 have hWs := hf.size
 have hWlt := (hi.lt).1
 refine ⟨KI w W U r m J, fun _ w1 => uf w1 W.heap.size m.length, ⟨[], U, rfl, hi, (J []).ke hJ f1 fun _ _ h => h, fun b hb => ?_, f1.mono fun _ _ h => h.elim⟩, ?_⟩
 ·have := hU b hb
  have := f1.size
  exact ⟨by omega, by omega, by omega⟩
 rintro x w2 ⟨done, U1, hx1, hi2, hJ2, hU2, f2⟩
 unfold M.u.j0
 refine avm hi2 hn T.bn (fun hall => ?_) fun y v w3 hy hyd hc3 f3 hlt => ?_
 ·have e0 : ∀ w K, exT P (.tuple #[.bool false]) 0 w K = K (.bool false) w := fun _ _ => rfl
  simp [e0]
  obtain ⟨h1, h2⟩ := aap hi2
  refine hend _ w2 done.reverse U1 ?_ hJ2 f2
  refine (List.reverse_perm done).trans ?_
  refine (List.perm_ext_iff_of_nodup h1 hn).2 fun z => ⟨h2 z, fun hz => ?_⟩
  obtain ⟨p, hp, rfl⟩ := List.mem_map.1 hz
  exact hall p hp
 ·simp
  rw [auv hc3]
  simp
  have hnit : ∀ b, U1 b → ¬ b = W.heap.size := fun b hb => (hU2 b hb).2.2
  have hJ3 := (J done.reverse).ke hJ2 f3 hnit
  have hlen : done.length < m.length := by
   obtain ⟨h1, h2⟩ := aap hi2
   have := uu (l := y :: done) (l' := kj m) (List.nodup_cons.2 ⟨hyd, h1⟩) fun z hz => by
    rcases List.mem_cons.1 hz with rfl | hz
    ·exact List.mem_map_of_mem hy
    ·exact h2 z hz
   simp only [kj, List.length_map, List.length_cons] at this
   omega
  have hs3 := f3.size
  refine hround done.reverse y w3 U1 _ hJ3 (fun b hb => ⟨(hU2 b hb).1, by have := (hU2 b hb).2.1; omega⟩) (by simp; omega) fun w4 U4 hJ4 hU4 f4 => ?_
  simp
  have hit : ¬ U1 W.heap.size := fun h => hnit _ h rfl
  have hr1 : ¬ U1 r := fun h => by have := (hU2 r h).1; omega
  have hi3 : yi w3 W.heap.size r .i64 m (y :: done) := hc3.1
  have hi4 := hi3.ke (f4.ke _ hi3.lt.1 hit) (f4.ke _ hi3.lt.2 hr1)
  refine ⟨⟨y :: done, U4, rfl, hi4, by simpa using hJ4, fun b hb => ?_, ?_⟩, ?_⟩
  ·rcases hU4 b hb with h | h
   ·have := hU2 b h
    have := f4.size
    exact ⟨by omega, by omega, by omega⟩
   ·have := hi3.lt.1
    have := f2.size
    exact ⟨by omega, by omega, by omega⟩
  ·refine (f2.lq f3 fun b hb he => by omega).lq f4 fun b hb he => (hU2 b he).1
  ·have : uf w4 W.heap.size m.length = uf w3 W.heap.size m.length := by
    unfold uf
    rw [f4.ke _ hi3.lt.1 hit]
   rw [this]; exact hlt
theorem anw {w : World} {r : Nat} {m : MP} (hm : pt w r .i64 m) (hn : (kj m).Nodup) (hl : m.length < 60000) {K : KV}
  (h : ∀ w' v, OwN w' w.heap.size v (mo (kj m)) → Fz w w' → K v w') :
  gr P F.au [.map (some r)] w fun t w => gr P F.ca [t] w K := by
 rw [M.ai.fcall]
 apply M.ai.calls
 unfold M.ai
 rw [xm, aim]
 show gr P F.ca _ _ K
 rw [M.dh.fcall]
 have f1 : Fz w (w.alloc (.cells #[.map (some r)] T.p)) := (Fr.refl _ w).alloc _
 have hB : (w.alloc (.cells #[.map (some r)] T.p)).heap[w.heap.size]? = some (.cells #[.map (some r)] T.p (0, 0)) := by rw [iw, if_pos rfl]
 have hsz : w.heap.size ≤ (w.alloc (.cells #[.map (some r)] T.p)).heap.size := by simp
 refine aid (ks := kj m) FN.c.at (by kernel_rfl) (by kernel_rfl) (by simpa [kj] using hl) (akp (hm.uw (f1.ke r hm.lt fun h => h)) hn hB hl) fun w2 v o2 f2 => ?_
 exact h w2 v (o2.mono hsz) (f1.trans f2)
end Go.Proofs.YtfnhoaemapheoaaGreat.KeyD
set_option maxRecDepth 100000
namespace Go.Proofs.YtfnhoaemapheoaaGreat
open Go.Eng Go.Proofs.YtfnhoaemapheoaaGreat.Sint
structure Fil where
 n : Int
 lj : List Int
 jp : List Int
structure Dk where
 jf : Int
 left : Int
 jw : Bool
 jj : Bool
 fs : List Fil
structure FE where
 n : Int
 p : Nat
 fv : Value
 lv : Value
 lj : List Int
 jp : List Int
def FE.abs (e : FE) : Fil := ⟨e.n, e.lj, e.jp⟩
def FE.ptr (e : FE) : Value := .pointer (some ⟨e.p, 0, none⟩)
def Fil.len (f : Fil) : Nat := f.lj.length + f.jp.length
def Dk.jg (D : Dk) : Nat := (D.fs.map Fil.len).sum
abbrev ky (v : Value) (l : List Int) : Asn := nq T.ao 1 agt v l
abbrev SlB (w : World) (v : Value) (l : List Int) : Prop := Sl w 1 agt v l
def boc (e : FE) : List Asn := [iq e.p #[e.fv, e.lv] T.ai, ky e.fv e.lj, ky e.lv e.jp]
def yu (e : FE) : Asn := qm (boc e)
def bbb (hb r : Nat) (D : Dk) : Asn := iq hb #[.int .i64 D.jf, .map (some r), .int .i64 D.left, .bool D.jw, .bool D.jj] T.ag
structure ph (m : MP) (es : List FE) (D : Dk) : Prop where
 fs : D.fs = es.map FE.abs
 ml : m.length = es.length
 mg : ∀ e ∈ es, mn m e.n = some e.ptr
 mz : ∀ k, (∀ e ∈ es, e.n ≠ k) → mn m k = none
 tn : (es.map FE.n).Nodup
 kp : (kj m).Perm (es.map FE.n)
 jf : D.jf ≤ 1048576
 jg : (D.jg : Int) ≤ D.jf
 rng : ∀ e ∈ es, 0 ≤ e.n ∧ e.n < 64
 arm : D.jw = true → 0 ≤ D.left ∧ D.left < 9223372036854775808
def oc (hb r : Nat) (m : MP) (es : List FE) (D : Dk) : List Asn := bbb hb r D :: jy r .i64 m :: es.map yu
def iy (hb : Nat) (D : Dk) : Asn where
 ok w B := ∃ r m es, ph m es D ∧ Rs (oc hb r m es D) w B
 ke := by
  rintro w w' B S ⟨r, m, es, h1, h2⟩ hf hn
  exact ⟨r, m, es, h1, h2.ke hf hn⟩
section
variable {w0 w : World} {hb r : Nat} {m : MP} {es : List FE} {D : Dk} {R : List Asn} {e : FE}
theorem zf (S : St w0 w (iy hb D :: R)) : ∃ r m es, ph m es D ∧ St w0 w (oc hb r m es D ++ R) := by
 obtain ⟨B, ⟨r, m, es, h1, h2⟩, _, cl⟩ := S.open
 exact ⟨r, m, es, h1, cl w _ (Fr.refl _ _) (h2.mono fun b hb => .inl hb)⟩
theorem aav (h : ph m es D) (S : St w0 w (oc hb r m es D ++ R)) : St w0 w (iy hb D :: R) := by
 obtain ⟨U, h1, _, g⟩ := S.acb
 exact g w [iy hb D] (Fr.refl _ _) ⟨U, ⟨r, m, es, h, h1⟩, fun b hb => .inl hb, trivial⟩
theorem qh (hb r : Nat) (m : MP) (a b : List FE) (e : FE) (D : Dk) (R : List Asn) : (oc hb r m (a ++ e :: b) D ++ R).Perm (yu e :: (oc hb r m (a ++ b) D ++ R)) := by
 unfold oc
 simp only [List.map_append, List.map_cons, List.cons_append, List.append_assoc]
 refine (List.Perm.cons _ (List.Perm.cons _ ?_)).trans ((List.Perm.cons _ (.swap _ _ _)).trans (.swap _ _ _))
 exact List.perm_middle
theorem yk (S : St w0 w (yu e :: R)) : St w0 w (iq e.p #[e.fv, e.lv] T.ai :: ky e.fv e.lj :: ky e.lv e.jp :: R) := St.all.1 S
theorem avl (S : St w0 w (iq e.p #[e.fv, e.lv] T.ai :: ky e.fv e.lj :: ky e.lv e.jp :: R)) : St w0 w (yu e :: R) := St.all.2 S
theorem ui (S : St w0 w (oc hb r m es D ++ R)) : w.heap[hb]? = some (.cells #[.int .i64 D.jf, .map (some r), .int .i64 D.left, .bool D.jw, .bool D.jj] T.ag (0, 0)) := St.blk S
theorem afx (S : St w0 w (oc hb r m es D ++ R)) : pt w r .i64 m ∧ (kj m).Nodup := by
 obtain ⟨B, h1, _⟩ := (St.swap S).open
 exact h1.1
theorem qo (h : w.heap[hb]? = some (.cells #[.int .i64 D.jf, .map (some r), .int .i64 D.left, .bool D.jw, .bool D.jj] T.ag (0, 0))) :
  ic w hb 0 = some (.int .i64 D.jf) ∧ ic w hb 1 = some (.map (some r)) ∧ ic w hb 2 = some (.int .i64 D.left) ∧ ic w hb 3 = some (.bool D.jw) ∧ ic w hb 4 = some (.bool D.jj) ∧ ∀ i, rn w hb i = false :=
 ⟨by rw [ie h]; rfl, by rw [ie h]; rfl, by rw [ie h]; rfl, by rw [ie h]; rfl, by rw [ie h]; rfl, pg h⟩
theorem ph.bna (h : ph m es D) (k : Int) : (mn m k = none ∧ ∀ e ∈ es, e.n ≠ k) ∨ ∃ a e b, es = a ++ e :: b ∧ e.n = k ∧ mn m k = some e.ptr := by
 by_cases hx : ∃ e ∈ es, e.n = k
 ·obtain ⟨e, he, rfl⟩ := hx
  obtain ⟨a, b, hab⟩ := List.append_of_mem he
  exact .inr ⟨a, e, b, hab, rfl, h.mg e he⟩
 ·exact .inl ⟨h.mz k fun e he hk => hx ⟨e, he, hk⟩, fun e he hk => hx ⟨e, he, hk⟩⟩
theorem aul (hh : w.heap[hb]? = some (.cells #[.int .i64 D.jf, .map (some r), .int .i64 D.left, .bool D.jw, .bool D.jj] T.ag (0, 0))) {K : KV} (h : K (.int .i64 (if D.jj then 10 else 0)) w) : gr P F.bt [.pointer (some ⟨hb, 0, none⟩)] w K := by
 rw [M.dq.fcall]
 apply M.dq.calls
 unfold M.dq
 obtain ⟨_, _, _, _, c4, _⟩ := qo hh
 cases hd : D.jj with
 | true => rw [hd] at h c4; simp [c4]; simpa using h
 | false => rw [hd] at h c4; simp [c4]; simpa using h
theorem ajg (hk : ph m es D) (S : St w0 w (oc hb r m es D ++ R)) (k : Int) {K : KV} (h0 : D.jj = true → K (.tuple #[.pointer none, .int .i64 10]) w) (h1 : D.jj = false → (∀ e ∈ es, e.n ≠ k) → K (.tuple #[.pointer none, .int .i64 11]) w)
  (h2 : D.jj = false → ∀ a e b, es = a ++ e :: b → e.n = k → K (.tuple #[e.ptr, .int .i64 0]) w) : gr P F.bx [.pointer (some ⟨hb, 0, none⟩), .int .i64 k] w K := by
 rw [M.cm.fcall]
 apply M.cm.calls
 unfold M.cm
 rw [ib]
 refine aul (ui S) ?_
 obtain ⟨_, c1, _, _, c4, _⟩ := qo (ui S)
 cases hd : D.jj with
 | true => simp; exact h0 hd
 | false =>
  simp
  unfold M.cm.j0
  simp [c1]
  rw [aba mt.p (afx S).1]
  rcases hk.bna k with ⟨hn, hall⟩ | ⟨a, e, b, he, hek, hg⟩
  ·rw [hn]
   simp
   exact h1 hd hall
  ·rw [hg]
   simp [FE.ptr]
   exact h2 hd a e b he hek
theorem avg (S : St w0 w (yu e :: R)) (hl : e.lj.length + e.jp.length ≤ 10000000) {K : KV} (h : ∀ w' v, St w0 w' (ky v (e.lj ++ e.jp) :: yu e :: R) → K v w') : gr P F.cs [e.ptr] w K := by
 rw [M.eh.fcall]
 apply M.eh.calls
 unfold M.eh
 have hb := (yk S).blk
 have c0 : ic w e.p 0 = some e.fv := by rw [ie hb]; rfl
 have c1 : ic w e.p 1 = some e.lv := by rw [ie hb]; rfl
 have s1 : SlB w e.fv e.lj := (yk S).swap.row ka
 have s2 : SlB w e.lv e.jp := (yk S).acl.row ka
 obtain ⟨a1, k1, hv1, _⟩ := id s1
 obtain ⟨a2, k2, hv2, _⟩ := id s2
 rw [hv1] at c0
 rw [hv2] at c1
 simp [FE.ptr, c0, c1]
 rw [← hv1, ← hv2]
 have hcell : w.heap.size < (Eng.dr w 1).heap.size + 1 := by simp
 have hn : ((Eng.dr w 1).alloc (.cells #[e.fv, e.lv] T.f)).heap[w.heap.size]? = some (.cells (([(e.fv, e.lj), (e.lv, e.jp)] : List (Value × List Int)).map (·.1)).toArray T.f (0, 0)) := by
  rw [iw, if_pos (by simp)]; rfl
 have f1 : Fz w ((Eng.dr w 1).alloc (.cells #[e.fv, e.lv] T.f)) := ((Fr.refl _ w).dr 1).alloc _
 rw [M.k.fcall]
 refine CB.abn (L := [(e.fv, e.lj), (e.lv, e.jp)]) hn (fun p hp => ?_) (by simp [CB.tot]; omega) (by simp) fun w' v o f2 => ?_
 ·simp at hp
  rcases hp with rfl | rfl
  ·exact s1.fr f1 fun _ _ _ h => h
  ·exact s2.fr f1 fun _ _ _ h => h
 ·have hs : w.heap.size ≤ ((Eng.dr w 1).alloc (.cells #[e.fv, e.lv] T.f)).heap.size := f1.size
  refine h w' v (S.add (a := ky v (e.lj ++ e.jp)) (f1.trans f2) (B := fun b => v.ownBlock = some b) ⟨?_, fun b hb => hb⟩ fun b hb => ?_)
  ·simpa using o.mono (Nat.zero_le _)
  ·have := o.lt hb
   exact ⟨by omega, this.2⟩
end
set_option maxRecDepth 100000
def Dk.get (D : Dk) (k : Int) : Option Fil := D.fs.find? fun f => decide (f.n = k)
def Dk.rg (D : Dk) : List Int := D.fs.map Fil.n
def Dk.jm (D : Dk) : List Int := mo D.rg
abbrev tc (v : Value) (l : List Int) : Asn := nq T.c 1 rz v l
theorem xt (x : Int) : (rz x).length = 1 := rfl
section
variable {w0 w : World} {hb r : Nat} {m : MP} {es a b : List FE} {D : Dk} {R : List Asn} {e e' : FE}
theorem ph.rg (h : ph m es D) : D.rg = es.map FE.n := by
 unfold Dk.rg
 rw [h.fs, List.map_map]; rfl
theorem ph.nd (h : ph m es D) : (kj m).Nodup := h.kp.nodup_iff.2 h.tn
theorem ph.few (h : ph m es D) : es.length ≤ 64 := by
 have := uu (l := es.map FE.n) (l' := (List.range 64).map Int.ofNat) h.tn fun x hx => by
  obtain ⟨e, he, rfl⟩ := List.mem_map.1 hx
  have := h.rng e he
  exact List.mem_map.2 ⟨e.n.toNat, List.mem_range.2 (by omega), by simp; omega⟩
 simpa using this
theorem ph.xr (h : ph m (a ++ e :: b) D) : D.get e.n = some e.abs := by
 unfold Dk.get
 rw [h.fs]
 have hn := h.tn
 rw [List.map_append, List.map_cons, List.nodup_append] at hn
 rw [List.map_append, List.find?_append]
 have : (a.map FE.abs).find? (fun f => decide (f.n = e.n)) = none := by
  rw [List.find?_eq_none]
  intro f hf
  obtain ⟨x, hx, rfl⟩ := List.mem_map.1 hf
  have := hn.2.2 x.n (List.mem_map_of_mem hx) e.n (List.mem_cons_self ..)
  simp [FE.abs]
  exact decide_eq_false this
 rw [this]
 simp [FE.abs]
theorem ph.adc (h : ph m es D) {k : Int} (hk : ∀ e ∈ es, e.n ≠ k) : D.get k = none := by
 unfold Dk.get
 rw [h.fs, List.find?_eq_none]
 intro f hf
 obtain ⟨x, hx, rfl⟩ := List.mem_map.1 hf
 simp [FE.abs]
 exact decide_eq_false (hk x hx)
theorem beh (S : St w0 w (oc hb r m (a ++ e :: b) D ++ R)) : w.heap[e.p]? = some (.cells #[e.fv, e.lv] T.ai (0, 0)) ∧ SlB w e.fv e.lj ∧ SlB w e.lv e.jp := by
 have S' := yk (S.perm (qh hb r m a b e D R))
 exact ⟨S'.blk, S'.swap.row ka, S'.acl.row ka⟩
theorem axh (S : St w0 w R) (jf : Int) {K : KV} (h0 : (jf < 1 ∨ 1048576 < jf) → K (.tuple #[.pointer none, .int .i64 1]) w)
  (h1 : 1 ≤ jf → jf ≤ 1048576 → ∀ w' hb, St w0 w' (iy hb ⟨jf, 0, false, false, []⟩ :: R) → K (.tuple #[.pointer (some ⟨hb, 0, none⟩), .int .i64 0]) w') : gr P F.fn [.int .i64 jf] w K := by
 rw [M.ff.fcall]
 apply M.ff.calls
 unfold M.ff
 by_cases hx : jf < 1
 ·simp [hx]; exact h0 (.inl hx)
 by_cases hy : 1048576 < jf
 ·simp [hx, hy]; exact h0 (.inr hy)
 simp [hx, hy]
 rw [amj]
 simp
 have hm := aik w .i64
 refine h1 (by omega) (by omega) _ (w.heap.size + 1) (aav (m := []) (es := []) (r := w.heap.size) ⟨rfl, rfl, fun e he => by (cases he), fun _ _ => rfl, by simp, by simp [kj], by (show jf ≤ 1048576; omega), by (show ((0 : Nat) : Int) ≤ jf; omega), fun e he => by (cases he), fun h => by (cases h)⟩ ?_)
 have f : Fz w ((w.alloc (.map #[] 0)).alloc (.cells #[.int .i64 jf, .map (some w.heap.size), .int .i64 0, .bool false, .bool false] T.ag)) := ((Fr.refl _ w).alloc _).alloc _
 obtain ⟨U, _, _, g⟩ := S.acb (L := [])
 refine g _ (oc (w.heap.size + 1) w.heap.size [] [] ⟨jf, 0, false, false, []⟩) (f.mono fun _ _ h => h.elim) ⟨fun b => b = w.heap.size + 1, ⟨?_, rfl⟩, fun b hb => .inr (by simp at hb ⊢; omega), fun b => b = w.heap.size, ⟨⟨hm.uw (by rw [iw, if_neg (by simp)]), by simp [kj]⟩, rfl⟩, fun b hb => ⟨.inr (by simp at hb ⊢; omega), by simp at hb ⊢; omega⟩, trivial⟩
 rw [iw, if_pos (by simp)]
theorem akv (hk : ph m es D) (S : St w0 w (oc hb r m es D ++ R)) {K : KV} (h : ∀ w' v, St w0 w' (tc v D.jm :: (oc hb r m es D ++ R)) → K v w') : gr P F.bs [.pointer (some ⟨hb, 0, none⟩)] w K := by
 rw [M.dn.fcall]
 apply M.dn.calls
 unfold M.dn
 obtain ⟨_, c1, _⟩ := qo (ui S)
 simp [c1]
 have hf := hk.few
 refine KeyD.anw (afx S).1 hk.nd (by rw [hk.ml]; omega) fun w' v o f => ?_
 have hd : mo (kj m) = D.jm := by
  unfold Dk.jm
  rw [hk.rg]
  exact vt hk.kp
 rw [hd] at o
 refine h w' v (S.add (a := tc v D.jm) f (B := fun b => v.ownBlock = some b) ⟨o.mono (Nat.zero_le _), fun b hb => hb⟩ fun b hb => ⟨(o.lt hb).1, (o.lt hb).2⟩)
def lenOf (D : Dk) (k : Int) : Nat := ((D.get k).map Fil.len).getD 0
theorem bil {l l' : List Nat} (h : l.Perm l') : l.sum = l'.sum := by
 induction h with
 | nil => rfl
 | cons x _ ih => simp [ih]
 | swap x y l => simp; omega
 | trans _ _ h1 h2 => exact h1.trans h2
theorem bgp (hk : ph m es D) : (D.jm.map (lenOf D)).sum = D.jg := by
 have h1 : (D.jm.map (lenOf D)).Perm (D.rg.map (lenOf D)) := (nu _).map _
 rw [bil h1]
 unfold Dk.jg Dk.rg
 rw [List.map_map]
 congr 1
 apply List.map_congr_left
 intro f hf
 rw [hk.fs] at hf
 obtain ⟨x, hx, rfl⟩ := List.mem_map.1 hf
 obtain ⟨a, b, hab⟩ := List.append_of_mem hx
 subst hab
 show lenOf D x.n = x.abs.len
 unfold lenOf
 rw [hk.xr]; rfl
theorem agp {l : List Nat} {x : Nat} (h : x ∈ l) : x ≤ l.sum := by
 induction l with
 | nil => cases h
 | cons y l ih =>
  rcases List.mem_cons.1 h with rfl | h
  ·simp
  ·have := ih h; simp; omega
def aes (D : Dk) (i : Nat) : Nat := ((D.jm.take i).map (lenOf D)).sum
def UsI (w0 : World) (hb r : Nat) (m : MP) (es : List FE) (D : Dk) (R : List Asn) (v : Value) : KL := fun x w1 => ∃ (u : Value) (i : Nat), x = [u, .int .i64 (aes D i : Nat), .int .i64 (i : Nat)] ∧ i ≤ D.jm.length ∧ St w0 w1 (tc v D.jm :: (oc hb r m es D ++ R))
theorem blm (hk : ph m es D) (S : St w0 w (oc hb r m es D ++ R)) {K : KV} (h : ∀ w', St w0 w' (oc hb r m es D ++ R) → K (.int .i64 (D.jg : Nat)) w') : gr P F.ev [.pointer (some ⟨hb, 0, none⟩)] w K := by
 rw [M.co.fcall]
 apply M.co.calls
 unfold M.co
 rw [ib]
 refine akv hk S fun w1 v S1 => ?_
 have hsl : ∀ {w}, St w0 w (tc v D.jm :: (oc hb r m es D ++ R)) → Sl w 1 rz v D.jm := fun S => S.row xt
 rw [(hsl S1).jb (by simp)]
 refine ⟨UsI w0 hb r m es D R v, fun x _ => D.jm.length - ms x 2, ⟨_, 0, rfl, Nat.zero_le _, S1⟩, ?_⟩
 rintro x w2 ⟨u, i, rfl, hi, S2⟩
 have q0 : ∀ a b c : Value, gv [a, b, c] 0 = a := fun _ _ _ => rfl
 have q1 : ∀ a b c : Value, gv [a, b, c] 1 = b := fun _ _ _ => rfl
 have q2 : ∀ a b c : Value, gv [a, b, c] 2 = c := fun _ _ _ => rfl
 have q4 : ∀ a b c d e : Value, gv [a, b, c, d, e] 4 = e := fun _ _ _ _ _ => rfl
 have hus := bgp hk
 have hu := hk.jg
 have hr := hk.jf
 have hfl : D.jm.length = es.length := by unfold Dk.jm; rw [(nu _).length_eq, hk.rg, List.length_map]
 have hfew := hk.few
 simp only [q0, q1, q2, lw, ib]
 by_cases hil : i < D.jm.length
 ·have hil' : (i : Int) < D.jm.length := by omega
  simp only [hil', decide_true, Eng.cond_true]
  unfold M.co.j2
  obtain ⟨bb, o, cap, hv, hbb, _, hc⟩ := (hsl S2).at hil
  have c0 := hc 0 _ rfl
  simp only [Nat.mul_one, Nat.add_zero] at c0
  have hmem : D.jm[i] ∈ D.jm := List.getElem_mem hil
  have htk : aes D (i + 1) = aes D i + lenOf D D.jm[i] := by
   unfold aes
   rw [List.take_succ_eq_append_getElem hil, List.map_append, List.sum_append]; simp
  have htot : aes D (i + 1) ≤ D.jg := by
   rw [← hus]
   unfold aes
   conv => rhs; rw [← List.take_append_drop (i + 1) D.jm, List.map_append, List.sum_append]
   omega
  generalize hki : D.jm[i] = k at *
  have hmem' : k ∈ es.map FE.n := by
   rw [← hk.rg]; exact (nu _).mem_iff.1 hmem
  obtain ⟨e, he, hek⟩ := List.mem_map.1 hmem'
  obtain ⟨a, b, hab⟩ := List.append_of_mem he
  subst hab
  obtain ⟨hbk, s1, s2⟩ := beh (a := a) (e := e) (b := b) S2.drop
  obtain ⟨_, c1, _⟩ := qo (ui S2.drop)
  have hg := hk.mg e (by simp)
  have d0 : ic w2 e.p 0 = some e.fv := by rw [ie hbk]; rfl
  have d1 : ic w2 e.p 1 = some e.lv := by rw [ie hbk]; rfl
  obtain ⟨a1, k1, hv1, _⟩ := s1
  obtain ⟨a2, k2, hv2, _⟩ := s2
  rw [hv1] at d0
  rw [hv2] at d1
  have hlu : ∀ K, luT P T.p (.map (some r)) (.int .i64 k) false (Eng.dr w2 1) K = K (.pointer (some ⟨e.p, 0, none⟩)) (Eng.dr w2 1) := fun K => by
   rw [aba mt.p (pt.uw (w' := Eng.dr w2 1) (afx S2.drop).1 rfl), ← hek, hg]; rfl
  have hlen : lenOf D k = e.lj.length + e.jp.length := by
   unfold lenOf
   rw [← hek, hk.xr]; rfl
  have hw1 : IntKind.i64.wrap ((e.lj.length : Int) + (e.jp.length : Int)) = ((e.lj.length + e.jp.length : Nat) : Int) := by rw [ig]; omega
  have hw2 : IntKind.i64.wrap ((aes D i : Int) + ((e.lj.length + e.jp.length : Nat) : Int)) = ((aes D (i + 1) : Nat) : Int) := by
   rw [ig]; omega
  have hwi : IntKind.i64.wrap ((i : Int) + 1) = ((i + 1 : Nat) : Int) := by rw [ig]; rfl
  rw [hv]
  simp [q0, q1, q2, hil, c0, c1, hlu, d0, d1, hw1, hw2, hwi, -Int.natCast_add]
  rw [← hv]
  refine ⟨⟨_, i + 1, rfl, by omega, S2.jt ((Fr.refl _ w2).dr 1)⟩, ?_⟩
  simp only [ms, q2]
  simp; omega
 ·have hil' : ¬ (i : Int) < D.jm.length := by omega
  simp only [hil', decide_false, Eng.cond_false, q4]
  have : aes D i = D.jg := by
   unfold aes
   rw [List.take_of_length_le (by omega), hus]
  rw [this]
  exact h w2 S2.drop
theorem bmc (hk : ph m es D) (S : St w0 w (oc hb r m es D ++ R)) {n : Int} (hn : n < 9223372036854775808) {K : KV} (h : ∀ w', ph m es { D with jw := decide (0 ≤ n), left := n } → St w0 w' (oc hb r m es { D with jw := decide (0 ≤ n), left := n } ++ R) → K (.tuple #[]) w') : gr P F.dz [.pointer (some ⟨hb, 0, none⟩), .int .i64 n] w K := by
 rw [M.ef.fcall]
 apply M.ef.calls
 unfold M.ef
 have hh := ui S
 obtain ⟨_, _, c2, c3, _, f⟩ := qo hh
 simp [c2, c3, f, kh, kw]
 refine h _ { hk with arm := fun h => ⟨by simpa using h, hn⟩ } (St.ni (cs' := #[.int .i64 D.jf, .map (some r), .int .i64 n, .bool (decide (0 ≤ n)), .bool D.jj]) (e' := T.ag) S (((Fr.refl (fun x => x = hb) w).setCell (.inl rfl) _ _).setCell (.inl rfl) _ _) ?_)
 rw [nj (nj hh)]; rfl
theorem bgi (S : St w0 w (oc hb r m es D ++ R)) {K : KV} (h : K (.bool D.jj) w) : gr P F.bw [.pointer (some ⟨hb, 0, none⟩)] w K := by
 rw [M.dt.fcall]
 apply M.dt.calls
 unfold M.dt
 obtain ⟨_, _, _, _, c4, _⟩ := qo (ui S)
 simp [c4]
 exact h
def Dk.mu (D : Dk) (k : Int) : List Int × Int := if D.jj then ([], 10) else match D.get k with
 | none => ([], 11)
 | some f => (f.lj ++ f.jp, 0)
theorem yp (hk : ph m (a ++ e :: b) D) : e.lj.length + e.jp.length ≤ D.jg := by
 have : e.abs.len ∈ D.fs.map Fil.len := by
  rw [hk.fs]
  exact List.mem_map_of_mem (List.mem_map_of_mem (by simp))
 exact agp this
theorem bkp (hk : ph m es D) (S : St w0 w (oc hb r m es D ++ R)) (k : Int) {K : KV} (h : ∀ w' v, St w0 w' (ky v (D.mu k).1 :: (oc hb r m es D ++ R)) → K (.tuple #[v, .int .i64 (D.mu k).2]) w') : gr P F.dg [.pointer (some ⟨hb, 0, none⟩), .int .i64 k] w K := by
 rw [M.dv.fcall]
 apply M.dv.calls
 unfold M.dv
 unfold Dk.mu at h
 have Snil : St w0 w (ky (.slice none 0 0) [] :: (oc hb r m es D ++ R)) := S.add (a := ky (.slice none 0 0) []) (Fr.refl _ w) (B := fun _ => False) ⟨Ow.none, fun b hb => by simp [Value.ownBlock] at hb⟩ fun b hb => hb.elim
 refine ajg hk S k (fun hd => ?_) (fun hd hn => ?_) fun hd a e b he hek => ?_
 ·simp [hd] at h ⊢
  exact h w _ Snil
 ·rw [hk.adc hn] at h
  simp [hd] at h ⊢
  exact h w _ Snil
 ·subst he
  have hl := yp hk
  have hu := hk.jg
  have hr := hk.jf
  rw [← hek, hk.xr] at h
  simp [hd] at h ⊢
  refine avg (S.perm (qh hb r m a b e D R)) (by omega) fun w' v S' => ?_
  exact h w' v (S'.tail (qh hb r m a b e D R).symm)
end
def Dk.pk (D : Dk) (k : Int) (fa lo : List Int) : Dk := { D with fs := D.fs.map fun f => if f.n = k then ⟨k, fa, lo⟩ else f }
def Dk.rem (D : Dk) (k : Int) : Dk := { D with fs := D.fs.filter fun f => decide (f.n ≠ k) }
section
variable {w0 w : World} {hb r : Nat} {m : MP} {es a b : List FE} {D : Dk} {R : List Asn} {e e' : FE}
theorem ph.aqp (h : ph m (a ++ e :: b) D) : ∀ x, x ∈ a ∨ x ∈ b → x.n ≠ e.n := by
 have hn := h.tn
 rw [List.map_append, List.map_cons, List.nodup_append, List.nodup_cons] at hn
 rintro x (hx | hx) he
 ·exact hn.2.2 x.n (List.mem_map_of_mem hx) e.n (List.mem_cons_self ..) he
 ·exact hn.2.1.1 (he ▸ List.mem_map_of_mem hx)
theorem axq (h : ph m (a ++ e :: b) D) (fa lo : List Int) : (D.pk e.n fa lo).fs = a.map FE.abs ++ ⟨e.n, fa, lo⟩ :: b.map FE.abs := by
 unfold Dk.pk
 simp only [h.fs, List.map_append, List.map_cons, List.map_map]
 have hx : ∀ x : FE, x ∈ a ∨ x ∈ b → ((fun f : Fil => if f.n = e.n then (⟨e.n, fa, lo⟩ : Fil) else f) ∘ FE.abs) x = x.abs := fun x hx => by
  show (if x.n = e.n then _ else x.abs) = _
  rw [if_neg (h.aqp x hx)]
 rw [List.map_congr_left fun x hxa => hx x (.inl hxa), List.map_congr_left (l := b) fun x hxb => hx x (.inr hxb)]
 simp [FE.abs]
theorem aeb (h : ph m (a ++ e :: b) D) (fa lo : List Int) : (D.pk e.n fa lo).jg + (e.lj.length + e.jp.length) = D.jg + (fa.length + lo.length) := by
 unfold Dk.jg
 rw [axq h, h.fs]
 simp [FE.abs, Fil.len]
 omega
theorem ph.pk (h : ph m (a ++ e :: b) D) (hn : e'.n = e.n) (hp : e'.p = e.p) (hu : ((D.pk e.n e'.lj e'.jp).jg : Int) ≤ D.jf) : ph m (a ++ e' :: b) (D.pk e.n e'.lj e'.jp) where
 fs := by rw [axq h, ← hn]; simp [FE.abs]
 ml := by rw [h.ml]; simp
 mg x hx := by
  rcases List.mem_append.1 hx with hx | hx
  ·exact h.mg x (by simp [hx])
  ·rcases List.mem_cons.1 hx with rfl | hx
   ·rw [hn, h.mg e (by simp)]; simp [FE.ptr, hp]
   ·exact h.mg x (by simp [hx])
 mz k hk := h.mz k fun x hx => by
  rcases List.mem_append.1 hx with hx | hx
  ·exact hk x (by simp [hx])
  ·rcases List.mem_cons.1 hx with rfl | hx
   ·rw [← hn]; exact hk e' (by simp)
   ·exact hk x (by simp [hx])
 tn := by have := h.tn; simp only [List.map_append, List.map_cons] at *; rw [hn]; exact this
 kp := by have := h.kp; simp only [List.map_append, List.map_cons] at *; rw [hn]; exact this
 jf := h.jf
 jg := hu
 rng x hx := by
  rcases List.mem_append.1 hx with hx | hx
  ·exact h.rng x (by simp [hx])
  ·rcases List.mem_cons.1 hx with rfl | hx
   ·rw [hn]; exact h.rng e (by simp)
   ·exact h.rng x (by simp [hx])
 arm := h.arm
theorem ph.rem (h : ph m (a ++ e :: b) D) : ph (zo m e.n) (a ++ b) (D.rem e.n) where
 fs := by
  unfold Dk.rem
  simp only [h.fs, List.map_append, List.map_cons, List.filter_append]
  have hx : ∀ l : List FE, (∀ x ∈ l, x.n ≠ e.n) → (l.map FE.abs).filter (fun f => decide (f.n ≠ e.n)) = l.map FE.abs := fun l hl => List.filter_eq_self.2 fun f hf => by
   obtain ⟨x, hx, rfl⟩ := List.mem_map.1 hf
   exact decide_eq_true (hl x hx)
  rw [List.filter_cons, hx a fun x h' => h.aqp x (.inl h'), hx b fun x h' => h.aqp x (.inr h')]
  simp [FE.abs]
 ml := by
  have h1 := aci m e.n
  have h2 : (kj (zo m e.n)).length = (kj m).length - 1 := by
   rw [h1, List.length_erase_of_mem]
   exact h.kp.mem_iff.2 (List.mem_map_of_mem (by simp))
  simp only [kj, List.length_map] at h2
  rw [h2, h.ml]
  simp
 mg x hx := by
  rw [ait _ _ _ fun he => h.aqp x (List.mem_append.1 hx) he.symm]
  exact h.mg x (by rcases List.mem_append.1 hx with h | h <;> simp [h])
 mz k hk := by
  by_cases hek : e.n = k
  ·subst hek; exact aog _ _ h.nd
  ·rw [ait _ _ _ hek]
   refine h.mz k fun x hx => ?_
   rcases List.mem_append.1 hx with hx | hx
   ·exact hk x (by simp [hx])
   ·rcases List.mem_cons.1 hx with rfl | hx
    ·exact hek
    ·exact hk x (by simp [hx])
 tn := by
  have := h.tn
  rw [(List.Perm.map FE.n (List.perm_middle (l₁ := a) (a := e) (l₂ := b))).nodup_iff] at this
  exact (List.nodup_cons.1 this).2
 kp := by
  rw [aci]
  have h1 := (h.kp.trans (List.Perm.map FE.n (List.perm_middle (l₁ := a) (a := e) (l₂ := b)))).erase e.n
  rw [List.map_cons, List.erase_cons_head] at h1
  exact h1
 jf := h.jf
 jg := by
  have h1 := h.jg
  have h2 : (D.rem e.n).jg ≤ D.jg := by
   unfold Dk.rem Dk.jg
   have : ∀ l : List Fil, ((l.filter fun f => decide (f.n ≠ e.n)).map Fil.len).sum ≤ (l.map Fil.len).sum := fun l => by
    induction l with
    | nil => simp
    | cons f l ih =>
     rw [List.filter_cons]
     split
     ·rw [List.map_cons, List.map_cons, List.sum_cons, List.sum_cons]; omega
     ·rw [List.map_cons, List.sum_cons]; omega
   exact this D.fs
  show ((D.rem e.n).jg : Int) ≤ D.jf
  omega
 rng x hx := h.rng x (by rcases List.mem_append.1 hx with h | h <;> simp [h])
 arm := h.arm
theorem pw (S : St w0 w R) : St w0 w (ky (.slice none 0 0) [] :: R) := S.add (a := ky (.slice none 0 0) []) (Fr.refl _ w) (B := fun _ => False) ⟨Ow.none, fun b hb => by simp [Value.ownBlock] at hb⟩ fun b hb => hb.elim
theorem anu {v : Value} {l : List Int} (S : St w0 w (ky v l :: yu e :: R)) : St w0 ((w.setCell ⟨e.p, 0, none⟩ v).setCell ⟨e.p, 1, none⟩ (.slice none 0 0)) (yu { e with fv := v, lv := .slice none 0 0, lj := l, jp := [] } :: R) := by
 have S1 := yk S.swap
 have S2 : St w0 w (iq e.p #[e.fv, e.lv] T.ai :: ky v l :: R) := (S1.swap.drop.swap.drop : St w0 w _)
 have hh := S2.blk
 have S3 := S2.ni (cs' := #[v, .slice none 0 0]) (e' := T.ai) (w' := (w.setCell ⟨e.p, 0, none⟩ v).setCell ⟨e.p, 1, none⟩ (.slice none 0 0)) (((Fr.refl (fun x => x = e.p) w).setCell (.inl rfl) _ _).setCell (.inl rfl) _ _) (by rw [nj (nj hh)]; rfl)
 exact avl (e := { e with fv := v, lv := .slice none 0 0, lj := l, jp := [] }) ((pw S3).perm ((List.Perm.swap _ _ _).trans (List.Perm.cons _ (List.Perm.swap _ _ _))))
theorem Ow.take {α : Type} {enc : α → List Value} {base : Nat} {et : TypeId} {v : Value} {l : List α} {t : TypeId} (he : ∀ x, (enc x).length = 1) (h : Ow w base et 1 enc v l) (ht : oe P t = true) (hz : szE P t = 1) {n : Nat} (hn : n ≤ l.length) {k : IntKind} :
  ∃ v', Ow w base et 1 enc v' (l.take n) ∧ (∀ g, v'.ownBlock = some g → v.ownBlock = some g) ∧ ∀ w1 K, slT P t v none (some (.int k (n : Int))) none w1 K = K v' w1 := by
 have h' := h
 obtain ⟨h1, h2⟩ := h
 have hlen : (l.take n).length = n := by rw [List.length_take]; omega
 have hfl : (l.take n).flatMap enc = (l.flatMap enc).take (n * 1) := by
  clear h' h1 h2 hlen
  induction l generalizing n with
  | nil => simp
  | cons x l ih =>
   cases n with
   | zero => simp
   | succ n =>
    have := ih (n := n) (by simpa using hn)
    rw [List.take_succ_cons, List.flatMap_cons, this, List.flatMap_cons, List.take_append, he]
    have hx := he x
    have e : (n + 1) * 1 - 1 = n * 1 := by omega
    rw [e, List.take_of_length_le (l := enc x) (by rw [hx]; omega)]
 rcases h2 with ⟨rfl, h0⟩ | ⟨g, cap, cur, rfl, hb0, hb, hc, hr⟩
 ·have : n = 0 := by omega
  subst this
  refine ⟨.slice none 0 0, ?_, fun g hg => hg, fun w1 K => by rw [aab ht (.inl ⟨rfl, rfl⟩) (.inr ⟨k, rfl⟩) (Nat.le_refl _) (Nat.le_refl _)]; simp⟩
  rw [List.take_zero]; exact Ow.none
 ·refine ⟨.slice (some ⟨g, 0, none⟩) n cap, ?_, fun g hg => hg, fun w1 K => ?_⟩
  ·unfold Ow
   rw [hlen, hfl]
   exact bix h' hn
  ·rw [aab ht (.inl ⟨rfl, rfl⟩) (.inr ⟨k, rfl⟩) (Nat.zero_le _) (by omega)]
   simp [Addr.add]
theorem blx {v : Value} {l : List Int} (S : St w0 w (ky v l :: R)) {n : Nat} (hn : n ≤ l.length) : ∃ v', (∀ w1 K, slT P T.f v none (some (.int .i64 (n : Int))) none w1 K = K v' w1) ∧ St w0 w (ky v' (l.take n) :: R) := by
 obtain ⟨B, ⟨h1, h2⟩, hB, cl⟩ := S.open
 obtain ⟨v', o, g, f⟩ := Ow.take ka h1 (t := T.f) (by kernel_rfl) (by kernel_rfl) hn (k := .i64)
 exact ⟨v', f, cl w [ky v' (l.take n)] (Fr.refl _ _) (Rs.one (B := B) ⟨o, fun b hb => h2 b (g b hb)⟩ fun b hb => .inl hb)⟩
def Dk.oh (D : Dk) (k : Int) : Dk × Int := if D.jj then (D, 10) else match D.get k with
 | none => (D, 11)
 | some f => (D.pk k (f.lj ++ f.jp) [], 0)
def Dk.cut (D : Dk) (k n : Int) : Dk × Int := if D.jj then (D, 10) else match D.get k with
 | none => (D, 11)
 | some f => if n < 0 ∨ (f.lj.length + f.jp.length : Nat) < n then (D, 1) else (D.pk k ((f.lj ++ f.jp).take n.toNat) [], 0)
def Dk.afd (D : Dk) (k : Int) : Dk × Int := if D.jj then (D, 10) else match D.get k with
 | none => (D, 11)
 | some _ => (D.rem k, 0)
theorem afl (S : St w0 w (iq e.p #[e.fv, e.lv] T.ai :: R)) : ic w e.p 0 = some e.fv ∧ ic w e.p 1 = some e.lv ∧ ∀ i, rn w e.p i = false := by
 have hh := S.blk
 exact ⟨by rw [ie hh]; rfl, by rw [ie hh]; rfl, pg hh⟩
theorem axu (S : St w0 w (iy hb D :: R)) (k : Int) {K : KV} (h : ∀ w', St w0 w' (iy hb (D.oh k).1 :: R) → K (.int .i64 (D.oh k).2) w') : gr P F.df [.pointer (some ⟨hb, 0, none⟩), .int .i64 k] w K := by
 obtain ⟨r, m, es, hk, S'⟩ := zf S
 rw [M.du.fcall]
 apply M.du.calls
 unfold M.du
 unfold Dk.oh at h
 refine ajg hk S' k (fun hd => ?_) (fun hd hn => ?_) fun hd a e b he hek => ?_
 ·simp [hd] at h ⊢
  exact h w S
 ·rw [hk.adc hn] at h
  simp [hd] at h ⊢
  exact h w S
 ·subst he
  have hl := yp hk
  have hu := hk.jg
  have hr := hk.jf
  rw [← hek, hk.xr] at h
  simp [hd, FE.abs] at h ⊢
  refine avg (S'.perm (qh hb r m a b e D R)) (by omega) fun w' v S2 => ?_
  have S3 := anu S2
  obtain ⟨x1, x2, hv, _⟩ := S2.row ka
  generalize (e.lj ++ e.jp).length = L at hv
  subst hv
  obtain ⟨c0, c1, fz⟩ := afl (yk S2.swap)
  simp [FE.ptr, c0, c1, fz, kh, kw]
  refine h _ (aav (m := m) (r := r) (es := a ++ { e with fv := .slice x1 L x2, lv := .slice none 0 0, lj := e.lj ++ e.jp, jp := [] } :: b) (hk.pk (e' := { e with fv := .slice x1 L x2, lv := .slice none 0 0, lj := e.lj ++ e.jp, jp := [] }) rfl rfl ?_) (S3.perm (qh hb r m a b _ _ R).symm))
  have := aeb hk (e.lj ++ e.jp) []
  simp at this ⊢
  omega
theorem bmp (S : St w0 w (iy hb D :: R)) (k n : Int) {K : KV} (h : ∀ w', St w0 w' (iy hb (D.cut k n).1 :: R) → K (.int .i64 (D.cut k n).2) w') : gr P F.ez [.pointer (some ⟨hb, 0, none⟩), .int .i64 k, .int .i64 n] w K := by
 obtain ⟨r, m, es, hk, S'⟩ := zf S
 rw [M.bs.fcall]
 apply M.bs.calls
 unfold M.bs
 unfold Dk.cut at h
 refine ajg hk S' k (fun hd => ?_) (fun hd hn => ?_) fun hd a e b he hek => ?_
 ·simp [hd] at h ⊢
  exact h w S
 ·rw [hk.adc hn] at h
  simp [hd] at h ⊢
  exact h w S
 ·subst he
  have hl := yp hk
  have hu := hk.jg
  have hr := hk.jf
  rw [← hek, hk.xr] at h
  simp [hd, FE.abs] at h ⊢
  unfold M.bs.j0
  refine avg (S'.perm (qh hb r m a b e D R)) (by omega) fun w' v S2 => ?_
  have hlen := fun K => (S2.row ka).jb (P := P) (t := T.f) (ty := T.c) (w := w') (by kernel_rfl) [false] (K := K)
  have hback : St w0 w' (iy hb D :: R) := aav hk (S2.drop.perm (qh hb r m a b e D R).symm)
  by_cases h0 : n < 0
  ·simp [h0] at h ⊢
   exact h w' hback
  ·by_cases h1 : ((e.lj.length : Int) + e.jp.length) < n
   ·simp [h0, h1, hlen] at h ⊢
    exact h w' hback
   ·simp [h0, h1, hlen] at h ⊢
    unfold M.bs.j1
    obtain ⟨v', hs, S3⟩ := blx (n := n.toNat) S2 (by simp; omega)
    have hn : ((n.toNat : Nat) : Int) = n := by omega
    rw [hn] at hs
    rw [hs]
    have S4 := anu S3
    obtain ⟨x1, x2, hv, _⟩ := S3.row ka
    generalize (List.take n.toNat (e.lj ++ e.jp)).length = L at hv
    subst hv
    obtain ⟨c0, c1, fz⟩ := afl (yk S3.swap)
    simp [FE.ptr, c0, c1, fz, kh, kw]
    refine h _ (aav (m := m) (r := r) (es := a ++ { e with fv := .slice x1 L x2, lv := .slice none 0 0, lj := (e.lj ++ e.jp).take n.toNat, jp := [] } :: b) ?_ (S4.perm (qh hb r m a b _ _ R).symm))
    have := aeb hk ((e.lj ++ e.jp).take n.toNat) []
    simp [List.take_append] at this ⊢
    have hh := hk.pk (e' := { e with fv := .slice x1 L x2, lv := .slice none 0 0, lj := (e.lj ++ e.jp).take n.toNat, jp := [] }) rfl rfl (by
     simp [List.take_append]
     omega)
    simpa [List.take_append] using hh
theorem bce (S : St w0 w (iy hb D :: R)) (k : Int) {K : KV} (h : ∀ w', St w0 w' (iy hb (D.afd k).1 :: R) → K (.int .i64 (D.afd k).2) w') : gr P F.dv [.pointer (some ⟨hb, 0, none⟩), .int .i64 k] w K := by
 obtain ⟨r, m, es, hk, S'⟩ := zf S
 rw [M.di.fcall]
 apply M.di.calls
 unfold M.di
 unfold Dk.afd at h
 refine ajg hk S' k (fun hd => ?_) (fun hd hn => ?_) fun hd a e b he hek => ?_
 ·simp [hd] at h ⊢
  exact h w S
 ·rw [hk.adc hn] at h
  simp [hd] at h ⊢
  exact h w S
 ·subst he
  rw [← hek, hk.xr] at h
  obtain ⟨_, c1, _⟩ := qo (ui S')
  simp [hd, c1] at h ⊢
  refine bmi mt.p (afx S').1 k _ _ _ fun o hm => ?_
  refine h _ (aav (m := zo m e.n) (r := r) (es := a ++ b) hk.rem ?_)
  have S2 : St w0 w (jy r .i64 m :: bbb hb r (D.rem e.n) :: ((a ++ b).map yu ++ R)) := ((S'.perm (qh hb r m a b e D R)).drop : St w0 w (bbb hb r D :: jy r .i64 m :: ((a ++ b).map yu ++ R))).swap
  obtain ⟨B, ⟨h1, h2⟩, hB, cl⟩ := S2.open
  refine (cl (World.setObj w r o) [jy r .i64 (zo m e.n)] ((Fr.refl B w).setObj (.inl h2) o) (Rs.one (B := B) ⟨⟨?_, ?_⟩, h2⟩ fun b hb => .inl hb)).swap
  ·rw [hek]; exact hm
  ·rw [aci]; exact h1.2.erase _
end
def Dk.aen (D : Dk) (k : Int) : Dk := { D with fs := D.fs ++ [⟨k, [], []⟩] }
def Dk.qp (D : Dk) (l : List Int) : List Int := if D.jw then l.take (min (l.length : Int) D.left).toNat else l
def Dk.after (D : Dk) (l : List Int) : Dk := if D.jw then { D with jj := decide (D.left < l.length), left := D.left - (min (l.length : Int) D.left).toNat } else D
def Dk.put (D : Dk) (k : Int) (l : List Int) : Dk := match D.get k with
 | none => ((D.aen k).pk k [] (D.qp l)).after l
 | some f => (D.pk k f.lj (f.jp ++ D.qp l)).after l
def Dk.append (D : Dk) (k : Int) (l : List Int) : Dk × Int :=
 if D.jj then (D, 10) else if k < 0 ∨ 64 ≤ k then (D, 1) else if D.jf < D.jg + l.length then (D, 9) else (D.put k l, if (D.put k l).jj then 10 else 0)
section
variable {w0 w : World} {hb r : Nat} {m : MP} {es a b : List FE} {D : Dk} {R : List Asn} {e e' : FE}
theorem qj {v v2 : Value} {l l2 : List Int} (S : St w0 w (ky v l :: R)) (hs : SlB w v2 l2) (hl : l.length + l2.length ≤ 1000000000) {cs : List Bool} {ty : TypeId} {K : KV} (h : ∀ w' v', St w0 w' (ky v' (l ++ l2) :: R) → K v' w') :
  biT P .append #[T.f, T.f] ty cs [v, v2] w K := by
 obtain ⟨B, ⟨h1, h2⟩, hB, cl⟩ := S.open
 refine rq et.f ka xo h1 hs hl (by decide) (Nat.zero_le _) cs fun v' w' o f g => ?_
 refine h w' v' (cl w' [ky v' (l ++ l2)] (f.mono fun x _ hx => h2 x hx) (Rs.one (B := fun x => v'.ownBlock = some x) ⟨o, fun b hb => hb⟩ fun x hx => ?_))
 rcases g with g | ⟨y, g1, g2⟩
 ·exact .inl (h2 x (by rw [← g]; exact hx))
 ·rw [hx] at g1; cases g1
  exact .inr ⟨g2, (o.lt hx).2⟩
theorem aub (S : St w0 w (iy hb D :: R)) {K : KV} (h : K (.int .i64 (if D.jj then 10 else 0)) w) : gr P F.bt [.pointer (some ⟨hb, 0, none⟩)] w K := by
 obtain ⟨r, m, es, hk, S'⟩ := zf S
 exact aul (ui S') h
theorem bjk (hk : ph m (a ++ e :: b) D) (S : St w0 w (oc hb r m (a ++ e :: b) D ++ R)) {v2 : Value} {l2 : List Int} (hs : SlB w v2 l2) (hu : ((D.jg + l2.length : Nat) : Int) ≤ D.jf) {K : KV}
  (h : ∀ w', St w0 w' (iy hb (D.pk e.n e.lj (e.jp ++ l2)) :: R) → K (.int .i64 (if D.jj then 10 else 0)) w') : M.af.j2 [e.ptr] [v2] (.pointer (some ⟨hb, 0, none⟩)) w K := by
 unfold M.af.j2
 have hl := yp hk
 have hr := hk.jf
 have S1 := yk (S.perm (qh hb r m a b e D R))
 obtain ⟨c0, c1, fz⟩ := afl S1
 obtain ⟨x1, x2, hv, _⟩ := S1.acl.row ka
 have c1' := c1
 rw [hv] at c1'
 simp [FE.ptr, c1']
 rw [← hv]
 refine qj S1.acl hs (by omega) fun w1 v' S2 => ?_
 have S3 := S2.acl.tail (List.Perm.refl _)
 have S4 : St w0 w1 (iq e.p #[e.fv, e.lv] T.ai :: ky v' (e.jp ++ l2) :: ky e.fv e.lj :: (oc hb r m (a ++ b) D ++ R)) := S2.swap
 obtain ⟨d0, d1, fz1⟩ := afl S4
 have hcell : ∃ x y z, v' = .slice x y z := by
  obtain ⟨x, z, hv, _⟩ := S2.row ka
  exact ⟨x, _, z, hv⟩
 obtain ⟨y1, y2, y3, rfl⟩ := hcell
 have hh := S4.blk
 have S5 := S4.ni (cs' := #[e.fv, .slice y1 y2 y3]) (e' := T.ai) (w' := w1.setCell ⟨e.p, 1, none⟩ (.slice y1 y2 y3)) ((Fr.refl (fun x => x = e.p) w1).setCell (.inl rfl) _ _) (by rw [nj hh]; rfl)
 simp [d1, fz1]
 have S6 := avl (e := { e with lv := .slice y1 y2 y3, jp := e.jp ++ l2 }) (S5.tail (.swap _ _ _))
 have hk' := hk.pk (e' := { e with lv := .slice y1 y2 y3, jp := e.jp ++ l2 }) rfl rfl (by
  have := aeb hk e.lj (e.jp ++ l2)
  simp at this ⊢
  omega)
 have S7 : St w0 (w1.setCell ⟨e.p, 1, none⟩ (.slice y1 y2 y3)) (iy hb (D.pk e.n e.lj (e.jp ++ l2)) :: R) := aav (m := m) (r := r) (es := a ++ { e with lv := .slice y1 y2 y3, jp := e.jp ++ l2 } :: b) hk' (S6.perm (qh hb r m a b _ _ R).symm)
 exact aub S7 (h _ S7)
theorem bjj (hk : ph m (a ++ e :: b) D) (S : St w0 w (oc hb r m (a ++ e :: b) D ++ R)) (hd : D.jj = false) {bv : Value} {l : List Int} (hbs : ∀ w' L, St w0 w' (L ++ R) → SlB w' bv l) (hu : ((D.jg + l.length : Nat) : Int) ≤ D.jf) {K : KV}
  (h : ∀ w', St w0 w' (iy hb ((D.pk e.n e.lj (e.jp ++ D.qp l)).after l) :: R) → K (.int .i64 (if ((D.pk e.n e.lj (e.jp ++ D.qp l)).after l).jj then 10 else 0)) w') : M.af.j1 (.pointer (some ⟨hb, 0, none⟩)) bv [e.ptr] w K := by
 unfold M.af.j1
 have hh := ui S
 have hr := hk.jf
 obtain ⟨_, _, c2, c3, c4, fz⟩ := qo hh
 have hs := hbs w _ S
 have hlen := fun w' K => hs.jb (P := P) (w := w') (t := T.f) (ty := T.c) (by kernel_rfl) [false] (K := K)
 rw [ib]
 cases ha : D.jw with
 | false =>
  rw [ha] at c3
  simp [c3]
  have e1 : D.qp l = l := by unfold Dk.qp; rw [ha]; rfl
  have e2 : (D.pk e.n e.lj (e.jp ++ l)).after l = D.pk e.n e.lj (e.jp ++ l) := by
   unfold Dk.after
   rw [show (D.pk e.n e.lj (e.jp ++ l)).jw = D.jw from rfl, ha]; rfl
  rw [e1, e2] at h
  exact bjk hk S hs hu h
 | true =>
  rw [ha] at c3
  obtain ⟨hle, hlt⟩ := hk.arm ha
  have S2 : St w0 ((w.setCell ⟨hb, 4, none⟩ (.bool (decide (D.left < l.length)))).setCell ⟨hb, 2, none⟩ (.int .i64 (D.left - min (l.length : Int) D.left))) (oc hb r m (a ++ e :: b) { D with jj := decide (D.left < l.length), left := D.left - min (l.length : Int) D.left } ++ R) :=
   St.ni (cs' := #[.int .i64 D.jf, .map (some r), .int .i64 (D.left - min (l.length : Int) D.left), .bool D.jw, .bool (decide (D.left < l.length))]) (e' := T.ag) S (((Fr.refl (fun x => x = hb) w).setCell (.inl rfl) _ _).setCell (.inl rfl) _ _) (by rw [nj (nj hh)]; rfl)
  obtain ⟨v', s', hsub, hsl⟩ := (hbs _ _ S2).sub (P := P) (t := T.f) (lo := none) (hi := some (.int .i64 ((min (l.length : Int) D.left).toNat : Nat))) (i := 0) (j := (min (l.length : Int) D.left).toNat) (by kernel_rfl) (by kernel_rfl) (.inl ⟨rfl, rfl⟩) (.inr ⟨_, rfl⟩) (Nat.zero_le _) (by omega)
  rw [List.drop_zero, Nat.sub_zero] at s'
  have hmin : (((min (l.length : Int) D.left).toNat : Nat) : Int) = min (l.length : Int) D.left := by omega
  have hmlen : (l.take (min (l.length : Int) D.left).toNat).length = (min (l.length : Int) D.left).toNat := by rw [List.length_take]; omega
  rw [hmin] at hsl
  have hlen' := fun w' K => s'.jb (P := P) (w := w') (t := T.f) (ty := T.c) (by kernel_rfl) [false] (K := K)
  rw [hmlen] at hlen'
  have hwr : IntKind.i64.wrap (D.left - min (l.length : Int) D.left) = D.left - min (l.length : Int) D.left := ig
  simp only [atb]
  simp [c2, c3, c4, fz, hlen, akr, kh, kw, hsl, hlen', hmin, hwr]
  have e1 : D.qp l = l.take (min (l.length : Int) D.left).toNat := by unfold Dk.qp; rw [ha]; rfl
  have e2 : (D.pk e.n e.lj (e.jp ++ D.qp l)).after l = Dk.pk { D with jj := decide (D.left < l.length), left := D.left - min (l.length : Int) D.left } e.n e.lj (e.jp ++ l.take (min (l.length : Int) D.left).toNat) := by
   unfold Dk.after
   rw [show (D.pk e.n e.lj (e.jp ++ D.qp l)).jw = D.jw from rfl, ha, e1]
   show Dk.mk _ _ _ _ _ = Dk.mk _ _ _ _ _
   congr 1
   show D.left - _ = _
   rw [← hmin]; rfl
  rw [e2] at h
  refine bjk (D := { D with jj := decide (D.left < l.length), left := D.left - min (l.length : Int) D.left }) { hk with arm := fun _ => ⟨?_, ?_⟩ } S2 s' ?_ h
  ·show 0 ≤ D.left - min (l.length : Int) D.left; omega
  ·show D.left - min (l.length : Int) D.left < _; omega
  ·show ((D.jg + _ : Nat) : Int) ≤ D.jf
   rw [hmlen]; omega
theorem bkv (hk : ph m es D) (S : St w0 w (oc hb r m es D ++ R)) {k : Int} (hall : ∀ e ∈ es, e.n ≠ k) (hr : 0 ≤ k ∧ k < 64) :
  ph (tu m k (FE.ptr ⟨k, w.heap.size, .slice none 0 0, .slice none 0 0, [], []⟩)) (es ++ ⟨k, w.heap.size, .slice none 0 0, .slice none 0 0, [], []⟩ :: []) (D.aen k) ∧
  St w0 (w.alloc (.cells #[.slice none 0 0, .slice none 0 0] T.ai)) (yu ⟨k, w.heap.size, .slice none 0 0, .slice none 0 0, [], []⟩ :: (oc hb r m es D ++ R)) := by
 have hkn : k ∉ kj m := fun h => by
  obtain ⟨e, he, h'⟩ := List.mem_map.1 (hk.kp.mem_iff.1 h)
  exact hall e he h'
 have hmk : kj (tu m k (FE.ptr ⟨k, w.heap.size, .slice none 0 0, .slice none 0 0, [], []⟩)) = kj m ++ [k] := by rw [aln, if_neg hkn]
 have hml : (tu m k (FE.ptr ⟨k, w.heap.size, .slice none 0 0, .slice none 0 0, [], []⟩)).length = m.length + 1 := by
  have := congrArg List.length hmk
  simpa [kj] using this
 refine ⟨⟨?_, ?_, ?_, ?_, ?_, ?_, hk.jf, ?_, ?_, hk.arm⟩, ?_⟩
 ·show D.fs ++ _ = _
  rw [hk.fs]; simp [FE.abs]
 ·rw [hml, hk.ml]; simp
 ·intro x hx
  rw [ahz]
  rcases List.mem_append.1 hx with hx | hx
  ·rw [if_neg fun h => hall x hx h.symm]; exact hk.mg x hx
  ·rw [List.mem_singleton] at hx
   subst hx
   rw [if_pos rfl]
 ·intro j hj
  rw [ahz, if_neg (c := k = j) fun h => hj ⟨k, w.heap.size, .slice none 0 0, .slice none 0 0, [], []⟩ (by simp) h]
  exact hk.mz j fun e he => hj e (by simp [he])
 ·rw [List.map_append, List.nodup_append]
  refine ⟨hk.tn, by simp, ?_⟩
  rintro x hx y hy rfl
  obtain ⟨e, he, rfl⟩ := List.mem_map.1 hx
  simp at hy
  exact hall e he hy
 ·rw [hmk, List.map_append]
  exact hk.kp.append_right _
 ·have : (D.aen k).jg = D.jg := by unfold Dk.aen Dk.jg; simp [Fil.len]
  rw [this]; exact hk.jg
 ·intro x hx
  rcases List.mem_append.1 hx with hx | hx
  ·exact hk.rng x hx
  ·rw [List.mem_singleton] at hx
   subst hx
   exact hr
 ·have S1 : St w0 (w.alloc (.cells #[.slice none 0 0, .slice none 0 0] T.ai)) (iq w.heap.size #[.slice none 0 0, .slice none 0 0] T.ai :: (oc hb r m es D ++ R)) :=
   S.add ((Fr.refl _ w).alloc _) (B := fun x => x = w.heap.size) ⟨by rw [iw, if_pos rfl], rfl⟩ fun x hx => by subst hx; rw [jz]; omega
  exact avl (e := ⟨k, w.heap.size, .slice none 0 0, .slice none 0 0, [], []⟩) ((pw (pw S1)).acl)
theorem apg (S : St w0 w (iy hb D :: R)) (k : Int) {bv : Value} {l : List Int} (hbs : ∀ w' L, St w0 w' (L ++ R) → SlB w' bv l) (hl : l.length ≤ 1000000000) {K : KV}
  (h : ∀ w', St w0 w' (iy hb (D.append k l).1 :: R) → K (.int .i64 (D.append k l).2) w') : gr P F.cq [.pointer (some ⟨hb, 0, none⟩), .int .i64 k, bv] w K := by
 rw [M.af.fcall]
 apply M.af.calls
 unfold M.af
 unfold Dk.append at h
 refine aub S ?_
 cases hd : D.jj with
 | true => simp [hd] at h ⊢; exact h w S
 | false =>
 by_cases h0 : k < 0
 ·simp [hd, h0] at h ⊢; exact h w S
 by_cases h1 : 64 ≤ k
 ·simp [hd, h0, h1] at h ⊢; exact h w S
 have hlen := fun w' K L (S' : St w0 w' (L ++ R)) => (hbs w' L S').jb (P := P) (w := w') (t := T.f) (ty := T.c) (by kernel_rfl) [false] (K := K)
 obtain ⟨r, m, es, hk, S'⟩ := zf S
 obtain ⟨a1, k1, hbv, _⟩ := hbs w _ S'
 have hh := ui S'
 obtain ⟨c0, _⟩ := qo hh
 have hlen1 := fun w' K => (hbs w _ S').jb (P := P) (w := w') (t := T.f) (ty := T.c) (by kernel_rfl) [false] (K := K)
 have hr := hk.jf
 have hu0 := hk.jg
 simp [hd, h0, h1, c0, hlen1]
 refine blm hk (S'.jt ((Fr.refl _ w).dr 1)) fun w1 S1 => ?_
 obtain ⟨c0, c1, _⟩ := qo (ui S1)
 have hw : IntKind.i64.wrap ((D.jg : Int) + l.length) = (D.jg : Int) + l.length := ig
 simp [c0, hw]
 by_cases h2 : D.jf < D.jg + l.length
 ·simp [h2]
  simp [hd, h0, h1, h2] at h
  exact h w1 (aav hk S1)
 simp [h2]
 simp [hd, h0, h1, h2] at h
 unfold M.af.j0
 simp [c1]
 rw [aba mt.p (afx S1).1]
 unfold Dk.put at h
 rcases hk.bna k with ⟨hn, hall⟩ | ⟨a, e, b, he, hek, hg⟩
 ·rw [hk.adc hall] at h
  rw [hn]
  have c1' : ∀ o, ic (w1.alloc o) hb 1 = some (.map (some r)) := fun o => by
   have hlt := (Array.getElem?_eq_some_iff.1 (ui S1)).1; exact (tz (w := w1) (w' := w1.alloc o) (b := hb) (by rw [iw, if_neg (by omega)]) 1).trans c1
  simp [c1']
  obtain ⟨hk2, S2⟩ := bkv hk S1 hall (by omega)
  have S3 := S2
  refine aqw mt.p (w := w1.alloc (.cells #[.slice none 0 0, .slice none 0 0] T.ai)) (r := r) (m := m) ?_ k _ _ fun o hm => ?_
  ·exact (afx S2.drop).1
  obtain ⟨B, ⟨h1, h2⟩, hB, cl⟩ := S2.acl.open
  have S4 := cl (World.setObj (w1.alloc (.cells #[.slice none 0 0, .slice none 0 0] T.ai)) r o) [jy r .i64 (tu m k (FE.ptr ⟨k, w1.heap.size, .slice none 0 0, .slice none 0 0, [], []⟩))] ((Fr.refl B _).setObj (.inl h2) o) (Rs.one (B := B) ⟨⟨hm, hk2.nd⟩, h2⟩ fun b hb => .inl hb)
  have S5 : St w0 (World.setObj (w1.alloc (.cells #[.slice none 0 0, .slice none 0 0] T.ai)) r o) (oc hb r (tu m k (FE.ptr ⟨k, w1.heap.size, .slice none 0 0, .slice none 0 0, [], []⟩)) (es ++ ⟨k, w1.heap.size, .slice none 0 0, .slice none 0 0, [], []⟩ :: []) (D.aen k) ++ R) := by
   refine St.perm S4 (List.Perm.trans ?_ (qh hb r _ es [] ⟨k, w1.heap.size, .slice none 0 0, .slice none 0 0, [], []⟩ (D.aen k) R).symm)
   rw [List.append_nil]
   exact (List.Perm.swap _ _ _).trans (List.Perm.cons _ (List.Perm.swap _ _ _))
  exact bjj (e := ⟨k, w1.heap.size, .slice none 0 0, .slice none 0 0, [], []⟩) hk2 S5 hd hbs (by
   have : (D.aen k).jg = D.jg := by unfold Dk.aen Dk.jg; simp [Fil.len]
   rw [this]
   show _ ≤ D.jf
   omega) h
 ·subst he
  rw [← hek, hk.xr] at h
  rw [hg]
  simp [FE.ptr]
  exact bjj hk S1 hd hbs (by omega) h
end
def aah (kl : List Int) (i len : Nat) : Nat := (max 0 (min (kl.getD i 0) (len : Int))).toNat
def adg (kl : List Int) (D : Dk) (k : Int) (i : Nat) : Dk := match D.get k with
 | none => D
 | some f => D.pk k (f.lj ++ f.jp.take (aah kl i f.jp.length)) []
def crN (kl : List Int) (D : Dk) (F : List Int) : Nat → Dk
 | 0 => D
 | i + 1 => adg kl (crN kl D F i) (F.getD i 0) i
def Dk.uz (D : Dk) (kl : List Int) : Dk := { crN kl D D.jm D.jm.length with jw := false, jj := false }
section
variable {w0 w : World} {hb r : Nat} {m : MP} {es a b : List FE} {D : Dk} {R : List Asn} {e e' : FE}
theorem bco (D : Dk) (k : Int) (fa lo : List Int) : (D.pk k fa lo).rg = D.rg := by
 unfold Dk.rg Dk.pk
 rw [List.map_map]
 refine List.map_congr_left fun f hf => ?_
 show (if f.n = k then (⟨k, fa, lo⟩ : Fil) else f).n = f.n
 split
 ·rename_i h; exact h.symm
 ·rfl
theorem avx (kl : List Int) (D : Dk) (k : Int) (i : Nat) : (adg kl D k i).rg = D.rg := by
 unfold adg
 split
 ·rfl
 ·exact bco ..
theorem atv (kl : List Int) (D : Dk) (F : List Int) : ∀ i, (crN kl D F i).rg = D.rg
 | 0 => rfl
 | i + 1 => (avx kl _ _ _).trans (atv kl D F i)
theorem bmm (hk : ph m (a ++ e :: b) D) (S : St w0 w (oc hb r m (a ++ e :: b) D ++ R)) {n : Nat} (hn : n ≤ e.jp.length) {x2 : List Value} {t17 : Value} {K4 : KL} {K : KV}
  (h : ∀ w', St w0 w' (iy hb (D.pk e.n (e.lj ++ e.jp.take n) []) :: R) → K4 [gv x2 4, t17, e.ptr, .int .i64 (n : Int)] w') : M.ao.j5 e.ptr [.int .i64 (n : Int)] K4 x2 t17 w K := by
 unfold M.ao.j5
 have hl := yp hk
 have hu := hk.jg
 have hr := hk.jf
 have S1 := S.perm (qh hb r m a b e D R)
 have S2 := yk S1
 obtain ⟨c0, c1, fz⟩ := afl S2
 have s1 : SlB w e.fv e.lj := S2.swap.row ka
 have s2 : SlB w e.lv e.jp := S2.acl.row ka
 obtain ⟨v', s', hsub, hsl⟩ := s2.sub (P := P) (t := T.f) (lo := none) (hi := some (.int .i64 (n : Int))) (i := 0) (j := n) (by kernel_rfl) (by kernel_rfl) (.inl ⟨rfl, rfl⟩) (.inr ⟨_, rfl⟩) (Nat.zero_le _) hn
 rw [List.drop_zero, Nat.sub_zero] at s'
 obtain ⟨a1, k1, hv1, _⟩ := id s1
 obtain ⟨a2, k2, hv2, _⟩ := id s2
 obtain ⟨a3, k3, hv3, _⟩ := id s'
 have c0' := c0
 have c1' := c1
 rw [hv1] at c0'
 rw [hv2] at c1' hsl
 rw [hv3] at hsl
 simp [FE.ptr, c0', c1', hsl]
 rw [← hv1]
 have hmin : (List.take n e.jp).length = min n e.jp.length := by simp
 rw [← hmin, ← hv3]
 have hbl : ((Eng.dr w 1).alloc (.cells #[e.fv, v'] T.f)).heap[w.heap.size]? = some (.cells (([(e.fv, e.lj), (v', e.jp.take n)] : List (Value × List Int)).map (·.1)).toArray T.f (0, 0)) := by
  rw [iw, if_pos (by simp)]; rfl
 have f1 : Fz w ((Eng.dr w 1).alloc (.cells #[e.fv, v'] T.f)) := ((Fr.refl _ w).dr 1).alloc _
 rw [M.k.fcall]
 refine CB.abn (L := [(e.fv, e.lj), (v', e.jp.take n)]) hbl (fun p hp => ?_) (by simp [CB.tot]; omega) (by simp) fun w' v o f2 => ?_
 ·simp at hp
  rcases hp with rfl | rfl
  ·exact s1.fr f1 fun _ _ _ h => h
  ·exact s'.fr f1 fun _ _ _ h => h
 ·have hs : w.heap.size ≤ ((Eng.dr w 1).alloc (.cells #[e.fv, v'] T.f)).heap.size := f1.size
  have S3 : St w0 w' (ky v (e.lj ++ e.jp.take n) :: yu e :: (oc hb r m (a ++ b) D ++ R)) := S1.add (a := ky v (e.lj ++ e.jp.take n)) (f1.trans f2) (B := fun b => v.ownBlock = some b) ⟨by simpa using o.mono (Nat.zero_le _), fun b hb => hb⟩ fun b hb => by
   have := o.lt hb
   exact ⟨by omega, this.2⟩
  have S4 := anu S3
  obtain ⟨d0, d1, fz1⟩ := afl (yk S3.swap)
  obtain ⟨y1, y2, hv, _⟩ := S3.row ka
  generalize (e.lj ++ e.jp.take n).length = L at hv
  subst hv
  simp [d0, d1, fz1, kh, kw]
  refine h _ (aav (m := m) (r := r) (es := a ++ { e with fv := .slice y1 L y2, lv := .slice none 0 0, lj := e.lj ++ e.jp.take n, jp := [] } :: b) (hk.pk (e' := { e with fv := .slice y1 L y2, lv := .slice none 0 0, lj := e.lj ++ e.jp.take n, jp := [] }) rfl rfl ?_) (S4.perm (qh hb r m a b _ _ R).symm))
  have := aeb hk (e.lj ++ e.jp.take n) []
  simp at this ⊢
  omega
def CrI (w0 : World) (hb : Nat) (D : Dk) (kl : List Int) (R : List Asn) (v : Value) : KL := fun x w1 => ∃ (u0 u1 u2 u3 : Value) (i : Nat), x = [u0, u1, u2, u3, .int .i64 (i : Nat)] ∧ i ≤ D.jm.length ∧ St w0 w1 (tc v D.jm :: iy hb (crN kl D D.jm i) :: R)
theorem asw (S : St w0 w (iy hb D :: R)) {kv : Value} {kl : List Int} (hks : ∀ w' L, St w0 w' (L ++ R) → Sl w' 1 rz kv kl) {K : KV}
  (h : ∀ w', St w0 w' (iy hb (D.uz kl) :: R) → K (.tuple #[]) w') : gr P F.ct [.pointer (some ⟨hb, 0, none⟩), kv] w K := by
 rw [M.ao.fcall]
 apply M.ao.calls
 unfold M.ao
 simp
 unfold M.ao.j0
 rw [ib]
 obtain ⟨r0, m0, es0, hk0, S0⟩ := zf S
 have hfl : D.jm.length ≤ 64 := by
  have := hk0.few
  unfold Dk.jm
  rw [(nu _).length_eq, hk0.rg, List.length_map]; exact this
 refine akv hk0 S0 fun w1 v S1 => ?_
 have S1' : St w0 w1 (tc v D.jm :: iy hb D :: R) := ((aav hk0 (S1.perm List.perm_middle.symm)) : St w0 w1 (iy hb D :: (tc v D.jm :: R))).swap
 have hsl : ∀ {w i}, St w0 w (tc v D.jm :: iy hb (crN kl D D.jm i) :: R) → Sl w 1 rz v D.jm := fun S => S.row xt
 rw [(hsl (i := 0) S1').jb (by simp)]
 refine ⟨CrI w0 hb D kl R v, fun x _ => D.jm.length - ms x 4, ⟨_, _, _, _, 0, rfl, Nat.zero_le _, S1'⟩, ?_⟩
 rintro x w2 ⟨u0, u1, u2, u3, i, rfl, hi, S2⟩
 have q : ∀ a b c d e : Value, gv [a, b, c, d, e] 4 = e := fun _ _ _ _ _ => rfl
 simp only [q, lw, ib]
 by_cases hil : i < D.jm.length
 ·have hil' : (i : Int) < D.jm.length := by omega
  simp only [hil', decide_true, Eng.cond_true]
  unfold M.ao.j3
  obtain ⟨bb, o, cap, hv, hbb, _, hc⟩ := (hsl S2).at hil
  have c0 := hc 0 _ rfl
  simp only [Nat.mul_one, Nat.add_zero] at c0
  have hmem : D.jm[i] ∈ D.jm := List.getElem_mem hil
  have hnext : crN kl D D.jm (i + 1) = adg kl (crN kl D D.jm i) D.jm[i] i := by
   show adg kl _ (D.jm.getD i 0) i = _
   rw [List.getD_eq_getElem?_getD, List.getElem?_eq_getElem hil]; rfl
  have hmem' : D.jm[i] ∈ (crN kl D D.jm i).rg := by
   rw [atv]; exact (nu _).mem_iff.1 hmem
  obtain ⟨r, m, es, hk, S3⟩ := zf S2.swap
  generalize hD : crN kl D D.jm i = D1 at *
  generalize hki : D.jm[i] = k at *
  rw [hk.rg] at hmem'
  obtain ⟨e, he, hek⟩ := List.mem_map.1 hmem'
  obtain ⟨a, b, hab⟩ := List.append_of_mem he
  subst hab
  obtain ⟨_, c1, _⟩ := qo (ui S3)
  have hg := hk.mg e (by simp)
  have hlu : ∀ K, luT P T.p (.map (some r)) (.int .i64 k) false w2 K = K e.ptr w2 := fun K => by
   rw [aba mt.p (afx S3).1, ← hek, hg]; rfl
  obtain ⟨hbk, s1, s2⟩ := beh (a := a) (e := e) (b := b) S3
  have d1 : ic w2 e.p 1 = some e.lv := by rw [ie hbk]; rfl
  have hlenl := fun w' K => s2.jb (P := P) (w := w') (t := T.f) (ty := T.c) (by kernel_rfl) [false] (K := K)
  have hks2 := hks w2 (tc v D.jm :: [iy hb D1]) S2
  have hlenk := fun w' K => hks2.jb (P := P) (w := w') (t := T.ad) (ty := T.c) (by kernel_rfl) [false] (K := K)
  obtain ⟨a2, k2, hv2, _⟩ := id s2
  have d1' := d1
  rw [hv2] at d1' hlenl
  have hwi : IntKind.i64.wrap ((i : Int) + 1) = ((i + 1 : Nat) : Int) := by rw [ig]; rfl
  have hst : crN kl D D.jm (i + 1) = D1.pk e.n (e.lj ++ e.jp.take (aah kl i e.jp.length)) [] := by
   rw [hnext]
   unfold adg
   rw [← hek, hk.xr]; rfl
  have fin : ∀ w' y0 y1 y2 y3, St w0 w' (iy hb (D1.pk e.n (e.lj ++ e.jp.take (aah kl i e.jp.length)) []) :: tc v D.jm :: R) → CrI w0 hb D kl R v [y0, y1, y2, y3, .int .i64 ((i + 1 : Nat) : Int)] w' ∧ D.jm.length - ms [y0, y1, y2, y3, .int .i64 ((i + 1 : Nat) : Int)] 4 < D.jm.length - ms [u0, u1, u2, u3, .int .i64 (i : Nat)] 4 := fun w' y0 y1 y2 y3 S' => ⟨⟨_, _, _, _, i + 1, rfl, by omega, by rw [hst]; exact S'.swap⟩, by simp only [ms, q]; simp; omega⟩
  rw [hv]
  by_cases hik : i < kl.length
  ·have hik' : (i : Int) < kl.length := by omega
   obtain ⟨bk, ok, capk, hkv, hbk2, _, hck⟩ := hks2.at hik
   have ck := hck 0 _ rfl
   simp only [Nat.mul_one, Nat.add_zero] at ck
   have hsty : ((aah kl i e.jp.length : Nat) : Int) = max 0 (min kl[i] (e.jp.length : Int)) := by
    unfold aah
    rw [List.getD_eq_getElem?_getD, List.getElem?_eq_getElem hik]
    simp only [Option.getD_some]
    omega
   simp [q, hil, c0, c1, hlu, hlenk, hik]
   rw [hkv]
   simp [hik, ck, FE.ptr, d1', hlenl, akr, bgk, ← hsty]
   have S4 := S3.jt ((Fr.refl _ w2).dr 1)
   refine bmm (n := aah kl i e.jp.length) (R := tc v D.jm :: R) hk S4 (by omega) fun w' S' => ?_
   rw [← hv]
   have := fin w' (gv [u0, u1, u2, u3, .int .i64 (i : Nat)] 4) (.int .i64 k) e.ptr (.int .i64 (aah kl i e.jp.length : Nat)) S'
   rw [hwi]
   exact this
  ·have hik' : ¬ (i : Int) < kl.length := by omega
   have hst0 : aah kl i e.jp.length = 0 := by
    unfold aah
    rw [List.getD_eq_getElem?_getD, List.getElem?_eq_none (by omega)]
    simp only [Option.getD_none]
    omega
   rw [hst0] at fin
   simp [q, hil, c0, c1, hlu, hlenk, hik]
   refine bmm (n := 0) (R := tc v D.jm :: R) hk S3 (by omega) fun w' S' => ?_
   rw [← hv]
   have := fin w' (gv [u0, u1, u2, u3, .int .i64 (i : Nat)] 4) (.int .i64 k) e.ptr (.int .i64 (0 : Nat)) S'
   rw [hwi]
   exact this
 ·have hil' : ¬ (i : Int) < D.jm.length := by omega
  simp only [hil', decide_false, Eng.cond_false]
  have hii : i = D.jm.length := by omega
  subst hii
  obtain ⟨r, m, es, hk, S3⟩ := zf S2.drop
  obtain ⟨_, _, _, c3, c4, fz⟩ := qo (ui S3)
  have hh := ui S3
  simp [c3, c4, fz, kh, kw]
  refine h _ (aav (r := r) (m := m) (es := es) (D := D.uz kl) { hk with arm := fun h => by cases h } (St.ni (cs' := #[.int .i64 (crN kl D D.jm D.jm.length).jf, .map (some r), .int .i64 (crN kl D D.jm D.jm.length).left, .bool false, .bool false]) (e' := T.ag) S3 (((Fr.refl (fun x => x = hb) w2).setCell (.inl rfl) _ _).setCell (.inl rfl) _ _) ?_))
  rw [nj (nj hh)]; rfl
end
section
variable {w0 w : World} {hb : Nat} {D : Dk} {R : List Asn}
theorem bjm (S : St w0 w (iy hb D :: R)) (k : Int) {K : KV} (h : ∀ w' v, St w0 w' (ky v (D.mu k).1 :: iy hb D :: R) → K (.tuple #[v, .int .i64 (D.mu k).2]) w') : gr P F.dg [.pointer (some ⟨hb, 0, none⟩), .int .i64 k] w K := by
 obtain ⟨r, m, es, hk, S'⟩ := zf S
 exact bkp hk S' k fun w' v S2 => h w' v (aav hk (S2.perm List.perm_middle.symm) : St w0 w' (iy hb D :: (ky v (D.mu k).1 :: R))).swap
theorem bgo (S : St w0 w (iy hb D :: R)) {K : KV} (h : ∀ w' v, St w0 w' (tc v D.jm :: iy hb D :: R) → K v w') : gr P F.bs [.pointer (some ⟨hb, 0, none⟩)] w K := by
 obtain ⟨r, m, es, hk, S'⟩ := zf S
 exact akv hk S' fun w' v S2 => h w' v (aav hk (S2.perm List.perm_middle.symm) : St w0 w' (iy hb D :: (tc v D.jm :: R))).swap
theorem bnc (S : St w0 w (iy hb D :: R)) {n : Int} (hn : n < 9223372036854775808) {K : KV} (h : ∀ w', St w0 w' (iy hb { D with jw := decide (0 ≤ n), left := n } :: R) → K (.tuple #[]) w') : gr P F.dz [.pointer (some ⟨hb, 0, none⟩), .int .i64 n] w K := by
 obtain ⟨r, m, es, hk, S'⟩ := zf S
 exact bmc hk S' hn fun w' hk' S2 => h w' (aav hk' S2)
theorem aok (S : St w0 w (iy hb D :: R)) {K : KV} (h : K (.bool D.jj) w) : gr P F.bw [.pointer (some ⟨hb, 0, none⟩)] w K := by
 obtain ⟨r, m, es, hk, S'⟩ := zf S
 exact bgi S' h
end
end Go.Proofs.YtfnhoaemapheoaaGreat
set_option maxRecDepth 100000
namespace Go.Eng
section
variable {P : Program} {x : Int} {w : World} {K : KV}
theorem bfw : unT P .neg (.int .u32 x) w K = K (.int .u32 (IntKind.u32.wrap (0 - x))) w := by
 simp [unT, jv, Op.unary, Op.intArith, Sem.run_pure]
theorem bgc : unT P .xor (.int .u32 x) w K = K (.int .u32 (IntKind.u32.wrap (BitVec.ofInt IntKind.u32.bits IntKind.u32.max ^^^ BitVec.ofInt IntKind.u32.bits x).toNat)) w := by
 have e : (if IntKind.u32.signed = true then (-1 : Int) else IntKind.u32.max) = IntKind.u32.max := if_neg (by decide)
 unfold unT jv
 simp only [Op.unary, e, Op.intBits, Sem.run_pure]
end
end Go.Eng
namespace Go.Proofs.YtfnhoaemapheoaaGreat
open Go.Eng Go.Proofs.YtfnhoaemapheoaaGreat.Sint
def avi (a b : Int) : Int := IntKind.u32.wrap (BitVec.ofInt IntKind.u32.bits a ^^^ BitVec.ofInt IntKind.u32.bits b).toNat
def bga (a b : Int) : Int := IntKind.u32.wrap (BitVec.ofInt IntKind.u32.bits a &&& BitVec.ofInt IntKind.u32.bits b).toNat
def orE (a b : Int) : Int := IntKind.u32.wrap (BitVec.ofInt IntKind.u32.bits a ||| BitVec.ofInt IntKind.u32.bits b).toNat
def orL (a b : Int) : Int := IntKind.u64.wrap (BitVec.ofInt IntKind.u64.bits a ||| BitVec.ofInt IntKind.u64.bits b).toNat
def ald (a : Int) : Int := avi IntKind.u32.max a
def acr (r : Int) : Int := avi (r.fdiv (2 ^ min (1 : Int).toNat IntKind.u32.bits)) (bga 3988292384 (IntKind.u32.wrap (0 - bga r 1)))
def vn (f : Int → Int) : Nat → Int → Int
 | 0, r => r
 | n + 1, r => f (vn f n r)
def afc (r : Int) (c : Int) : Int := vn acr 8 (avi r (IntKind.u32.wrap c))
def abk (l : List Int) : Int := ald (l.foldl afc (ald 0))
theorem ape {t : TypeId} {rx ry : Operand} {x y : Int} {w : World} {K : KV} : ij P .xor t rx ry (.int .u32 x) (.int .u32 y) w K = K (.int .u32 (avi x y)) w := axn
theorem aow {t : TypeId} {rx ry : Operand} {x y : Int} {w : World} {K : KV} : ij P .and t rx ry (.int .u32 x) (.int .u32 y) w K = K (.int .u32 (bga x y)) w := ayj
theorem bge {t : TypeId} {rx ry : Operand} {x y : Int} {w : World} {K : KV} : ij P .or t rx ry (.int .u32 x) (.int .u32 y) w K = K (.int .u32 (orE x y)) w := bcu
theorem bhp {t : TypeId} {rx ry : Operand} {x y : Int} {w : World} {K : KV} : ij P .or t rx ry (.int .u64 x) (.int .u64 y) w K = K (.int .u64 (orL x y)) w := bcu
theorem ava {x : Int} {w : World} {K : KV} : unT P .xor (.int .u32 x) w K = K (.int .u32 (ald x)) w := bgc
def StI (w : World) (r : Int) (n : Nat) : KL := fun x w1 => ∃ (i : Nat), x = [.int .u32 (vn acr i r), .int .i64 (i : Nat)] ∧ w1 = w ∧ i ≤ n
theorem bih {w : World} {r : Int} {n : Nat} (hn : n ≤ 1000000) {K : KV} (h : K (.int .u32 (vn acr n r)) w) : gr P F.fs [.int .u32 r, .int .i64 (n : Nat)] w K := by
 rw [M.er.fcall]
 apply M.er.calls
 unfold M.er
 rw [ib]
 refine ⟨StI w r n, fun x _ => n - ms x 1, ⟨0, rfl, rfl, Nat.zero_le _⟩, ?_⟩
 rintro x w1 ⟨i, rfl, rfl, hi⟩
 have q0 : gv [.int .u32 (vn acr i r), .int .i64 (i : Nat)] 0 = .int .u32 (vn acr i r) := rfl
 have q1 : gv [.int .u32 (vn acr i r), .int .i64 (i : Nat)] 1 = .int .i64 (i : Nat) := rfl
 simp only [q0, q1, ib]
 by_cases hil : i < n
 ·have hil' : (i : Int) < n := by omega
  have hwi : IntKind.i64.wrap ((i : Int) + 1) = ((i + 1 : Nat) : Int) := by rw [ig]; rfl
  simp [hil']
  unfold M.er.j2
  simp only [q0, q1, ib]
  rw [aco (by omega), aow, bfw, aow, ape]
  simp only [kz]
  rw [hwi]
  exact ⟨⟨i + 1, rfl, rfl, by omega⟩, by simp [ms, gv]; omega⟩
 ·have hil' : ¬ (i : Int) < n := by omega
  have he : i = n := by omega
  subst he
  simp
  exact h
def MoI (w : World) (l : List Int) (s : Int) : KL := fun x w1 => ∃ (u : Value) (i : Nat), x = [u, .int .u32 ((l.take i).foldl afc (ald s)), .int .i64 (i : Nat)] ∧ w1 = w ∧ i ≤ l.length
theorem bdb {w : World} {v : Value} {l : List Int} (hs : SlB w v l) (hl : l.length ≤ 1000000000) {K : KV} (h : K (.int .u32 (abk l)) w) : gr P F.ft [v] w K := by
 rw [M.fg.fcall]
 apply M.fg.calls
 unfold M.fg
 rw [M.eu.fcall]
 apply M.eu.calls
 unfold M.eu
 rw [ava, ib, hs.jb (by kernel_rfl)]
 refine ⟨MoI w l 0, fun x _ => l.length - ms x 2, ⟨_, 0, rfl, rfl, Nat.zero_le _⟩, ?_⟩
 rintro x w1 ⟨u, i, rfl, rfl, hi⟩
 generalize hf : (l.take i).foldl afc (ald 0) = f
 have q0 : gv [u, .int .u32 f, .int .i64 (i : Nat)] 0 = u := rfl
 have q1 : gv [u, .int .u32 f, .int .i64 (i : Nat)] 1 = .int .u32 f := rfl
 have q2 : gv [u, .int .u32 f, .int .i64 (i : Nat)] 2 = .int .i64 (i : Nat) := rfl
 simp only [q2, ib]
 by_cases hil : i < l.length
 ·have hil' : (i : Int) < l.length := by omega
  have hwi : IntKind.i64.wrap ((i : Int) + 1) = ((i + 1 : Nat) : Int) := by rw [ig]; rfl
  obtain ⟨b, o, cap, hv, _, _, hc⟩ := hs.at hil
  have c0 := hc 0 _ rfl
  simp only [Nat.mul_one, Nat.add_zero] at c0
  have htk : (l.take (i + 1)).foldl afc (ald 0) = afc f l[i] := by
   rw [List.take_succ_eq_append_getElem hil, List.foldl_append, hf]; rfl
  generalize l[i] = c at *
  simp [hil']
  unfold M.eu.j2
  simp only [q1, q2, ib]
  rw [hv]
  simp [hil, c0]
  rw [pj (ks := .u8) (kd := .u32) (by kernel_rfl) (by kernel_rfl), ape]
  refine bih (n := 8) (by omega) ?_
  rw [hwi]
  exact ⟨⟨.int .u8 c, i + 1, by rw [htk]; rfl, rfl, by omega⟩, by simp [ms, gv]; omega⟩
 ·have hil' : ¬ (i : Int) < l.length := by omega
  simp [hil']
  rw [List.take_of_length_le (by omega)] at hf
  have q4 : gv [v, .int .i64 (l.length : Nat), .int .i64 (i : Nat), u, .int .u32 f] 4 = .int .u32 f := rfl
  try simp only [q0, q1, q4]
  rw [ava, ← hf]
  exact h
def b8 (x : Int) : Int := IntKind.u8.wrap x
def s8 (x : Int) : Int := x.fdiv (2 ^ min (8 : Int).toNat IntKind.u32.bits)
def xc (n : Int) : List Int := (List.range 4).map fun i => b8 (vn s8 i n)
section
variable {w0 w : World} {R : List Asn} {v : Value} {l : List Int}
theorem bmf (S : St w0 w R) (x : Int) : St w0 (w.alloc (.cells #[.int .u8 x] T.ao)) (ky (.slice (some ⟨w.heap.size, 0, none⟩) 1 1) [x] :: R) := St.su (l := [x]) S ka rfl (by unfold maxLen; simp)
def P3I (w0 : World) (l : List Int) (n : Int) (R : List Asn) : KL := fun x w1 => ∃ (v : Value) (i : Nat), x = [v, .int .u32 (vn s8 i n), .int .i64 (i : Nat)] ∧ i ≤ 4 ∧ St w0 w1 (ky v (l ++ (xc n).take i) :: R)
theorem tw (n : Int) : (xc n).length = 4 := by simp [xc]
theorem bae (n : Int) {i : Nat} (hi : i < 4) : (xc n).take (i + 1) = (xc n).take i ++ [b8 (vn s8 i n)] := by
 rw [List.take_succ_eq_append_getElem (by rw [tw]; exact hi)]
 simp [xc]
theorem ark (S : St w0 w (ky v l :: R)) (hl : l.length ≤ 100000000) (n : Int) {K : KV} (h : ∀ w' v', St w0 w' (ky v' (l ++ xc n) :: R) → K v' w') : gr P F.fh [v, .int .u32 n] w K := by
 rw [M.ep.fcall]
 apply M.ep.calls
 unfold M.ep
 rw [ib]
 refine ⟨P3I w0 l n R, fun x _ => 4 - ms x 2, ⟨v, 0, rfl, by omega, by simpa using S⟩, ?_⟩
 rintro x w1 ⟨v, i, rfl, hi, S⟩
 have q0 : gv [v, .int .u32 (vn s8 i n), .int .i64 (i : Nat)] 0 = v := rfl
 have q1 : gv [v, .int .u32 (vn s8 i n), .int .i64 (i : Nat)] 1 = .int .u32 (vn s8 i n) := rfl
 have q2 : gv [v, .int .u32 (vn s8 i n), .int .i64 (i : Nat)] 2 = .int .i64 (i : Nat) := rfl
 simp only [q2, ib]
 by_cases hil : i < 4
 ·have hil' : (i : Int) < 4 := by omega
  have hwi : IntKind.i64.wrap ((i : Int) + 1) = ((i + 1 : Nat) : Int) := by rw [ig]; rfl
  simp [hil']
  unfold M.ep.j2
  simp only [q0, q1, q2, ib]
  rw [pj (ks := .u32) (kd := .u8) (by kernel_rfl) (by kernel_rfl)]
  simp
  have S1 := bmf S (b8 (vn s8 i n))
  refine Go.Eng.qj et.f ka xo S1.swap (l2 := [b8 (vn s8 i n)]) (S1.row ka) (by simp [tw]; omega) (by decide) fun w2 v2 S2 => ?_
  rw [aco (by omega), hwi]
  refine ⟨⟨v2, i + 1, rfl, by omega, ?_⟩, by simp [ms, gv]; omega⟩
  rw [bae n hil, ← List.append_assoc]
  exact S2.swap.drop
 ·have hil' : ¬ (i : Int) < 4 := by omega
  have he : i = 4 := by omega
  subst he
  simp
  rw [List.take_of_length_le (by rw [tw]; omega)] at S
  exact h w1 v S
def shE (c : Int) (i : Nat) : Int := IntKind.u32.wrap (IntKind.u32.wrap c * 2 ^ min (8 * i) IntKind.u32.bits)
def aby (l : List Int) : Nat → Int
 | 0 => 0
 | i + 1 => orE (aby l i) (shE (l.getD i 0) i)
def zg (l : List Int) : Int := aby l 4
def U3I (w : World) (l : List Int) : KL := fun x w1 => ∃ (u0 u1 : Value) (i : Nat), x = [u0, u1, .int .u32 (aby l i), .int .i64 (i : Nat)] ∧ w1 = w ∧ i ≤ 4
theorem bck (hs : SlB w v l) (hl : 4 ≤ l.length) {K : KV} (h : K (.int .u32 (zg l)) w) : gr P F.fu [v] w K := by
 rw [M.fd.fcall]
 apply M.fd.calls
 unfold M.fd
 obtain ⟨v', s', _, hsub⟩ := hs.sub (P := P) (t := T.f) (lo := none) (hi := some (.int .i64 (4 : Nat))) (i := 0) (j := 4) (by kernel_rfl) (by kernel_rfl) (.inl ⟨rfl, rfl⟩) (.inr ⟨_, rfl⟩) (Nat.zero_le _) hl
 have e4 : (List.take (4 - 0) (List.drop 0 l)) = l.take 4 := by simp
 rw [e4] at s'
 have hsub' : ∀ w1 K, slT P T.f v none (some (.int .i64 4)) none w1 K = K v' w1 := hsub
 have hl4 : (l.take 4).length = 4 := by simp; omega
 rw [ib, hsub', s'.jb (by kernel_rfl), hl4]
 refine ⟨U3I w l, fun x _ => 4 - ms x 3, ⟨_, _, 0, rfl, rfl, by omega⟩, ?_⟩
 rintro x w1 ⟨u0, u1, i, rfl, rfl, hi⟩
 have q2 : gv [u0, u1, .int .u32 (aby l i), .int .i64 (i : Nat)] 2 = .int .u32 (aby l i) := rfl
 have q3 : gv [u0, u1, .int .u32 (aby l i), .int .i64 (i : Nat)] 3 = .int .i64 (i : Nat) := rfl
 have q0 : gv [u0, u1, .int .u32 (aby l i), .int .i64 (i : Nat)] 0 = u0 := rfl
 have q1 : gv [u0, u1, .int .u32 (aby l i), .int .i64 (i : Nat)] 1 = u1 := rfl
 simp only [q3, ib]
 by_cases hil : i < 4
 ·have hil' : (i : Int) < ((4 : Nat) : Int) := by omega
  have hwi : IntKind.i64.wrap ((i : Int) + 1) = ((i + 1 : Nat) : Int) := by rw [ig]; rfl
  have hw8 : IntKind.i64.wrap (8 * (i : Int)) = ((8 * i : Nat) : Int) := by rw [ig]; omega
  have hwu : IntKind.u64.wrap (8 * (i : Int)) = 8 * (i : Int) := adp (by omega) (by omega)
  have ht8 : (8 * (i : Int)).toNat = 8 * i := by omega
  obtain ⟨b, o, cap, hv, _, _, hc⟩ := s'.at (i := i) (by omega)
  have c0 := hc 0 _ rfl
  simp only [Nat.mul_one, Nat.add_zero] at c0
  have hgd : l.getD i 0 = (l.take 4)[i]'(by omega) := by
   rw [List.getD_eq_getElem?_getD, List.getElem?_eq_getElem (by omega), List.getElem_take]; rfl
  rw [← hgd] at c0
  rw [hl4] at hv
  have e : aby l (i + 1) = orE (aby l i) (shE (l.getD i 0) i) := rfl
  generalize l.getD i 0 = c at *
  simp only [lw]
  rw [decide_eq_true hil', Eng.cond_true]
  unfold M.fd.j2
  simp only [q0, q1, q2, q3, ib, vx, hw8]
  rw [hv]
  rw [abe (by kernel_rfl) (by omega) (by omega)]
  have hz : szE P T.f = 1 := by kernel_rfl
  rw [hz]
  simp [c0]
  rw [pj (ks := .u8) (kd := .u32) (by kernel_rfl) (by kernel_rfl), pj (ks := .i64) (kd := .u64) (by kernel_rfl) (by kernel_rfl), hwu, aff (by omega), ht8, bge, hwi]
  exact ⟨⟨_, _, i + 1, by rw [e]; rfl, rfl, by omega⟩, by simp [ms, gv]; omega⟩
 ·have hil' : ¬ (i : Int) < 4 := by omega
  have he : i = 4 := by omega
  subst he
  simp
  exact h
def mh (n : Int) : List Int := (List.range 8).map fun k => b8 (n.fdiv (2 ^ min (56 - 8 * k) IntKind.u64.bits))
theorem mj (n : Int) : (mh n).length = 8 := by simp [mh]
theorem azv (n : Int) {k : Nat} (hk : k < 8) : (mh n).take (k + 1) = (mh n).take k ++ [b8 (n.fdiv (2 ^ min (56 - 8 * k) IntKind.u64.bits))] := by
 rw [List.take_succ_eq_append_getElem (by rw [mj]; exact hk)]
 simp [mh]
def P6I (w0 : World) (l : List Int) (n : Int) (R : List Asn) : KL := fun x w1 => ∃ (v : Value) (k : Nat), x = [v, .int .i64 (56 - 8 * (k : Int))] ∧ k ≤ 8 ∧ St w0 w1 (ky v (l ++ (mh n).take k) :: R)
def bmd (x : List Value) : Nat := match gv x 1 with
 | .int _ k => (k + 8).toNat
 | _ => 0
theorem agw (S : St w0 w (ky v l :: R)) (hl : l.length ≤ 100000000) (n : Int) {K : KV} (h : ∀ w' v', St w0 w' (ky v' (l ++ mh n) :: R) → K v' w') : gr P F.ex [v, .int .u64 n] w K := by
 rw [M.em.fcall]
 apply M.em.calls
 unfold M.em
 rw [ib]
 refine ⟨P6I w0 l n R, fun x _ => bmd x, ⟨v, 0, rfl, by omega, by simpa using S⟩, ?_⟩
 rintro x w1 ⟨v, k, rfl, hk, S⟩
 have q0 : gv [v, .int .i64 (56 - 8 * (k : Int))] 0 = v := rfl
 have q1 : gv [v, .int .i64 (56 - 8 * (k : Int))] 1 = .int .i64 (56 - 8 * (k : Int)) := rfl
 simp only [q1, ib]
 by_cases hil : k < 8
 ·have hil' : (0 : Int) ≤ 56 - 8 * (k : Int) := by omega
  have hwu : IntKind.u64.wrap (56 - 8 * (k : Int)) = 56 - 8 * (k : Int) := adp (by omega) (by omega)
  have hwi : IntKind.i64.wrap (56 - 8 * (k : Int) - 8) = 56 - 8 * ((k + 1 : Nat) : Int) := by rw [ig]; omega
  have htn : (56 - 8 * (k : Int)).toNat = 56 - 8 * k := by omega
  simp only [sg]
  rw [decide_eq_true hil']
  simp only [ia]
  unfold M.em.j2
  simp only [q0, q1, ib]
  rw [pj (ks := .i64) (kd := .u64) (by kernel_rfl) (by kernel_rfl), hwu, aco hil', htn, pj (ks := .u64) (kd := .u8) (by kernel_rfl) (by kernel_rfl)]
  simp
  have S1 := bmf S (b8 (n.fdiv (2 ^ min (56 - 8 * k) IntKind.u64.bits)))
  refine Go.Eng.qj et.f ka xo S1.swap (l2 := [b8 (n.fdiv (2 ^ min (56 - 8 * k) IntKind.u64.bits))]) (S1.row ka) (by simp [mj]; omega) (by decide) fun w2 v2 S2 => ?_
  rw [hwi]
  refine ⟨⟨v2, k + 1, rfl, by omega, ?_⟩, by simp [bmd, gv]; omega⟩
  rw [azv n hil, ← List.append_assoc]
  exact S2.swap.drop
 ·have hil' : ¬ (0 : Int) ≤ 56 - 8 * (k : Int) := by omega
  simp only [sg]
  rw [decide_eq_false hil']
  simp only [ia]
  rw [List.take_of_length_le (by rw [mj]; omega)] at S
  exact h w1 v S
def abw (l : List Int) : Nat → Int
 | 0 => 0
 | i + 1 => orL (IntKind.u64.wrap (abw l i * 2 ^ min (8 : Int).toNat IntKind.u64.bits)) (IntKind.u64.wrap (l.getD i 0))
def alc (l : List Int) : Int := abw l 8
def U6I (w : World) (l : List Int) : KL := fun x w1 => ∃ (u0 : Value) (i : Nat), x = [u0, .int .u64 (abw l i), .int .i64 (i : Nat)] ∧ w1 = w ∧ i ≤ 8
theorem amw (hs : SlB w v l) (hl : 8 ≤ l.length) {K : KV} (h : K (.int .u64 (alc l)) w) : gr P F.ff [v] w K := by
 rw [M.fa.fcall]
 apply M.fa.calls
 unfold M.fa
 obtain ⟨v', s', _, hsub⟩ := hs.sub (P := P) (t := T.f) (lo := none) (hi := some (.int .i64 (8 : Nat))) (i := 0) (j := 8) (by kernel_rfl) (by kernel_rfl) (.inl ⟨rfl, rfl⟩) (.inr ⟨_, rfl⟩) (Nat.zero_le _) hl
 have e4 : (List.take (8 - 0) (List.drop 0 l)) = l.take 8 := by simp
 rw [e4] at s'
 have hsub' : ∀ w1 K, slT P T.f v none (some (.int .i64 8)) none w1 K = K v' w1 := hsub
 have hl4 : (l.take 8).length = 8 := by simp; omega
 rw [ib, hsub', s'.jb (by kernel_rfl), hl4]
 refine ⟨U6I w l, fun x _ => 8 - ms x 2, ⟨_, 0, rfl, rfl, by omega⟩, ?_⟩
 rintro x w1 ⟨u0, i, rfl, rfl, hi⟩
 have q1 : gv [u0, .int .u64 (abw l i), .int .i64 (i : Nat)] 1 = .int .u64 (abw l i) := rfl
 have q2 : gv [u0, .int .u64 (abw l i), .int .i64 (i : Nat)] 2 = .int .i64 (i : Nat) := rfl
 have q0 : gv [u0, .int .u64 (abw l i), .int .i64 (i : Nat)] 0 = u0 := rfl
 simp only [q2, ib]
 by_cases hil : i < 8
 ·have hil' : (i : Int) < ((8 : Nat) : Int) := by omega
  have hwi : IntKind.i64.wrap ((i : Int) + 1) = ((i + 1 : Nat) : Int) := by rw [ig]; rfl
  obtain ⟨b, o, cap, hv, _, _, hc⟩ := s'.at (i := i) (by omega)
  have c0 := hc 0 _ rfl
  simp only [Nat.mul_one, Nat.add_zero] at c0
  have hgd : l.getD i 0 = (l.take 8)[i]'(by omega) := by
   rw [List.getD_eq_getElem?_getD, List.getElem?_eq_getElem (by omega), List.getElem_take]; rfl
  rw [← hgd] at c0
  rw [hl4] at hv
  have e : abw l (i + 1) = orL (IntKind.u64.wrap (abw l i * 2 ^ min (8 : Int).toNat IntKind.u64.bits)) (IntKind.u64.wrap (l.getD i 0)) := rfl
  generalize l.getD i 0 = c at *
  simp only [lw]
  rw [decide_eq_true hil', Eng.cond_true]
  unfold M.fa.j2
  simp only [q0, q1, q2, ib]
  rw [hv]
  rw [abe (by kernel_rfl) (by omega) (by omega)]
  have hz : szE P T.f = 1 := by kernel_rfl
  rw [hz]
  simp [c0]
  rw [aff (by omega), pj (ks := .u8) (kd := .u64) (by kernel_rfl) (by kernel_rfl), bhp, hwi]
  exact ⟨⟨_, i + 1, by rw [e], rfl, by omega⟩, by simp [ms, gv]; omega⟩
 ·have hil' : ¬ (i : Int) < 8 := by omega
  have he : i = 8 := by omega
  subst he
  simp
  exact h
theorem aqx {n : Nat} (h : n < 4294967296) : IntKind.u32.wrap (n : Int) = n := by
 show (if (false && decide ((n : Int) % 4294967296 ≥ 2147483648)) = true then (n : Int) % 4294967296 - 4294967296 else (n : Int) % 4294967296) = n
 simp; omega
theorem bct {n : Nat} (h : n < 4294967296) : (BitVec.ofInt IntKind.u32.bits (n : Int)).toNat = n := by
 show (BitVec.ofInt 32 (n : Int)).toNat = n
 rw [BitVec.toNat_ofInt]; omega
theorem ajq {a c i : Nat} (ha : a < 2 ^ i) (hc : 2 ^ i * c + a < 4294967296) : orE (a : Int) ((2 ^ i * c : Nat) : Int) = ((2 ^ i * c + a : Nat) : Int) := by
 unfold orE
 rw [BitVec.toNat_or, bct (by omega), bct (by omega), Nat.or_comm, ← Nat.two_pow_add_eq_or_of_lt ha, aqx hc]
theorem bjx {a c : Nat} (ha : a < 256) (hc : 256 * c + a < 18446744073709551616) : orL ((256 * c : Nat) : Int) (a : Int) = ((256 * c + a : Nat) : Int) := by
 have := Nat.two_pow_add_eq_or_of_lt (i := 8) (b := a) ha c
 unfold orL
 rw [BitVec.toNat_or]
 have h1 : (BitVec.ofInt IntKind.u64.bits ((256 * c : Nat) : Int)).toNat = 256 * c := anc (by omega)
 have h2 : (BitVec.ofInt IntKind.u64.bits (a : Int)).toNat = a := anc (by omega)
 rw [h1, h2, ← this, ace hc]
theorem aig {n : Nat} : b8 (n : Int) = ((n % 256 : Nat) : Int) := by
 unfold b8
 show (if (false && decide ((n : Int) % 256 ≥ 128)) = true then (n : Int) % 256 - 256 else (n : Int) % 256) = _
 simp
theorem auy {n : Nat} : s8 (n : Int) = ((n / 256 : Nat) : Int) := aje n 8
theorem ail {n : Nat} (hn : n < 4294967296) (r : List Int) : zg (xc (n : Int) ++ r) = n := by
 have e : xc (n : Int) = [((n % 256 : Nat) : Int), ((n / 256 % 256 : Nat) : Int), ((n / 256 / 256 % 256 : Nat) : Int), ((n / 256 / 256 / 256 % 256 : Nat) : Int)] := by
  show [b8 (n : Int), b8 (s8 n), b8 (s8 (s8 n)), b8 (s8 (s8 (s8 n)))] = _
  rw [auy, auy, auy, aig, aig, aig, aig]
 rw [e]
 generalize h0 : n % 256 = c0
 generalize h1 : n / 256 % 256 = c1
 generalize h2 : n / 256 / 256 % 256 = c2
 generalize h3 : n / 256 / 256 / 256 % 256 = c3
 have sh : ∀ (c i : Nat), c < 256 → i < 4 → 2 ^ (8 * i) * c < 4294967296 → shE (c : Int) i = ((2 ^ (8 * i) * c : Nat) : Int) := fun c i hc hi hb => by
  unfold shE
  rw [aqx (by omega)]
  have hm : min (8 * i) IntKind.u32.bits = 8 * i := Nat.min_eq_left (by show 8 * i ≤ 32; omega)
  rw [hm]
  have : (c : Int) * 2 ^ (8 * i) = ((2 ^ (8 * i) * c : Nat) : Int) := by rw [Int.mul_comm]; simp
  rw [this, aqx hb]
 show orE (orE (orE (orE 0 (shE (c0 : Int) 0)) (shE (c1 : Int) 1)) (shE (c2 : Int) 2)) (shE (c3 : Int) 3) = n
 rw [sh c0 0 (by omega) (by omega) (by simp; omega), sh c1 1 (by omega) (by omega) (by simp; omega), sh c2 2 (by omega) (by omega) (by simp; omega), sh c3 3 (by omega) (by omega) (by simp; omega)]
 have z0 := ajq (a := 0) (c := c0) (i := 0) (by simp) (by simp; omega)
 have z1 := ajq (a := c0) (c := c1) (i := 8) (by simp; omega) (by simp; omega)
 have z2 := ajq (a := 256 * c1 + c0) (c := c2) (i := 16) (by simp; omega) (by simp; omega)
 have z3 := ajq (a := 65536 * c2 + (256 * c1 + c0)) (c := c3) (i := 24) (by simp; omega) (by simp; omega)
 simp only [Nat.mul_zero, Nat.pow_zero, Nat.one_mul, Nat.add_zero, Nat.mul_one] at z0 z1 z2 z3 ⊢
 rw [show ((0 : Int)) = ((0 : Nat) : Int) from rfl, z0, z1]
 rw [show 2 ^ 8 * c1 + c0 = 256 * c1 + c0 from rfl, show 8 * 2 = 16 from rfl, z2, show 2 ^ 16 * c2 + (256 * c1 + c0) = 65536 * c2 + (256 * c1 + c0) from rfl, show 8 * 3 = 24 from rfl, z3]
 congr 1
 show 16777216 * c3 + (65536 * c2 + (256 * c1 + c0)) = n
 omega
theorem apq {n : Nat} (hn : n < 18446744073709551616) (r : List Int) : alc (mh (n : Int) ++ r) = n := by
 have hb : ∀ k, k < 8 → (mh (n : Int) ++ r).getD k 0 = ((n / 2 ^ (56 - 8 * k) % 256 : Nat) : Int) := fun k hk => by
  rw [List.getD_eq_getElem?_getD, List.getElem?_append_left (by rw [mj]; exact hk)]
  unfold mh
  rw [List.getElem?_map, List.getElem?_range hk]
  show b8 ((n : Int).fdiv (2 ^ min (56 - 8 * k) IntKind.u64.bits)) = _
  have hm : min (56 - 8 * k) IntKind.u64.bits = 56 - 8 * k := Nat.min_eq_left (by show 56 - 8 * k ≤ 64; omega)
  rw [hm, aje, aig]
 have key : ∀ i, i ≤ 8 → abw (mh (n : Int) ++ r) i = ((n / 2 ^ (64 - 8 * i) : Nat) : Int) := by
  intro i
  induction i with
  | zero => intro _; show (0 : Int) = _; simp; omega
  | succ i ih =>
   intro hi
   show orL (IntKind.u64.wrap (abw (mh (n : Int) ++ r) i * 2 ^ 8)) (IntKind.u64.wrap ((mh (n : Int) ++ r).getD i 0)) = _
   rw [ih (by omega), hb i (by omega)]
   have e1 : n / 2 ^ (64 - 8 * i) = n / 2 ^ (56 - 8 * i) / 256 := by
    rw [Nat.div_div_eq_div_mul]
    congr 1
    rw [show (256 : Nat) = 2 ^ 8 from rfl, ← Nat.pow_add]
    congr 1; omega
   have e2 : 64 - 8 * (i + 1) = 56 - 8 * i := by omega
   rw [e1, e2]
   have hlt : n / 2 ^ (56 - 8 * i) ≤ n := Nat.div_le_self _ _
   generalize n / 2 ^ (56 - 8 * i) = m at *
   have e3 : ((m / 256 : Nat) : Int) * 2 ^ 8 = ((256 * (m / 256) : Nat) : Int) := by rw [Int.mul_comm]; simp
   rw [e3, ace (by omega), ace (by omega), bjx (by omega) (by omega)]
   congr 1; omega
 show abw _ 8 = _
 rw [key 8 (by omega)]; simp
theorem ajz (z : Int) : ∃ n : Nat, IntKind.u32.wrap z = (n : Int) ∧ n < 4294967296 := by
 have : IntKind.u32.wrap z = z % 4294967296 := by
  show (if (false && decide (z % 4294967296 ≥ 2147483648)) = true then z % 4294967296 - 4294967296 else z % 4294967296) = _
  simp
 exact ⟨(z % 4294967296).toNat, by rw [this]; omega, by omega⟩
theorem atu (l : List Int) : ∃ n : Nat, abk l = (n : Int) ∧ n < 4294967296 := by
 unfold abk
 rw [ald, avi]
 exact ajz _
end
end Go.Proofs.YtfnhoaemapheoaaGreat
