/-
  Sorting a row of whole numbers: the partial insertion sort, the range turned round. No condition.
-/
import Derived.Test.YtfnhoaemapheoaaGreatZSpn0
import Derived.Test.YtfnhoaemapheoaaGreatZEngSl
import Derived.Test.YtfnhoaemapheoaaGreatM
import Derived.Test.YtfnhoaemapheoaaGreatFacts
set_option maxRecDepth 100000
namespace Go.Proofs.YtfnhoaemapheoaaGreat.SG
open Go.Eng Go.Sort
variable [SE]
def RvI (w : World) (g : Nat) (e : TypeId) (cap n : Nat) (R : Array Int) : KL := fun x w1 => ∃ (i j : Nat) (d : Array Int), x = [.int .i64 (i : Int), .int .i64 (j : Int)] ∧ Rf w w1 g e cap d ∧ d.size = n ∧ i ≤ n ∧ j < n ∧ reverseLoop i j d = R
theorem azr {w : World} {g cap n : Nat} {e : TypeId} {d : Array Int} (H : Rw w g e cap d) (hn : d.size = n) (h6 : n < 100000) {a b : Nat} (hb : b ≤ n) (hab : a < b) {K : KV}
  (h : ∀ w', Rf w w' g e cap (reverseRange d a b) → K (.tuple #[]) w') : kg P F.gd [.slice (some ⟨g, 0, none⟩) n cap, .int .i64 a, .int .i64 b] w K := by
 apply M.dy.calls
 unfold M.dy
 have hw2 : IntKind.i64.wrap ((b : Int) - 1) = ((b - 1 : Nat) : Int) := by rw [ia]; omega
 simp only [lk, hw2]
 unfold reverseRange at h
 generalize hR : reverseLoop a (b - 1) d = R at *
 refine ⟨RvI w g e cap n R, fun x _ => ms x 1 - ms x 0, ⟨a, b - 1, d, rfl, H.xe, hn, by omega, by omega, hR⟩, ?_⟩
 clear hR
 rintro x w1 ⟨i, j, d1, rfl, H1, hn1, hi, hj, hR⟩
 simp only [gp, g20, g21]
 unfold reverseLoop at hR
 by_cases hij : i < j
 ·have hij' : (i : Int) < j := by omega
  rw [if_pos hij] at hR
  simp only [lh, hij', decide_true, Eng.cond_true]
  unfold M.dy.j1
  have c1 := H1.row.at (show i < d1.size by omega)
  have c2 := H1.row.at (show j < d1.size by omega)
  have e1 : (i : Int) < n := by omega
  have e2 : (j : Int) < n := by omega
  have f1 := H1.row.frz i
  have f2 := H1.row.frz j
  have hw3 : IntKind.i64.wrap ((i : Int) + 1) = ((i + 1 : Nat) : Int) := qr (by omega)
  have hw4 : IntKind.i64.wrap ((j : Int) - 1) = ((j - 1 : Nat) : Int) := by rw [ia]; omega
  simp [g20, g21, e1, e2, c1, c2, f1, f2, ka, kj, hw3, hw4, -Int.natCast_add]
  refine ⟨⟨i + 1, j - 1, _, rfl, (H1.dr 1).swp (by omega) (by omega), by rw [size_swp]; exact hn1, by omega, by omega, hR⟩, ?_⟩
  simp [ms, gv]; omega
 ·have hij' : ¬ (i : Int) < j := by omega
  rw [if_neg hij] at hR
  subst hR
  simp only [lh, hij', decide_false, Eng.cond_false]
  exact h w1 H1
omit [SE] in
theorem apt (d : Array Int) (b : Nat) : ∀ m i, b - i ≤ m → i ≤ b → i ≤ scanSorted ltInt d b i ∧ scanSorted ltInt d b i ≤ b := by
 intro m
 induction m with
 | zero =>
  intro i hm hi
  unfold scanSorted
  rw [if_neg (by simp; omega)]
  omega
 | succ m ih =>
  intro i hm hi
  unfold scanSorted
  split
  ·rename_i h
   simp at h
   have := ih (i + 1) (by omega) (by omega)
   omega
  ·omega
omit [SE] in
theorem aez : ∀ (j : Nat) (d : Array Int), (shiftDown ltInt j d).size = d.size
 | 0, _ => rfl
 | j + 1, d => by
  unfold shiftDown
  split
  ·rfl
  ·rw [aez j, size_swp]
omit [SE] in
theorem atc (b : Nat) : ∀ (m j : Nat) (d : Array Int), b - j ≤ m → (shiftUp ltInt b j d).size = d.size := by
 intro m
 induction m with
 | zero =>
  intro j d hm
  unfold shiftUp
  rw [if_neg (by omega)]
 | succ m ih =>
  intro j d hm
  unfold shiftUp
  split
  ·split
   ·rfl
   ·rw [ih _ _ (by omega), size_swp]
  ·rfl
section
variable {w : World} {g cap n : Nat} {e : TypeId} {d : Array Int}
def SsI (w : World) (g : Nat) (e : TypeId) (cap : Nat) (d : Array Int) (a b r : Nat) : KL := fun x w1 => ∃ i : Nat, x = [.int .i64 (i : Int)] ∧ Rf w w1 g e cap d ∧ a < i ∧ i ≤ b ∧ scanSorted ltInt d b i = r
theorem bgb (H : Rw w g e cap d) (hn : d.size = n) (h6 : n < 100000) {a b i : Nat} (hb : b ≤ n) (ha : a < i) (hi : i ≤ b) {K4 : KL} {K : KV}
  (h : ∀ w', Rf w w' g e cap d → K4 [.int .i64 (scanSorted ltInt d b i : Nat)] w') :
  gj (fun K4 => jd [.int .i64 (i : Int)] w fun K5 x5 w => M.aj.j5 x5 (.int .i64 (b : Int)) (.slice (some ⟨g, 0, none⟩) n cap) K4 K5 w K) K4 := by
 rw [gp]
 generalize hr : scanSorted ltInt d b i = r at *
 refine ⟨SsI w g e cap d a b r, fun x _ => b - ms x 0, ⟨i, rfl, H.xe, ha, hi, hr⟩, ?_⟩
 clear hr
 rintro x w1 ⟨k, rfl, H1, hak, hkb, hR⟩
 unfold M.aj.j5
 unfold scanSorted at hR
 by_cases hk : k < b
 ·have a1 := H1.row.at (show k < d.size by omega)
  have a2 := H1.row.at (show k - 1 < d.size by omega)
  have b1 : (k : Int) < n := by omega
  have b2 : ((k - 1 : Nat) : Int) < n := by omega
  have b3 : (k : Int) < b := by omega
  have hw : IntKind.i64.wrap ((k : Int) - 1) = ((k - 1 : Nat) : Int) := by rw [ia]; omega
  simp [g0, b1, b2, b3, a1, a2, hw]
  refine sd _ _ ?_
  cases hl : ltInt d[k]! d[k - 1]! with
  | true =>
   rw [if_neg (by simp [hl])] at hR
   simp
   rw [← hR] at h
   exact h _ (H1.dr 1)
  | false =>
   rw [if_pos (by simp [hl, hk])] at hR
   simp [qr (show k < 1000000 by omega)]
   refine ⟨⟨k + 1, by simp, H1.dr 1, by omega, by omega, hR⟩, ?_⟩
   simp [ms, gv]; omega
 ·have b3 : ¬ (k : Int) < b := by omega
  rw [if_neg (by simp [hk])] at hR
  simp [g0, b3]
  rw [← hR] at h
  exact h _ (H1.dr 1)
def SdI (w : World) (g : Nat) (e : TypeId) (cap n : Nat) (R : Array Int) : KL := fun x w1 => ∃ (j : Nat) (d : Array Int), x = [.int .i64 (j : Int)] ∧ Rf w w1 g e cap d ∧ d.size = n ∧ j < n ∧ shiftDown ltInt j d = R
theorem bfp (H : Rw w g e cap d) (hn : d.size = n) (h6 : n < 100000) {j : Nat} (hj : j < n) {K9 : KL} {K : KV}
  (h : ∀ w' v, Rf w w' g e cap (shiftDown ltInt j d) → K9 [v] w') :
  jd [.int .i64 (j : Int)] w fun K10 x10 w => gj (fun K11 => ib P .geq T.b (.tmp 64) (.const (.int .i64 1)) (gv x10 0) (.int .i64 1) w fun t65 w => gk t65 (K11 [] w) (K9 [(gv x10 0)] w)) fun x11 w => M.aj.j11 (.slice (some ⟨g, 0, none⟩) n cap) x10 K9 K10 w K := by
 generalize hr : shiftDown ltInt j d = R at *
 refine ⟨SdI w g e cap n R, fun x _ => ms x 0, ⟨j, d, rfl, H.xe, hn, hj, hr⟩, ?_⟩
 clear hr
 rintro x w1 ⟨k, d1, rfl, H1, hn1, hk, hR⟩
 simp only [gp, g0, rh]
 cases k with
 | zero =>
  have hk0 : ¬ (1 : Int) ≤ ((0 : Nat) : Int) := by omega
  simp only [hk0, decide_false, Eng.cond_false]
  unfold shiftDown at hR
  subst hR
  exact h _ _ H1
 | succ k =>
  have hk0 : (1 : Int) ≤ ((k + 1 : Nat) : Int) := by omega
  simp only [hk0, decide_true, Eng.cond_true]
  unfold M.aj.j11
  unfold shiftDown at hR
  have a1 := H1.row.at (show k + 1 < d1.size by omega)
  have a2 := H1.row.at (show k < d1.size by omega)
  have b1 : ((k + 1 : Nat) : Int) < n := by omega
  have b2 : (k : Int) < n := by omega
  have f1 := H1.row.frz (k + 1)
  have f2 := H1.row.frz k
  have hw : IntKind.i64.wrap (((k + 1 : Nat) : Int) - 1) = (k : Int) := by rw [ia]; omega
  simp [g0, b1, b2, a1, a2, hw, -Int.natCast_add]
  refine sd _ _ ?_
  cases hl : ltInt d1[k + 1]! d1[k]! with
  | false =>
   rw [if_pos (by simp [hl])] at hR
   subst hR
   simp
   exact h _ _ (H1.dr 1)
  | true =>
   rw [if_neg (by simp [hl])] at hR
   simp [-Int.natCast_add]
   unfold M.aj.j13
   simp [g0, b1, b2, a1, a2, f1, f2, hw, ka, kj, -Int.natCast_add]
   refine ⟨⟨k, _, rfl, ((H1.dr 1).dr 1).swp (by omega) (by omega), by rw [size_swp]; exact hn1, by omega, hR⟩, ?_⟩
   simp [ms, gv]
def SuI (w : World) (g : Nat) (e : TypeId) (cap n b : Nat) (R : Array Int) : KL := fun x w1 => ∃ (j : Nat) (d : Array Int), x = [.int .i64 (j : Int)] ∧ Rf w w1 g e cap d ∧ d.size = n ∧ 1 ≤ j ∧ j ≤ b ∧ shiftUp ltInt b j d = R
theorem bmv (H : Rw w g e cap d) (hn : d.size = n) (h6 : n < 100000) {j b : Nat} (hb : b ≤ n) (hj : 1 ≤ j) (hjb : j ≤ b) {K3 : KL} {x4 x8 x9 : List Value} {K : KV}
  (h : ∀ w' v, Rf w w' g e cap (shiftUp ltInt b j d) → K3 [gv x4 0, gv x8 0, gv x9 0, v] w') :
  jd [.int .i64 (j : Int)] w fun K14 x14 w => M.aj.j14 x14 (.int .i64 (b : Int)) K3 x4 x8 x9 (.slice (some ⟨g, 0, none⟩) n cap) K14 w K := by
 generalize hr : shiftUp ltInt b j d = R at *
 refine ⟨SuI w g e cap n b R, fun x _ => b - ms x 0, ⟨j, d, rfl, H.xe, hn, hj, hjb, hr⟩, ?_⟩
 clear hr
 rintro x w1 ⟨k, d1, rfl, H1, hn1, hk1, hk, hR⟩
 unfold M.aj.j14
 simp only [gp, g0, lh]
 unfold shiftUp at hR
 by_cases hkb : k < b
 ·have hkb' : (k : Int) < b := by omega
  rw [if_pos hkb] at hR
  simp only [hkb', decide_true, Eng.cond_true]
  unfold M.aj.j15
  have a1 := H1.row.at (show k < d1.size by omega)
  have a2 := H1.row.at (show k - 1 < d1.size by omega)
  have b1 : (k : Int) < n := by omega
  have b2 : ((k - 1 : Nat) : Int) < n := by omega
  have f1 := H1.row.frz k
  have f2 := H1.row.frz (k - 1)
  have hw : IntKind.i64.wrap ((k : Int) - 1) = ((k - 1 : Nat) : Int) := by rw [ia]; omega
  simp [g0, b1, b2, a1, a2, hw]
  refine sd _ _ ?_
  cases hl : ltInt d1[k]! d1[k - 1]! with
  | false =>
   rw [if_pos (by simp [hl])] at hR
   subst hR
   simp
   exact h _ _ (H1.dr 1)
  | true =>
   rw [if_neg (by simp [hl])] at hR
   simp
   unfold M.aj.j17
   simp [g0, b1, b2, a1, a2, f1, f2, hw, ka, kj, qr (show k < 1000000 by omega)]
   refine ⟨⟨k + 1, _, by simp, ((H1.dr 1).dr 1).swp (by omega) (by omega), by rw [size_swp]; exact hn1, by omega, by omega, hR⟩, ?_⟩
   simp [ms, gv]; omega
 ·have hkb' : ¬ (k : Int) < b := by omega
  rw [if_neg hkb] at hR
  simp only [hkb', decide_false, Eng.cond_false]
  subst hR
  exact h _ _ H1
end
def PiI (w : World) (g : Nat) (e : TypeId) (cap n a b : Nat) (R : Array Int × Bool) : KL := fun x w1 => ∃ (u1 u2 u3 : Value) (i s : Nat) (d : Array Int), x = [.int .i64 (i : Int), u1, u2, u3, .int .i64 ((5 - s : Nat) : Int)] ∧ Rf w w1 g e cap d ∧ d.size = n ∧ s ≤ 5 ∧ a < i ∧ i ≤ b ∧ partialIns ltInt a b s i d = R
theorem apr {w : World} {g cap n : Nat} {e : TypeId} {d : Array Int} (H : Rw w g e cap d) (hn : d.size = n) (h6 : n < 100000) {a b : Nat} (hb : b ≤ n) (hab : a < b) {K : KV}
  (h : ∀ w', Rf w w' g e cap (partialInsertionSort ltInt d a b).1 → K (.bool (partialInsertionSort ltInt d a b).2) w') : kg P F.fx [.slice (some ⟨g, 0, none⟩) n cap, .int .i64 a, .int .i64 b] w K := by
 apply M.aj.calls
 unfold M.aj
 simp only [kz, qr (show a < 1000000 by omega), gp]
 unfold partialInsertionSort at h
 generalize hR : partialIns ltInt a b 5 (a + 1) d = R at *
 refine ⟨PiI w g e cap n a b R, fun x _ => 5 - ms x 4, ⟨_, _, _, a + 1, 5, d, rfl, H.xe, hn, by omega, by omega, by omega, hR⟩, ?_⟩
 clear hR
 rintro x w1 ⟨u1, u2, u3, i, s, d1, rfl, H1, hn1, hs, hai, hib, hR⟩
 have q0 : ∀ a b c d e : Value, gv [a, b, c, d, e] 0 = a := fun _ _ _ _ _ => rfl
 have q1 : ∀ a b c d e : Value, gv [a, b, c, d, e] 1 = b := fun _ _ _ _ _ => rfl
 have q2 : ∀ a b c d e : Value, gv [a, b, c, d, e] 2 = c := fun _ _ _ _ _ => rfl
 have q3 : ∀ a b c d e : Value, gv [a, b, c, d, e] 3 = d := fun _ _ _ _ _ => rfl
 have q4 : ∀ a b c d e : Value, gv [a, b, c, d, e] 4 = e := fun _ _ _ _ _ => rfl
 unfold M.aj.j1
 simp only [gp, q0, q1, q2, q3, q4, lh]
 cases s with
 | zero =>
  simp
  unfold partialIns at hR
  subst hR
  exact h _ H1
 | succ s =>
  rw [show 5 - (s + 1) = 4 - s from by omega]
  have hs5 : ((4 - s : Nat) : Int) < 5 := by omega
  simp only [hs5, decide_true, Eng.cond_true]
  unfold M.aj.j2
  unfold partialIns at hR
  simp only at hR
  rw [gp]
  simp only [q0, q1, q2, q3, q4]
  refine bgb (a := a) H1.row hn1 h6 hb hai hib fun w2 H2 => ?_
  have hsc := apt d1 b _ i (Nat.le_refl _) hib
  generalize scanSorted ltInt d1 b i = i2 at *
  have H2' := H1.trans H2
  simp only [gp, g0, ud]
  by_cases hib2 : i2 = b
  ·have : (i2 : Int) = b := by omega
   rw [if_pos hib2] at hR
   simp only [this, decide_true, Eng.cond_true]
   subst hR
   exact h _ H2'
  have hib2' : ¬ (i2 : Int) = b := by omega
  rw [if_neg hib2] at hR
  simp only [hib2', decide_false, Eng.cond_false]
  unfold M.aj.j7
  have hw0 : IntKind.i64.wrap ((b : Int) - a) = ((b - a : Nat) : Int) := yd (by omega) (by omega)
  simp only [gp, lk, hw0, lh]
  by_cases h50 : b - a < 50
  ·have : ((b - a : Nat) : Int) < 50 := by omega
   rw [if_pos h50] at hR
   simp only [this, decide_true, Eng.cond_true]
   subst hR
   exact h _ H2'
  have h50' : ¬ ((b - a : Nat) : Int) < 50 := by omega
  rw [if_neg h50] at hR
  simp only [h50', decide_false, Eng.cond_false]
  unfold M.aj.j8
  have a1 := H2.row.at (show i2 < d1.size by omega)
  have a2 := H2.row.at (show i2 - 1 < d1.size by omega)
  have b1 : (i2 : Int) < n := by omega
  have b2 : ((i2 - 1 : Nat) : Int) < n := by omega
  have f1 := H2.row.frz i2
  have f2 := H2.row.frz (i2 - 1)
  have hw : IntKind.i64.wrap ((i2 : Int) - 1) = ((i2 - 1 : Nat) : Int) := by rw [ia]; omega
  have hwa : IntKind.i64.wrap ((i2 : Int) - a) = ((i2 - a : Nat) : Int) := yd (by omega) (by omega)
  simp [g0, b1, b2, a1, a2, f1, f2, hw, hwa, ka, kj, -gp]
  have H3 := (H2'.dr 1).swp (i := i2) (j := i2 - 1) (by omega) (by omega)
  generalize ((dr w2 1).setCell ⟨g, i2, none⟩ (.int SD.k d1[i2 - 1]!)).setCell ⟨g, i2 - 1, none⟩ (.int SD.k d1[i2]!) = w3 at *
  have hn3 : (Sort.swp d1 i2 (i2 - 1)).size = n := by rw [size_swp]; exact hn1
  generalize Sort.swp d1 i2 (i2 - 1) = d3 at *
  -- behind the shift je
  have tail : ∀ (x9 : List Value) (w4 : World) (d4 : Array Int), Rf w w4 g e cap d4 → d4.size = n → partialIns ltInt a b s i2 (if b - i2 ≥ 2 then shiftUp ltInt b (i2 + 1) d4 else d4) = R → ∀ (K3 : KL) (x8 x1 : List Value),
    (∀ w' v, ∀ d5, Rf w w' g e cap d5 → d5.size = n → partialIns ltInt a b s i2 d5 = R → K3 [.int .i64 (i2 : Int), gv x8 0, gv x9 0, v] w') →
    M.aj.j9 (.int .i64 b) [.int .i64 i2] K3 x8 x9 (.slice (some ⟨g, 0, none⟩) n cap) x1 w4 K := by
   intro x9 w4 d4 H4 hn4 hR4 K3 x8 x1 hK
   unfold M.aj.j9
   have hwb : IntKind.i64.wrap ((b : Int) - i2) = ((b - i2 : Nat) : Int) := yd (by omega) (by omega)
   simp only [g0, lk, hwb, rh]
   by_cases h2 : b - i2 ≥ 2
   ·have h2' : (2 : Int) ≤ ((b - i2 : Nat) : Int) := by omega
    rw [if_pos h2] at hR4
    simp only [h2', decide_true, Eng.cond_true, kz, qr (show i2 < 1000000 by omega)]
    refine bmv H4.row hn4 h6 hb (by omega) (by omega) fun w5 v H5 => ?_
    exact hK _ v _ (H4.trans H5) (by rw [atc _ _ _ _ (Nat.le_refl _)]; exact hn4) hR4
   ·have h2' : ¬ (2 : Int) ≤ ((b - i2 : Nat) : Int) := by omega
    rw [if_neg h2] at hR4
    simp only [h2', decide_false, Eng.cond_false]
    exact hK _ _ _ H4 hn4 hR4
  have fin : ∀ w' (x : List Value) d5, gv x 0 = .int .i64 i2 → Rf w w' g e cap d5 → d5.size = n → partialIns ltInt a b s i2 d5 = R →
    PiI w g e cap n a b R [gv x 0, gv x 1, gv x 2, gv x 3, .int .i64 (IntKind.i64.wrap (((4 - s : Nat) : Int) + 1))] w' ∧ 5 - ms [gv x 0, gv x 1, gv x 2, gv x 3, .int .i64 (IntKind.i64.wrap (((4 - s : Nat) : Int) + 1))] 4 < 5 - ms [.int .i64 (i : Int), u1, u2, u3, .int .i64 ((4 - s : Nat) : Int)] 4 := by
   intro w' x d5 hx H5 hn5 hR5
   have : IntKind.i64.wrap (((4 - s : Nat) : Int) + 1) = ((5 - s : Nat) : Int) := by rw [ia]; omega
   rw [this, hx]
   refine ⟨⟨_, _, _, i2, s, d5, rfl, H5, hn5, by omega, by omega, by omega, hR5⟩, ?_⟩
   simp only [ms, q4]; omega
  by_cases h2 : i2 - a ≥ 2
  ·have h2' : (2 : Int) ≤ ((i2 - a : Nat) : Int) := by omega
   rw [if_pos h2] at hR
   simp only [gp, h2', decide_true, Eng.cond_true]
   refine bfp H3.row hn3 h6 (by omega) fun w4 v H4 => ?_
   refine tail _ _ _ (H3.trans H4) (by rw [aez]; exact hn3) hR _ _ _ fun w' v d5 H5 hn5 hR5 => ?_
   exact fin w' [.int .i64 (i2 : Int), _, _, v] d5 rfl H5 hn5 hR5
  ·have h2' : ¬ (2 : Int) ≤ ((i2 - a : Nat) : Int) := by omega
   rw [if_neg h2] at hR
   simp only [gp, h2', decide_false, Eng.cond_false]
   refine tail _ _ _ H3 hn3 hR _ _ _ fun w' v d5 H5 hn5 hR5 => ?_
   exact fin w' [.int .i64 (i2 : Int), _, _, v] d5 rfl H5 hn5 hR5
end Go.Proofs.YtfnhoaemapheoaaGreat.SG
set_option maxRecDepth 100000
namespace Go.Proofs.YtfnhoaemapheoaaGreat
open Go.Eng
theorem bln : ∀ v : Fin 256, ((⟨#[0, 1, 2, 2, 3, 3, 3, 3, 4, 4, 4, 4, 4, 4, 4, 4, 5, 5, 5, 5, 5, 5, 5, 5, 5, 5, 5, 5, 5, 5, 5, 5, 6, 6, 6, 6, 6, 6, 6, 6, 6, 6, 6, 6, 6, 6, 6, 6, 6, 6, 6, 6, 6, 6, 6, 6, 6, 6, 6, 6, 6, 6, 6, 6, 7, 7, 7, 7, 7, 7, 7, 7, 7, 7, 7, 7, 7, 7, 7, 7, 7, 7, 7, 7, 7, 7, 7, 7, 7, 7, 7, 7, 7, 7, 7, 7, 7, 7, 7, 7, 7, 7, 7, 7, 7, 7, 7, 7, 7, 7, 7, 7, 7, 7, 7, 7, 7, 7, 7, 7, 7, 7, 7, 7, 7, 7, 7, 7, 8, 8, 8, 8, 8, 8, 8, 8, 8, 8, 8, 8, 8, 8, 8, 8, 8, 8, 8, 8, 8, 8, 8, 8, 8, 8, 8, 8, 8, 8, 8, 8, 8, 8, 8, 8, 8, 8, 8, 8, 8, 8, 8, 8, 8, 8, 8, 8, 8, 8, 8, 8, 8, 8, 8, 8, 8, 8, 8, 8, 8, 8, 8, 8, 8, 8, 8, 8, 8, 8, 8, 8, 8, 8, 8, 8, 8, 8, 8, 8, 8, 8, 8, 8, 8, 8, 8, 8, 8, 8, 8, 8, 8, 8, 8, 8, 8, 8, 8, 8, 8, 8, 8, 8, 8, 8, 8, 8, 8, 8, 8, 8, 8, 8, 8, 8, 8, 8, 8, 8, 8, 8, 8, 8, 8, 8, 8, 8]⟩ : ByteArray).get! v.val).toNat = Sort.bitsLen v.val := by decide +kernel
theorem bnd : aaq P T.ae = true := kr
theorem bib {w : World} {x : Nat} (hx : x < 65536) {K : KV} (h : K (.int .i64 (Sort.bitsLen x : Nat)) w) : kg P F.ej [.int .u64 x] w K := by
 apply M.ap.calls
 unfold M.ap
 have h1 : ¬ (4294967296 : Int) ≤ x := by omega
 simp only [gp, rh, h1, decide_false, Eng.cond_false]
 unfold M.ap.j0
 have q0 : ∀ a b : Value, gv [a, b] 0 = a := fun _ _ => rfl
 have q1 : ∀ a b : Value, gv [a, b] 1 = b := fun _ _ => rfl
 have h2 : ¬ (65536 : Int) ≤ x := by omega
 simp only [gp, q0, q1, rh, h2, decide_false, Eng.cond_false]
 unfold M.ap.j1
 have u64B : xt P T.g .u64 = true := by kernel_rfl
 have u8B : xt P T.am .u8 = true := by kernel_rfl
 have i64B : xt P T.b .i64 = true := by kernel_rfl
 have fin : ∀ (y z : Nat), y < 256 → z + Sort.bitsLen y = Sort.bitsLen x → z < 1000 → M.ap.j2 [.int .u64 y, .int .i64 z] w K := by
  intro y z hy hz hz1
  unfold M.ap.j2
  simp only [q0, q1]
  rw [og u64B u8B, bnq hy, bjr bnd (by exact hy)]
  have ht := bln ⟨y, hy⟩
  simp only at ht
  rw [ht, og u8B i64B]
  have hb : Sort.bitsLen y ≤ 16 := (Sort.bitsLen_le_iff y 16).2 (by omega)
  rw [akn (by omega)]
  simp only [kz]
  have : ((z : Nat) : Int) + (Sort.bitsLen y : Nat) = ((Sort.bitsLen x : Nat) : Int) := by omega
  simp only [this]
  rw [akn (by omega)]
  exact h
 simp only [gp, q0, q1, rh]
 by_cases h3 : 256 ≤ x
 ·have h3' : (256 : Int) ≤ x := by omega
  have hs : ib P .shr T.g (.tmp 15) (.const (.int .u64 8)) (.int .u64 (x : Int)) (.int .u64 8) w = fun K => K (.int .u64 ((x / 256 : Nat) : Int)) w := by
   funext K
   rw [aci (by decide)]
   have : (min (8 : Int).toNat IntKind.u64.bits) = 8 := by decide
   rw [this, aip]
  have ha : IntKind.i64.wrap (0 + 8) = ((8 : Nat) : Int) := by decide
  simp only [h3', decide_true, Eng.cond_true, hs, kz, ha]
  exact fin (x / 256) 8 (by omega) (avi h3).symm (by decide)
 ·have h3' : ¬ (256 : Int) ≤ x := by omega
  simp only [h3', decide_false, Eng.cond_false]
  exact fin x 0 (by omega) (by omega) (by decide)
theorem ann {w : World} {x : Nat} (hx : x < 65536) {K : KV} (h : K (.int .i64 (Sort.bitsLen x : Nat)) w) : kg P F.ee [.int .u64 x] w K := by
 apply M.de.calls
 unfold M.de
 simp only [gp, Eng.cond_false]
 rw [M.ap.fcall]
 exact bib hx h
theorem bku {w : World} {x : Nat} (hx : x < 65536) {K : KV} (h : K (.int .u64 ((2 ^ Sort.bitsLen x : Nat) : Int)) w) : kg P F.cm [.int .i64 x] w K := by
 apply M.ck.calls
 unfold M.ck
 have uB : xt P T.ay .u64 = true := by kernel_rfl
 have i64B : xt P T.b .i64 = true := by kernel_rfl
 rw [og i64B uB, abv (by omega), M.de.fcall]
 refine ann hx ?_
 have hb : Sort.bitsLen x ≤ 16 := (Sort.bitsLen_le_iff x 16).2 (by omega)
 have hp : 2 ^ Sort.bitsLen x ≤ 2 ^ 16 := Nat.pow_le_pow_right (by decide) hb
 rw [aeg (by omega)]
 have e1 : (((Sort.bitsLen x : Nat) : Int)).toNat = Sort.bitsLen x := by omega
 have e2 : min (Sort.bitsLen x) IntKind.u64.bits = Sort.bitsLen x := by
  have : IntKind.u64.bits = 64 := rfl
  omega
 have e3 : (1 : Int) * 2 ^ Sort.bitsLen x = ((2 ^ Sort.bitsLen x : Nat) : Int) := by simp
 rw [e1, e2, e3, abv (by omega)]
 exact h
theorem afq {w : World} {b : Nat} {x v : Value} {e : TypeId} (h : w.heap[b]? = some (.cells #[x] e (0, 0))) : ((dr w 1).setCell ⟨b, 0, none⟩ v).heap[b]? = some (.cells #[v] e (0, 0)) :=
 nj (w := dr w 1) h
theorem azp {w : World} {sb : Nat} {x : Int} {e : TypeId} (hb : w.heap[sb]? = some (.cells #[.int .u64 x] e (0, 0))) {K : KV}
  (h : ∀ w' (y : Int), 0 ≤ y → y < 18446744073709551616 → w'.heap[sb]? = some (.cells #[.int .u64 y] e (0, 0)) → Fr (fun b => b = sb) w w' → K (.int .u64 y) w') : kg P F.cn [.pointer (some ⟨sb, 0, none⟩)] w K := by
 apply M.cl.calls
 unfold M.cl
 have s13 : ∀ (x : Int) (w : World) (K : KV) (t : TypeId) (rx ry : Operand), ib P .shl t rx ry (.int .u64 x) (.int .u64 13) w K = K (.int .u64 (IntKind.u64.wrap (x * 2 ^ min (13 : Int).toNat IntKind.u64.bits))) w := fun x w K t rx ry => aeg (by decide)
 have s7 : ∀ (x : Int) (w : World) (K : KV) (t : TypeId) (rx ry : Operand), ib P .shr t rx ry (.int .u64 x) (.int .u64 7) w K = K (.int .u64 (x.fdiv (2 ^ min (7 : Int).toNat IntKind.u64.bits))) w := fun x w K t rx ry => aci (by decide)
 have s17 : ∀ (x : Int) (w : World) (K : KV) (t : TypeId) (rx ry : Operand), ib P .shl t rx ry (.int .u64 x) (.int .u64 17) w K = K (.int .u64 (IntKind.u64.wrap (x * 2 ^ min (17 : Int).toNat IntKind.u64.bits))) w := fun x w K t rx ry => aeg (by decide)
 have c0 := gt hb 0
 have f0 := nw hb 0
 simp only [List.size_toArray, List.getElem?_toArray, List.getElem?_cons_zero] at c0
 simp [c0, f0, s13, s7, s17, awy, ka, kj]
 refine h _ _ (ajl _).1 (ajl _).2 ?_ ?_
 ·exact afq (afq (afq hb))
 ·exact (((((((Fr.refl (fun b => b = sb) w).dr 1).setCell (.inl rfl) _ _).dr 1).setCell (.inl rfl) _ _).dr 1).setCell (.inl rfl) _ _)
end Go.Proofs.YtfnhoaemapheoaaGreat
set_option maxRecDepth 100000
namespace Go.Proofs.YtfnhoaemapheoaaGreat.SG
open Go.Eng Go.Sort
variable [SE]
theorem Rf.aht {w w' w'' : World} {g cap sb : Nat} {e : TypeId} {d : Array Int} (h : Rf w w' g e cap d) (f : Fr (fun b => b = sb) w' w'') (hs : w.heap.size ≤ sb) (hne : sb ≠ g) : Rf w w'' g e cap d :=
 ⟨h.row.fr f fun h => hne h.symm, h.fr.mu f fun b hb he => by omega⟩
theorem Rf.new {w w' : World} {g cap : Nat} {e : TypeId} {d : Array Int} (h : Rf w w' g e cap d) (o : Obj) : Rf w (w'.alloc o) g e cap d :=
 ⟨h.row.fr ((Fr.refl (fun _ => False) w').alloc o) fun h => h, h.fr.alloc o⟩
def Sw (w : World) (sb : Nat) : Prop := ∃ x e, w.heap[sb]? = some (.cells #[.int .i64 x] e (0, 0))
theorem ahn {w : World} {g cap n sb : Nat} {e : TypeId} {d : Array Int} (H : Rw w g e cap d) (hn : d.size = n) (S : Sw w sb) (hne : sb ≠ g) {a b : Nat} (ha : a < n) (hb : b < n) {K : KV}
  (h : ∀ w' x y, (x = a ∧ y = b ∨ x = b ∧ y = a) → Sw w' sb → Fr (fun b => b = sb) w w' → K (.tuple #[.int .i64 (x : Nat), .int .i64 (y : Nat)]) w') :
  gi P F.fs [.slice (some ⟨g, 0, none⟩) n cap, .int .i64 a, .int .i64 b, .pointer (some ⟨sb, 0, none⟩)] w K := by
 rw [M.el.fcall]
 apply M.el.calls
 unfold M.el
 have a1 := H.at (show a < d.size by omega)
 have a2 := H.at (show b < d.size by omega)
 have b1 : (a : Int) < n := by omega
 have b2 : (b : Int) < n := by omega
 simp [b1, b2, a1, a2]
 refine sd _ _ ?_
 obtain ⟨x, e', hx⟩ := S
 cases hl : ltInt d[b]! d[a]! with
 | false =>
  simp
  exact h _ a b (.inl ⟨rfl, rfl⟩) ⟨x, e', hx⟩ ((Fr.refl _ _).dr 1)
 | true =>
  have c0 := gt hx 0
  have f0 := nw hx 0
  simp only [List.size_toArray, List.getElem?_toArray, List.getElem?_cons_zero] at c0
  simp [c0, f0]
  exact h _ b a (.inr ⟨rfl, rfl⟩) ⟨IntKind.i64.wrap (x + 1), e', afq hx⟩ (((Fr.refl (fun b => b = sb) w).dr 1).setCell (.inl rfl) _ _)
theorem aop {w : World} {g cap n sb : Nat} {e : TypeId} {d : Array Int} (H : Rw w g e cap d) (hn : d.size = n) (S : Sw w sb) (hne : sb ≠ g) {a b c : Nat} (ha : a < n) (hb : b < n) (hc : c < n) {K : KV}
  (h : ∀ w' x, (x = a ∨ x = b ∨ x = c) → Sw w' sb → Fr (fun b => b = sb) w w' → K (.int .i64 (x : Nat)) w') :
  gi P F.ft [.slice (some ⟨g, 0, none⟩) n cap, .int .i64 a, .int .i64 b, .int .i64 c, .pointer (some ⟨sb, 0, none⟩)] w K := by
 rw [M.em.fcall]
 apply M.em.calls
 unfold M.em
 refine ahn H hn S hne ha hb fun w1 x1 y1 h1 S1 f1 => ?_
 simp
 have H1 := H.fr f1 fun h => hne h.symm
 refine ahn H1 hn S1 hne (a := y1) (b := c) (by omega) hc fun w2 x2 y2 h2 S2 f2 => ?_
 simp
 have H2 := H1.fr f2 fun h => hne h.symm
 refine ahn H2 hn S2 hne (a := x1) (b := x2) (by omega) (by omega) fun w3 x3 y3 h3 S3 f3 => ?_
 simp
 exact h w3 y3 (by omega) S3 ((f1.trans f2).trans f3)
theorem atv {w : World} {g cap n sb : Nat} {e : TypeId} {d : Array Int} (H : Rw w g e cap d) (hn : d.size = n) (h6 : n < 100000) (S : Sw w sb) (hne : sb ≠ g) {a : Nat} (ha : 1 ≤ a) (hb : a + 1 < n) {K : KV}
  (h : ∀ w' x, (x = a - 1 ∨ x = a ∨ x = a + 1) → Sw w' sb → Fr (fun b => b = sb) w w' → K (.int .i64 (x : Nat)) w') :
  gi P F.fo [.slice (some ⟨g, 0, none⟩) n cap, .int .i64 a, .pointer (some ⟨sb, 0, none⟩)] w K := by
 rw [M.dt.fcall]
 apply M.dt.calls
 unfold M.dt
 have hw1 : IntKind.i64.wrap ((a : Int) - 1) = ((a - 1 : Nat) : Int) := by rw [ia]; omega
 have hw2 : IntKind.i64.wrap ((a : Int) + 1) = ((a + 1 : Nat) : Int) := qr (by omega)
 simp only [lk, kz, hw1, hw2]
 refine aop H hn S hne (by omega) (by omega) (by omega) fun w' x hx S' f' => ?_
 exact h w' x hx S' f'
theorem bhy {w : World} {g cap n : Nat} {e : TypeId} {d : Array Int} (H : Rw w g e cap d) (hn : d.size = n) (h6 : n < 100000) {a b : Nat} (hb : b ≤ n) (hab : a + 12 < b) {K : KV}
  (h : ∀ w' (p hint : Nat), a ≤ p → p < b → hint ≤ 2 → Rf w w' g e cap d → K (.tuple #[.int .i64 (p : Nat), .int .i64 (hint : Nat)]) w') :
  kg P F.gc [.slice (some ⟨g, 0, none⟩) n cap, .int .i64 a, .int .i64 b] w K := by
 apply M.du.calls
 unfold M.du
 have hw0 : IntKind.i64.wrap ((b : Int) - a) = ((b - a : Nat) : Int) := yd (by omega) (by omega)
 generalize hl : b - a = l at *
 have q4 : IntKind.i64.wrap (((l : Nat) : Int).tdiv 4) = ((l / 4 : Nat) : Int) := by rw [Int.tdiv_eq_ediv_of_nonneg (by omega), ia]; omega
 have m1 : IntKind.i64.wrap (((l / 4 : Nat) : Int) * 1) = ((l / 4 : Nat) : Int) := by rw [ia]; omega
 have m2 : IntKind.i64.wrap (((l / 4 : Nat) : Int) * 2) = ((l / 4 * 2 : Nat) : Int) := by rw [ia]; omega
 have m3 : IntKind.i64.wrap (((l / 4 : Nat) : Int) * 3) = ((l / 4 * 3 : Nat) : Int) := by rw [ia]; omega
 have s1 : IntKind.i64.wrap ((a : Int) + ((l / 4 : Nat) : Int)) = ((a + l / 4 : Nat) : Int) := by rw [ia]; omega
 have s2 : IntKind.i64.wrap ((a : Int) + ((l / 4 * 2 : Nat) : Int)) = ((a + l / 4 * 2 : Nat) : Int) := by rw [ia]; omega
 have s3 : IntKind.i64.wrap ((a : Int) + ((l / 4 * 3 : Nat) : Int)) = ((a + l / 4 * 3 : Nat) : Int) := by rw [ia]; omega
 have bq : ∀ (x : Int) (t : TypeId) (rx ry : Operand) (w : World) (K : KV), ib P .quo t rx ry (.int .i64 x) (.int .i64 4) w K = K (.int .i64 (IntKind.i64.wrap (x.tdiv 4))) w := fun x t rx ry w K => amn (by decide)
 have al : ∀ (w : World) (K : KV), alT P T.b w K = K (.pointer (some ⟨w.heap.size, 0, none⟩)) (w.alloc (.cells #[.int .i64 0] T.b)) := fun w K => kr
 have c8 : (8 : Int) ≤ (l : Int) := by omega
 simp only [lk, kz, vh, bq, hw0, q4, m1, m2, m3, s1, s2, s3, al, rh, c8, decide_true, Eng.cond_true]
 clear q4 m1 m2 m3 s1 s2 s3 bq al c8 hw0
 have H0 := H.xe.new (.cells #[.int .i64 0] T.b)
 have S0 : Sw (w.alloc (.cells #[.int .i64 0] T.b)) w.heap.size := ⟨0, T.b, by rw [iq, if_pos rfl]⟩
 have hne : w.heap.size ≠ g := by have := H.lt; omega
 generalize w.alloc (.cells #[.int .i64 0] T.b) = w0 at *
 have fin : ∀ (w1 : World) (p : Nat) (v1 v2 : Value), a ≤ p → p < b → Rf w w1 g e cap d → Sw w1 w.heap.size → M.du.j0 (.pointer (some ⟨w.heap.size, 0, none⟩)) [v1, .int .i64 (p : Nat), v2] w1 K := by
  intro w1 p v1 v2 hp1 hp2 H1 S1
  obtain ⟨x, e', hx⟩ := S1
  unfold M.du.j0
  have c0 := gt hx 0
  simp only [List.size_toArray, List.getElem?_toArray, List.getElem?_cons_zero] at c0
  have q1 : ∀ a b c : Value, gv [a, b, c] 1 = b := fun _ _ _ => rfl
  by_cases x0 : x = 0
  ·simp [c0, q1, x0]
   exact h w1 p 1 hp1 hp2 (by decide) H1
  by_cases x12 : x = 12
  ·simp [c0, q1, x12]
   exact h w1 p 2 hp1 hp2 (by decide) H1
  ·simp [c0, q1, x0, x12]
   exact h w1 p 0 hp1 hp2 (by decide) H1
 simp only [gp]
 have lr : ∀ (w1 : World) (x y z : Nat), a ≤ x → x < b → a ≤ y → y < b → a ≤ z → z < b → Rf w w1 g e cap d → Sw w1 w.heap.size →
   gi P F.ft [.slice (some ⟨g, 0, none⟩) n cap, gv [.int .i64 (x : Int), .int .i64 (y : Int), .int .i64 (z : Int)] 0, gv [.int .i64 (x : Int), .int .i64 (y : Int), .int .i64 (z : Int)] 1, gv [.int .i64 (x : Int), .int .i64 (y : Int), .int .i64 (z : Int)] 2, .pointer (some ⟨w.heap.size, 0, none⟩)] w1 fun t48 w' =>
    M.du.j0 (.pointer (some ⟨w.heap.size, 0, none⟩)) [gv [.int .i64 (x : Int), .int .i64 (y : Int), .int .i64 (z : Int)] 0, t48, gv [.int .i64 (x : Int), .int .i64 (y : Int), .int .i64 (z : Int)] 2] w' K := by
  intro w1 x y z hx1 hx2 hy1 hy2 hz1 hz2 H1 S1
  refine aop H1.row hn S1 hne (a := x) (b := y) (c := z) (by omega) (by omega) (by omega) fun w2 p hp S2 f2 => ?_
  exact fin w2 p _ _ (by omega) (by omega) (H1.aht f2 (Nat.le_refl _) hne) S2
 by_cases h50 : 50 ≤ l
 ·have h50' : (50 : Int) ≤ (l : Int) := by omega
  simp only [h50', decide_true, Eng.cond_true]
  refine atv H0.row hn h6 S0 hne (by omega) (by omega) fun w1 x hx S1 f1 => ?_
  have H1 := H0.aht f1 (Nat.le_refl _) hne
  refine atv H1.row hn h6 S1 hne (by omega) (by omega) fun w2 y hy S2 f2 => ?_
  have H2 := H1.aht f2 (Nat.le_refl _) hne
  refine atv H2.row hn h6 S2 hne (by omega) (by omega) fun w3 z hz S3 f3 => ?_
  have H3 := H2.aht f3 (Nat.le_refl _) hne
  exact lr w3 x y z (by omega) (by omega) (by omega) (by omega) (by omega) (by omega) H3 S3
 ·have h50' : ¬ (50 : Int) ≤ (l : Int) := by omega
  simp only [h50', decide_false, Eng.cond_false]
  exact lr w0 (a + l / 4) (a + l / 4 * 2) (a + l / 4 * 3) (by omega) (by omega) (by omega) (by omega) (by omega) (by omega) H0 S0
def BpI (w : World) (g : Nat) (e : TypeId) (cap n a b idx0 : Nat) (d : Array Int) : KL := fun x w1 => ∃ (u : Value) (k : Nat) (d1 : Array Int) (r : Int), x = [u, .int .i64 ((idx0 + k : Nat) : Int)] ∧ Rf w w1 g e cap d1 ∧ d1.size = n ∧ k ≤ 3 ∧ PermIn a b d d1 ∧ 0 ≤ r ∧ r < 18446744073709551616 ∧ w1.heap[w.heap.size]? = some (.cells #[.int .u64 r] T.x (0, 0))
theorem bep {w : World} {g cap n : Nat} {e : TypeId} {d : Array Int} (H : Rw w g e cap d) (hn : d.size = n) (h6 : n < 60000) {a b : Nat} (hb : b ≤ n) (hab : a + 12 < b) {K : KV}
  (h : ∀ w' d', PermIn a b d d' → Rf w w' g e cap d' → K (.tuple #[]) w') :
  kg P F.gb [.slice (some ⟨g, 0, none⟩) n cap, .int .i64 a, .int .i64 b] w K := by
 apply M.cy.calls
 unfold M.cy
 have hw0 : IntKind.i64.wrap ((b : Int) - a) = ((b - a : Nat) : Int) := yd (by omega) (by omega)
 have hlb : a + (b - a) = b := by omega
 generalize hl : b - a = l at *
 have bq : ∀ (x : Int) (t : TypeId) (rx ry : Operand) (w : World) (K : KV), ib P .quo t rx ry (.int .i64 x) (.int .i64 4) w K = K (.int .i64 (IntKind.i64.wrap (x.tdiv 4))) w := fun x t rx ry w K => amn (by decide)
 have q4 : IntKind.i64.wrap (((l : Nat) : Int).tdiv 4) = ((l / 4 : Nat) : Int) := by rw [Int.tdiv_eq_ediv_of_nonneg (by omega), ia]; omega
 have m2 : IntKind.i64.wrap (((l / 4 : Nat) : Int) * 2) = ((l / 4 * 2 : Nat) : Int) := by rw [ia]; omega
 have s2 : IntKind.i64.wrap ((a : Int) + ((l / 4 * 2 : Nat) : Int)) = ((a + l / 4 * 2 : Nat) : Int) := by rw [ia]; omega
 have s3 : IntKind.i64.wrap (((a + l / 4 * 2 : Nat) : Int) - 1) = ((a + l / 4 * 2 - 1 + 0 : Nat) : Int) := by rw [ia]; omega
 have s4 : IntKind.i64.wrap (((a + l / 4 * 2 : Nat) : Int) + 1) = ((a + l / 4 * 2 + 1 : Nat) : Int) := qr (by omega)
 have c8 : (8 : Int) ≤ (l : Int) := by omega
 have i64B : xt P T.b .i64 = true := by kernel_rfl
 have uB : xt P T.ay .u64 = true := by kernel_rfl
 have xB : xt P T.x .u64 = true := by kernel_rfl
 simp only [lk, hw0, rh, c8, decide_true, Eng.cond_true]
 rw [og i64B xB, abv (by omega)]
 have hx0 : (w.alloc (.cells #[.int .u64 0] T.x)).heap[w.heap.size]? = some (.cells #[.int .u64 0] T.x (0, 0)) := by rw [iq, if_pos rfl]
 have H0 := H.xe.new (.cells #[.int .u64 0] T.x)
 have hne : w.heap.size ≠ g := by have := H.lt; omega
 have c0 := gt hx0 0
 have f0 := nw hx0 0
 simp only [List.size_toArray, List.getElem?_toArray, List.getElem?_cons_zero] at c0
 simp [c0, f0, -gp]
 have hx1 : ((w.alloc (.cells #[.int .u64 0] T.x)).setCell ⟨w.heap.size, 0, none⟩ (.int .u64 l)).heap[w.heap.size]? = some (.cells #[.int .u64 l] T.x (0, 0)) := nj hx0
 have H1 := H0.aht ((Fr.refl (fun b => b = w.heap.size) _).setCell (.inl rfl) 0 (.int .u64 (l : Int))) (Nat.le_refl _) hne
 generalize (w.alloc (.cells #[.int .u64 0] T.x)).setCell ⟨w.heap.size, 0, none⟩ (.int .u64 (l : Int)) = w1 at *
 rw [M.ck.fcall]
 refine bku (by omega) ?_
 have hp2 : 2 ^ bitsLen l ≤ 2 * l := two_pow_bitsLen_le (by omega)
 have hp1 : 0 < 2 ^ bitsLen l := Nat.pow_pos (by decide)
 simp only [bq, q4, vh, m2, kz, s2, lk, s3]
 generalize 2 ^ bitsLen l = md at *
 generalize hi0 : a + l / 4 * 2 - 1 = i0 at *
 refine ⟨BpI w g e cap n a b i0 d, fun x _ => i0 + 3 - ms x 1, ⟨_, 0, d, l, rfl, H1, hn, by omega, permIn_refl d a b, by omega, by omega, hx1⟩, ?_⟩
 rintro x w2 ⟨u, k, d2, r, rfl, H2, hn2, hk, hP, hr0, hr1, hx2⟩
 unfold M.cy.j0
 simp only [gp, bq, q4, vh, m2, kz, s2, s4, g21, acd]
 by_cases hk3 : k < 3
 ·have hle : ((i0 + k : Nat) : Int) ≤ ((a + l / 4 * 2 + 1 : Nat) : Int) := by omega
  simp only [hle, decide_true, Eng.cond_true]
  unfold M.cy.j1
  simp only [gp, g21]
  rw [M.cl.fcall]
  refine azp hx2 fun w3 y hy0 hy1 hx3 f3 => ?_
  have H3 := H2.aht f3 (Nat.le_refl _) hne
  obtain ⟨z, rfl⟩ : ∃ z : Nat, y = z := ⟨y.toNat, by omega⟩
  have hm1 : IntKind.u64.wrap ((md : Int) - 1) = ((md - 1 : Nat) : Int) := by rw [acm (by omega) (by omega)]; omega
  have hand : (BitVec.ofInt IntKind.u64.bits (z : Int) &&& BitVec.ofInt IntKind.u64.bits ((md - 1 : Nat) : Int)).toNat ≤ md - 1 := bmg (x := z) (y := md - 1) (by omega) (by omega)
  simp only [lk, hm1, awi]
  generalize (BitVec.ofInt IntKind.u64.bits (z : Int) &&& BitVec.ofInt IntKind.u64.bits ((md - 1 : Nat) : Int)).toNat = o at *
  rw [abv (by omega), og uB i64B, akn (by omega)]
  have tail : ∀ (o : Nat), o < l → M.cy.j3 (.int .i64 a) [.int .i64 (o : Nat)] (.slice (some ⟨g, 0, none⟩) n cap) [u, .int .i64 ((i0 + k : Nat) : Int)] (fun x2 w' => BpI w g e cap n a b i0 d [gv x2 0, .int .i64 (IntKind.i64.wrap (((i0 + k : Nat) : Int) + 1))] w' ∧ i0 + 3 - ms [gv x2 0, .int .i64 (IntKind.i64.wrap (((i0 + k : Nat) : Int) + 1))] 1 < i0 + 3 - ms [u, .int .i64 ((i0 + k : Nat) : Int)] 1) w3 K := by
   intro o ho
   unfold M.cy.j3
   have wr : IntKind.i64.wrap ((a : Int) + (o : Int)) = ((a + o : Nat) : Int) := by rw [ia]; omega
   have a1 := H3.row.at (show i0 + k < d2.size by omega)
   have a2 := H3.row.at (show a + o < d2.size by omega)
   have b1 : ((i0 + k : Nat) : Int) < n := by omega
   have b2 : ((a + o : Nat) : Int) < n := by omega
   have f1 := H3.row.frz (i0 + k)
   have f2 := H3.row.frz (a + o)
   simp [g0, g21, wr, b1, b2, a1, a2, f1, f2, ka, kj, -Int.natCast_add]
   have hw5 : IntKind.i64.wrap (((i0 + k : Nat) : Int) + 1) = ((i0 + (k + 1) : Nat) : Int) := by rw [ia]; omega
   rw [hw5]
   refine ⟨⟨_, k + 1, _, z, rfl, (H3.dr 1).swp (by omega) (by omega), by rw [size_swp]; exact hn2, by omega, permIn_trans _ _ _ a b hP (swp_permIn _ a b _ _ (by omega) (by omega) (by omega) (by omega) (by omega)), by omega, by omega, ?_⟩, ?_⟩
   ·rw [alh (by omega), alh (by omega)]; exact hx3
   ·simp only [ms, g21]; omega
  simp only [gp, rh, kz]
  by_cases hol : l ≤ o
  ·have hol' : (l : Int) ≤ o := by omega
   have hwo : IntKind.i64.wrap ((o : Int) - l) = ((o - l : Nat) : Int) := yd (by omega) (by omega)
   simp only [hol', decide_true, Eng.cond_true, lk, hwo]
   exact tail (o - l) (by omega)
  ·have hol' : ¬ (l : Int) ≤ o := by omega
   simp only [hol', decide_false, Eng.cond_false]
   exact tail o (by omega)
 ·have hle : ¬ ((i0 + k : Nat) : Int) ≤ ((a + l / 4 * 2 + 1 : Nat) : Int) := by omega
  simp only [hle, decide_false, Eng.cond_false]
  exact h w2 d2 hP H2
end Go.Proofs.YtfnhoaemapheoaaGreat.SG
set_option maxRecDepth 100000
namespace Go.Proofs.YtfnhoaemapheoaaGreat.SG
open Go.Eng Go.Sort
variable [SE]
section
omit [SE] in
theorem f5 (a0 a1 a2 a3 a4 a5 a6 a7 a8 a9 a10 a11 a12 a13 : Value) : gv [a0, a1, a2, a3, a4, a5, a6, a7, a8, a9, a10, a11, a12, a13] 5 = a5 := rfl
omit [SE] in
theorem f13 (a0 a1 a2 a3 a4 a5 a6 a7 a8 a9 a10 a11 a12 a13 : Value) : gv [a0, a1, a2, a3, a4, a5, a6, a7, a8, a9, a10, a11, a12, a13] 13 = a13 := rfl
end
structure bok (w w1 : World) (g : Nat) (e : TypeId) (cap n a0 b0 : Nat) (d0 : Array Int) (a b limit : Nat) (wb wp : Bool) (d : Array Int) : Prop where
 rf : Rf w w1 g e cap d
 sz : d.size = n
 ab : a ≤ b
 bb : b - a ≤ b0 - a0
 bn : b ≤ n
 be : Below ltInt a b d
 fin : ∀ R, PermIn a b d R → SortedIn ltInt a b R → PermIn a0 b0 d0 R ∧ SortedIn ltInt a0 b0 R
def PdI (w : World) (g : Nat) (e : TypeId) (cap n a0 b0 : Nat) (d0 : Array Int) : KL := fun x w1 => ∃ (u0 u2 u3 u4 u6 u7 u9 u10 u11 : Value) (a b limit : Nat) (wb wp : Bool) (d : Array Int),
 x = [u0, .int .i64 (limit : Nat), u2, u3, u4, .int .i64 (a : Nat), u6, u7, .bool wp, u9, u10, u11, .bool wb, .int .i64 (b : Nat)] ∧ limit < 1000 ∧ bok w w1 g e cap n a0 b0 d0 a b limit wb wp d
def IH (m : Nat) : Prop := ∀ {w : World} {g cap n : Nat} {e : TypeId} {d : Array Int} (_ : Rw w g e cap d) (_ : d.size = n) (_ : n < 60000) {a b limit : Nat} (_ : b - a ≤ m) (_ : a ≤ b) (_ : b ≤ n) (_ : limit < 1000) (_ : Below ltInt a b d) {K : KV}
  (_ : ∀ w' d', PermIn a b d d' → SortedIn ltInt a b d' → Rf w w' g e cap d' → K (.tuple #[]) w'), kg P F.fu [.slice (some ⟨g, 0, none⟩) n cap, .int .i64 a, .int .i64 b, .int .i64 limit] w K
section
variable {m : Nat} {w : World} {g cap n : Nat} {e : TypeId} {d d5 : Array Int} {a0 b0 a b pv hint4 lim2 : Nat} {wb wp : Bool} {x0 : List Value} {K : KV}
theorem axe (ih : IH m) (h6 : n < 60000) (hm : b0 - a0 ≤ m + 1) (hbb : b - a ≤ b0 - a0) (hbn : b ≤ n) (hab : a ≤ b) (hpv1 : a ≤ pv) (hpv2 : pv < b) (hlim2 : lim2 < 1000) {w5 : World} (H5 : Rf w w5 g e cap d5) (hn5 : d5.size = n) (B5 : Below ltInt a b d5)
  (hfin5 : ∀ R, PermIn a b d5 R → SortedIn ltInt a b R → PermIn a0 b0 d R ∧ SortedIn ltInt a0 b0 R) (e5 : gv x0 5 = .int .i64 (a : Nat)) (e8 : gv x0 8 = .bool wp) (e12 : gv x0 12 = .bool wb) (e13 : gv x0 13 = .int .i64 (b : Nat)) (m5 : ms x0 5 = a) (m13 : ms x0 13 = b) (v0 : Value) :
  M.be.j6 (.slice (some ⟨g, 0, none⟩) n cap) [v0, .int .i64 (a : Nat)] x0 [.int .i64 (pv : Nat), .int .i64 (hint4 : Nat)] (.int .i64 ((b - a : Nat) : Int)) [.int .i64 (lim2 : Nat)] (fun x' w' => PdI w g e cap n a0 b0 d x' w' ∧ ms x' 13 - ms x' 5 < ms x0 13 - ms x0 5) w5 K := by
 unfold M.be.j6
 simp only [g20, g21, e13]
 rw [M.aq.fcall]
 refine atm H5.row hn5 (by omega) hbn hpv1 hpv2 fun w7 H7 => ?_
 have H7' := H5.trans H7
 obtain ⟨r1, r2, r3, rBa, rBr, rL, rR⟩ := round_part swo_ltInt (partition_holds ltInt) hpv1 hpv2 (by omega) B5 (show partition ltInt d5 a b pv = ((partition ltInt d5 a b pv).1, (partition ltInt d5 a b pv).2.1, (partition ltInt d5 a b pv).2.2) from rfl)
 generalize (partition ltInt d5 a b pv).1 = mid at *
 generalize (partition ltInt d5 a b pv).2.1 = ap at *
 generalize (partition ltInt d5 a b pv).2.2 = d7 at *
 have hn7 : d7.size = n := by omega
 have wl : IntKind.i64.wrap ((mid : Int) - a) = ((mid - a : Nat) : Int) := yd (by omega) (by omega)
 have wr : IntKind.i64.wrap ((b : Int) - mid) = ((b - mid : Nat) : Int) := yd (by omega) (by omega)
 have wm : IntKind.i64.wrap ((mid : Int) + 1) = ((mid + 1 : Nat) : Int) := qr (by omega)
 have bq : ∀ (x : Int) (t : TypeId) (rx ry : Operand) (w : World) (K : KV), ib P .quo t rx ry (.int .i64 x) (.int .i64 8) w K = K (.int .i64 (IntKind.i64.wrap (x.tdiv 8))) w := fun x t rx ry w K => amn (by decide)
 simp only [aex, afa, g0, lk, wl, wr, bq, lh, rh]
 by_cases hlt : mid - a < b - mid
 ·have hlt' : ((mid - a : Nat) : Int) < ((b - mid : Nat) : Int) := by omega
  simp only [hlt', decide_true, Eng.cond_true]
  rw [M.be.fcall]
  refine ih H7.row hn7 h6 (by omega) r1 (by omega) hlim2 rBa fun w8 d8 P8 S8 H8 => ?_
  obtain ⟨hBL, hfinL⟩ := rL d8 P8 S8
  simp only [kz, wm]
  refine ⟨⟨_, _, _, _, _, _, _, _, _, mid + 1, b, lim2, _, ap, d8, rfl, hlim2, ⟨H7'.trans H8, by rw [P8.1]; exact hn7, by omega, by omega, hbn, hBL, fun R h1 h2 => ?_⟩⟩, ?_⟩
  ·obtain ⟨k1, k2⟩ := hfinL R h1 h2
   exact hfin5 R k1 k2
  ·have : ∀ y0 y1 y2 y3 y4 y6 y7 y8 y9 y10 y11 y12 : Value, ms [y0, y1, y2, y3, y4, .int .i64 ((mid + 1 : Nat) : Int), y6, y7, y8, y9, y10, y11, y12, .int .i64 (b : Nat)] 13 = b ∧ ms [y0, y1, y2, y3, y4, .int .i64 ((mid + 1 : Nat) : Int), y6, y7, y8, y9, y10, y11, y12, .int .i64 (b : Nat)] 5 = mid + 1 := fun _ _ _ _ _ _ _ _ _ _ _ _ => ⟨rfl, rfl⟩
   rw [(this _ _ _ _ _ _ _ _ _ _ _ _).1, (this _ _ _ _ _ _ _ _ _ _ _ _).2, m5, m13]; omega
 ·have hlt' : ¬ ((mid - a : Nat) : Int) < ((b - mid : Nat) : Int) := by omega
  simp only [hlt', decide_false, Eng.cond_false, kz, wm]
  rw [M.be.fcall]
  refine ih H7.row hn7 h6 (by omega) (by omega) hbn hlim2 rBr fun w8 d8 P8 S8 H8 => ?_
  obtain ⟨hBL, hfinL⟩ := rR d8 P8 S8
  refine ⟨⟨_, _, _, _, _, _, _, _, _, a, mid, lim2, _, ap, d8, rfl, hlim2, ⟨H7'.trans H8, by rw [P8.1]; exact hn7, by omega, by omega, by omega, hBL, fun R h1 h2 => ?_⟩⟩, ?_⟩
  ·obtain ⟨k1, k2⟩ := hfinL R h1 h2
   exact hfin5 R k1 k2
  ·have : ∀ y0 y1 y2 y3 y4 y6 y7 y8 y9 y10 y11 y12 : Value, ms [y0, y1, y2, y3, y4, .int .i64 (a : Nat), y6, y7, y8, y9, y10, y11, y12, .int .i64 (mid : Nat)] 13 = mid ∧ ms [y0, y1, y2, y3, y4, .int .i64 (a : Nat), y6, y7, y8, y9, y10, y11, y12, .int .i64 (mid : Nat)] 5 = a := fun _ _ _ _ _ _ _ _ _ _ _ _ => ⟨rfl, rfl⟩
   rw [(this _ _ _ _ _ _ _ _ _ _ _ _).1, (this _ _ _ _ _ _ _ _ _ _ _ _).2, m5, m13]; omega
theorem bnh (ih : IH m) (h6 : n < 60000) (hm : b0 - a0 ≤ m + 1) (hbb : b - a ≤ b0 - a0) (hbn : b ≤ n) (hab : a ≤ b) (hpv1 : a ≤ pv) (hpv2 : pv < b) (hlim2 : lim2 < 1000) {w5 : World} (H5 : Rf w w5 g e cap d5) (hn5 : d5.size = n) (B5 : Below ltInt a b d5)
  (hfin5 : ∀ R, PermIn a b d5 R → SortedIn ltInt a b R → PermIn a0 b0 d R ∧ SortedIn ltInt a0 b0 R) (e5 : gv x0 5 = .int .i64 (a : Nat)) (e8 : gv x0 8 = .bool wp) (e12 : gv x0 12 = .bool wb) (e13 : gv x0 13 = .int .i64 (b : Nat)) (m5 : ms x0 5 = a) (m13 : ms x0 13 = b) :
  M.be.j5 x0 (.slice (some ⟨g, 0, none⟩) n cap) [.int .i64 (pv : Nat), .int .i64 (hint4 : Nat)] (fun x' w' => PdI w g e cap n a0 b0 d x' w' ∧ ms x' 13 - ms x' 5 < ms x0 13 - ms x0 5) (.int .i64 ((b - a : Nat) : Int)) [.int .i64 (lim2 : Nat)] w5 K := by
 unfold M.be.j5
 simp only [gp, qi, wx, e5, e13, g20, true_and, and_true, rk, zz]
 by_cases ha0 : 0 < a
 ·have ha0' : (0 : Int) < (a : Int) := by omega
  have hwa : IntKind.i64.wrap ((a : Int) - 1) = ((a - 1 : Nat) : Int) := by rw [ia]; omega
  have a1 := H5.row.at (show a - 1 < d5.size by omega)
  have a2 := H5.row.at (show pv < d5.size by omega)
  have b1 : ((a - 1 : Nat) : Int) < n := by omega
  have b2 : (pv : Int) < n := by omega
  simp [ha0, ha0', hwa, a1, a2, b1, b2]
  refine sd _ _ ?_
  cases hl : ltInt d5[a - 1]! d5[pv]! with
  | true =>
   simp
   exact axe ih h6 hm hbb hbn hab hpv1 hpv2 hlim2 (H5.dr 1) hn5 B5 hfin5 e5 e8 e12 e13 m5 m13 _
  | false =>
   simp
   rw [M.cq.fcall]
   refine ajg (H5.dr 1).row hn5 (by omega) hbn hpv1 hpv2 fun w7 H7 => ?_
   have H7' := (H5.dr 1).trans H7
   obtain ⟨r1, r2, r3, rB, rF⟩ := round_eq swo_ltInt (partitionEqual_holds ltInt) ha0 hpv1 hpv2 (by omega) B5 hl (show partitionEqual ltInt d5 a b pv = ((partitionEqual ltInt d5 a b pv).1, (partitionEqual ltInt d5 a b pv).2) from rfl)
   generalize (partitionEqual ltInt d5 a b pv).1 = mid at *
   generalize (partitionEqual ltInt d5 a b pv).2 = d7 at *
   have hn7 : d7.size = n := by omega
   refine ⟨⟨_, _, _, _, _, _, _, _, _, mid, b, lim2, wb, wp, d7, by rw [e8, e12], hlim2, ⟨H7', hn7, r2, by omega, hbn, rB, fun R h1 h2 => ?_⟩⟩, ?_⟩
   ·obtain ⟨k1, k2⟩ := rF R h1 h2
    exact hfin5 R k1 k2
   ·have : ∀ y0 y1 y2 y3 y4 y6 y7 y8 y9 y10 y11 y12 : Value, ms [y0, y1, y2, y3, y4, .int .i64 (mid : Nat), y6, y7, y8, y9, y10, y11, y12, .int .i64 (b : Nat)] 13 = b ∧ ms [y0, y1, y2, y3, y4, .int .i64 (mid : Nat), y6, y7, y8, y9, y10, y11, y12, .int .i64 (b : Nat)] 5 = mid := fun _ _ _ _ _ _ _ _ _ _ _ _ => ⟨rfl, rfl⟩
    rw [(this _ _ _ _ _ _ _ _ _ _ _ _).1, (this _ _ _ _ _ _ _ _ _ _ _ _).2, m5, m13]; omega
 ·have ha0' : ¬ (0 : Int) < (a : Int) := by omega
  simp [ha0, ha0']
  exact axe ih h6 hm hbb hbn hab hpv1 hpv2 hlim2 (H5.dr 1) hn5 B5 hfin5 e5 e8 e12 e13 m5 m13 _
theorem awp {d1 : Array Int} (ih : IH m) (h6 : n < 60000) (hm : b0 - a0 ≤ m + 1) (hbb : b - a ≤ b0 - a0) (hbn : b ≤ n) (hab : a ≤ b) (hlim2 : lim2 < 1000) (h12 : ¬ b - a ≤ 12) (hn1 : d1.size = n) (hB1 : Below ltInt a b d1)
  (hfin : ∀ R, PermIn a b d1 R → SortedIn ltInt a b R → PermIn a0 b0 d R ∧ SortedIn ltInt a0 b0 R) (h : ∀ w' d', PermIn a0 b0 d d' → SortedIn ltInt a0 b0 d' → Rf w w' g e cap d' → K (.tuple #[]) w')
  (e5 : gv x0 5 = .int .i64 (a : Nat)) (e8 : gv x0 8 = .bool wp) (e12 : gv x0 12 = .bool wb) (e13 : gv x0 13 = .int .i64 (b : Nat)) (m5 : ms x0 5 = a) (m13 : ms x0 13 = b) {w4 : World} {d4 : Array Int} (H4 : Rf w w4 g e cap d4) (P4 : PermIn a b d1 d4) (hpv1 : a ≤ pv) (hpv2 : pv < b) :
  M.be.j4 x0 [.int .i64 (pv : Nat), .int .i64 (hint4 : Nat)] (.slice (some ⟨g, 0, none⟩) n cap) (fun x' w' => PdI w g e cap n a0 b0 d x' w' ∧ ms x' 13 - ms x' 5 < ms x0 13 - ms x0 5) (.int .i64 ((b - a : Nat) : Int)) [.int .i64 (lim2 : Nat)] w4 K := by
 have hn4 : d4.size = n := by rw [P4.1]; exact hn1
 have B4 := hB1.perm (by omega) P4
 have st5 : ∀ (w5 : World) (d5 : Array Int), Rf w w5 g e cap d5 → PermIn a b d1 d5 →
   M.be.j5 x0 (.slice (some ⟨g, 0, none⟩) n cap) [.int .i64 (pv : Nat), .int .i64 (hint4 : Nat)] (fun x' w' => PdI w g e cap n a0 b0 d x' w' ∧ ms x' 13 - ms x' 5 < ms x0 13 - ms x0 5) (.int .i64 ((b - a : Nat) : Int)) [.int .i64 (lim2 : Nat)] w5 K := fun w5 d5 H5 P5 =>
  bnh ih h6 hm hbb hbn hab hpv1 hpv2 hlim2 H5 (by rw [P5.1]; exact hn1) (hB1.perm (by omega) P5) (fun R h1 h2 => hfin R (permIn_trans _ _ _ a b P5 h1) h2) e5 e8 e12 e13 m5 m13
 unfold M.be.j4
 simp only [gp, e5, e8, e12, e13, zz, g21]
 cases wb with
 | false => simp; exact st5 w4 d4 H4 P4
 | true =>
  cases wp with
  | false => simp; exact st5 w4 d4 H4 P4
  | true =>
   by_cases hh1 : hint4 = 1
   ·have hd : decide ((hint4 : Int) = 1) = true := by rw [decide_eq_true_eq]; omega
    simp only [zz, anh, aby, beq_self_eq_true, _root_.cond_true, ud, hd, Eng.cond_true]
    rw [M.aj.fcall]
    refine apr H4.row hn4 (by omega) hbn (by omega) fun w5 H5 => ?_
    have hpi := partialInsertionSort_holds swo_ltInt d4 a b (by omega) (by omega) B4
    cases hr : (partialInsertionSort ltInt d4 a b).2 with
    | true =>
     simp
     obtain ⟨p1, p2⟩ := hfin _ (permIn_trans _ _ _ a b P4 hpi.1) (hpi.2 hr)
     exact h w5 _ p1 p2 (H4.trans H5)
    | false =>
     simp
     exact st5 w5 _ (H4.trans H5) (permIn_trans _ _ _ a b P4 hpi.1)
   ·have hd : decide ((hint4 : Int) = 1) = false := by rw [decide_eq_false_iff_not]; omega
    simp only [zz, anh, aby, beq_self_eq_true, _root_.cond_true, ud, hd, Eng.cond_false]
    exact st5 w4 d4 H4 P4
theorem atk {d1 : Array Int} (ih : IH m) (h6 : n < 60000) (hm : b0 - a0 ≤ m + 1) (hbb : b - a ≤ b0 - a0) (hbn : b ≤ n) (hab : a ≤ b) (hlim2 : lim2 < 1000) (h12 : ¬ b - a ≤ 12) (hn1 : d1.size = n) (hB1 : Below ltInt a b d1)
  (hfin : ∀ R, PermIn a b d1 R → SortedIn ltInt a b R → PermIn a0 b0 d R ∧ SortedIn ltInt a0 b0 R) (h : ∀ w' d', PermIn a0 b0 d d' → SortedIn ltInt a0 b0 d' → Rf w w' g e cap d' → K (.tuple #[]) w')
  (e5 : gv x0 5 = .int .i64 (a : Nat)) (e8 : gv x0 8 = .bool wp) (e12 : gv x0 12 = .bool wb) (e13 : gv x0 13 = .int .i64 (b : Nat)) (m5 : ms x0 5 = a) (m13 : ms x0 13 = b) {w2 : World} {d2 : Array Int} (H2 : Rf w w2 g e cap d2) (P2 : PermIn a b d1 d2) :
  M.be.j3 (.slice (some ⟨g, 0, none⟩) n cap) x0 (fun x' w' => PdI w g e cap n a0 b0 d x' w' ∧ ms x' 13 - ms x' 5 < ms x0 13 - ms x0 5) (.int .i64 ((b - a : Nat) : Int)) [.int .i64 (lim2 : Nat)] w2 K := by
 have hn2 : d2.size = n := by rw [P2.1]; exact hn1
 have B2 := hB1.perm (by omega) P2
 unfold M.be.j3
 simp only [e5, e13, gp]
 rw [M.du.fcall]
 refine bhy H2.row hn2 (by omega) hbn (by omega) fun w3 p hint hp1 hp2 hh H3 => ?_
 have H3' := H2.trans H3
 simp only [aex, afa, ud]
 by_cases hh2 : hint = 2
 ·have hh2' : (hint : Int) = 2 := by omega
  simp only [hh2', decide_true, Eng.cond_true]
  rw [M.dy.fcall]
  refine azr H3.row hn2 (by omega) hbn (by omega) fun w4 H4 => ?_
  have hrev := reverseRange_holds d2 a b hab (by omega)
  have w1' : IntKind.i64.wrap ((b : Int) - 1) = ((b - 1 : Nat) : Int) := by rw [ia]; omega
  have w2' : IntKind.i64.wrap ((p : Int) - a) = ((p - a : Nat) : Int) := yd (by omega) (by omega)
  have w3' : IntKind.i64.wrap (((b - 1 : Nat) : Int) - ((p - a : Nat) : Int)) = ((b - 1 - (p - a) : Nat) : Int) := yd (by omega) (by omega)
  simp only [lk, w1', w2', w3']
  exact awp (hint4 := 1) ih h6 hm hbb hbn hab hlim2 h12 hn1 hB1 hfin h e5 e8 e12 e13 m5 m13 (H3'.trans H4) (permIn_trans _ _ _ a b P2 hrev) (by omega) (by omega)
 ·have hh2' : ¬ (hint : Int) = 2 := by omega
  simp only [hh2', decide_false, Eng.cond_false]
  exact awp ih h6 hm hbb hbn hab hlim2 h12 hn1 hB1 hfin h e5 e8 e12 e13 m5 m13 H3' P2 hp1 hp2
end
theorem bmf : ∀ (m : Nat), IH m := by
 intro m
 induction m with
 | zero =>
  intro w g cap n e d H hn h6 a b limit hm hab hb hlim hB K h
  -- nothing to sort
  have hba : b = a := by omega
  subst hba
  apply M.be.calls
  unfold M.be
  refine ⟨fun x w1 => x = [undef, .int .i64 (limit : Nat), undef, undef, undef, .int .i64 (b : Nat), undef, undef, .bool true, undef, undef, undef, .bool true, .int .i64 (b : Nat)] ∧ w1 = w, fun _ _ => 0, ⟨rfl, rfl⟩, ?_⟩
  rintro x w1 ⟨rfl, rfl⟩
  unfold M.be.j0
  have hw0 : IntKind.i64.wrap ((b : Int) - b) = 0 := by rw [ia]; omega
  simp only [f13, f5, lk, hw0, gp, acd]
  rw [M.cp.fcall]
  simp
  refine agz H hn (by omega) hb hb fun w2 H2 => ?_
  have hi := insertionSort_holds swo_ltInt d b b (Nat.le_refl _) (by omega)
  exact h w2 _ hi.1 hi.2 H2
 | succ m ih =>
  intro w g cap n e d H hn h6 a0 b0 limit0 hm hab0 hb0 hlim0 hB K h
  apply M.be.calls
  unfold M.be
  refine ⟨PdI w g e cap n a0 b0 d, fun x _ => ms x 13 - ms x 5, ⟨_, _, _, _, _, _, _, _, _, a0, b0, limit0, true, true, d, rfl, hlim0, ⟨H.xe, hn, hab0, Nat.le_refl _, hb0, hB, fun R h1 h2 => ⟨h1, h2⟩⟩⟩, ?_⟩
  rintro x w1 ⟨u0, u2, u3, u4, u6, u7, u9, u10, u11, a, b, limit, wb, wp, d1, rfl, hlim, ⟨H1, hn1, hab, hbb, hbn, hB1, hfin⟩⟩
  generalize hx0 : [u0, .int .i64 (limit : Nat), u2, u3, u4, .int .i64 (a : Nat), u6, u7, .bool wp, u9, u10, u11, .bool wb, .int .i64 (b : Nat)] = x0
  have e1 : gv x0 1 = .int .i64 (limit : Nat) := by rw [← hx0]; rfl
  have e5 : gv x0 5 = .int .i64 (a : Nat) := by rw [← hx0]; rfl
  have e8 : gv x0 8 = .bool wp := by rw [← hx0]; rfl
  have e12 : gv x0 12 = .bool wb := by rw [← hx0]; rfl
  have e13 : gv x0 13 = .int .i64 (b : Nat) := by rw [← hx0]; rfl
  have m5 : ms x0 5 = a := by simp [ms, e5]
  have m13 : ms x0 13 = b := by simp [ms, e13]
  clear hx0
  have hw0 : IntKind.i64.wrap ((b : Int) - a) = ((b - a : Nat) : Int) := yd (by omega) (by omega)
  unfold M.be.j0
  simp only [e13, e5, lk, hw0, gp, acd]
  by_cases h12 : b - a ≤ 12
  ·have h12' : ((b - a : Nat) : Int) ≤ 12 := by omega
   simp only [h12', decide_true, Eng.cond_true]
   rw [M.cp.fcall]
   refine agz H1.row hn1 (by omega) hbn (by omega) fun w2 H2 => ?_
   have hi := insertionSort_holds swo_ltInt d1 a b hab (by omega)
   obtain ⟨p1, p2⟩ := hfin _ hi.1 hi.2
   exact h w2 _ p1 p2 (H1.trans H2)
  have h12' : ¬ ((b - a : Nat) : Int) ≤ 12 := by omega
  simp only [h12', decide_false, Eng.cond_false]
  unfold M.be.j1
  simp only [e1, e5, e13, gp, ud]
  by_cases hl0 : limit = 0
  ·have hl0' : (limit : Int) = 0 := by omega
   simp only [hl0', decide_true, Eng.cond_true]
   rw [M.cm.fcall]
   refine avl H1.row hn1 (by omega) hbn (by omega) fun w2 H2 => ?_
   have hi := heapSort_holds swo_ltInt d1 a b hab (by omega)
   obtain ⟨p1, p2⟩ := hfin _ hi.1 hi.2
   exact h w2 _ p1 p2 (H1.trans H2)
  have hl0' : ¬ (limit : Int) = 0 := by omega
  simp only [hl0', decide_false, Eng.cond_false]
  unfold M.be.j2
  simp only [e12, e1, e5, e13, gp, atu]
  cases wb with
  | true =>
   simp
   exact atk ih h6 hm hbb hbn hab hlim h12 hn1 hB1 hfin h e5 e8 e12 e13 m5 m13 H1 (permIn_refl d1 a b)
  | false =>
   simp
   rw [M.cy.fcall]
   refine bep H1.row hn1 h6 hbn (by omega) fun w2 d2 P2 H2 => ?_
   have wl : IntKind.i64.wrap ((limit : Int) - 1) = ((limit - 1 : Nat) : Int) := by rw [ia]; omega
   simp only [wl]
   exact atk ih h6 hm hbb hbn hab (by omega) h12 hn1 hB1 hfin h e5 e8 e12 e13 m5 m13 (H1.trans H2) P2
theorem aaf {w : World} {g cap n : Nat} {e : TypeId} {d : Array Int} (H : Rw w g e cap d) (hn : d.size = n) (h6 : n < 60000) {K : KV}
  (h : ∀ w', Rf w w' g e cap (d.toList.mergeSort fun x y => decide (x ≤ y)).toArray → K (.tuple #[]) w') : kg P F.ge [.slice (some ⟨g, 0, none⟩) n cap] w K := by
 apply M.dv.calls
 unfold M.dv
 have i64B : xt P T.b .i64 = true := by kernel_rfl
 have uB : xt P T.ay .u64 = true := by kernel_rfl
 simp
 rw [og i64B uB, abv (by omega), M.de.fcall]
 refine ann (by omega) ?_
 rw [M.be.fcall]
 have hlen : bitsLen n ≤ 16 := (bitsLen_le_iff n 16).2 (by omega)
 refine bmf n (a := 0) H hn h6 (by omega) (Nat.zero_le _) (Nat.le_refl _) (by omega) (.inl rfl) fun w' d' h1 h2 H' => ?_
 have hs : d'.toList = d.toList.mergeSort (fun x y => decide (x ≤ y)) := by
  have := sorted_unique_holds swo_ltInt (fun x y h1 h2 => by simp [ltInt] at h1 h2; omega) d d' (by rw [hn]; exact h1) (by rw [hn]; exact h2)
  rw [this]
  congr 1
  funext x y
  simp only [ltInt]
  by_cases hxy : x ≤ y
  ·simp [hxy]
  ·have : y < x := by omega
   simp [hxy, this]
 refine h w' ?_
 rw [← hs]
 exact H'
theorem yo {w : World} {K : KV} (h : K (.tuple #[]) w) : kg P F.ge [.slice none 0 0] w K := by
 apply M.dv.calls
 unfold M.dv
 have i64B : xt P T.b .i64 = true := by kernel_rfl
 have uB : xt P T.ay .u64 = true := by kernel_rfl
 simp
 rw [og i64B uB, show IntKind.u64.wrap 0 = ((0 : Nat) : Int) from by decide, M.de.fcall]
 refine ann (by omega) ?_
 rw [M.be.fcall]
 apply M.be.calls
 unfold M.be
 refine ⟨fun x w1 => gv x 5 = .int .i64 0 ∧ gv x 13 = .int .i64 0 ∧ w1 = w, fun _ _ => 0, ⟨rfl, rfl, rfl⟩, ?_⟩
 rintro x w1 ⟨e5, e13, rfl⟩
 unfold M.be.j0
 have w0 : IntKind.i64.wrap 0 = 0 := by decide
 simp [e5, e13, w0]
 rw [M.cp.fcall]
 apply M.cp.calls
 unfold M.cp
 have w1' : IntKind.i64.wrap 1 = 1 := by decide
 simp [w1']
 refine ⟨fun x w2 => gv x 1 = .int .i64 1 ∧ w2 = w1, fun _ _ => 0, ⟨rfl, rfl⟩, ?_⟩
 rintro x w2 ⟨e1, rfl⟩
 unfold M.cp.j0
 simp [e1]
 exact h
end Go.Proofs.YtfnhoaemapheoaaGreat.SG
set_option maxRecDepth 100000
namespace Go.Proofs.YtfnhoaemapheoaaGreat.Sint
open Go.Eng Go.Sort
abbrev Rw (w : World) (g : Nat) (e : TypeId) (cap : Nat) (d : Array Int) : Prop := @SG.Rw seI w g e cap d
abbrev Rf (w w' : World) (g : Nat) (e : TypeId) (cap : Nat) (d : Array Int) : Prop := @SG.Rf seI w w' g e cap d
theorem akq {w w' : World} {g : Nat} {e : TypeId} {cap : Nat} {d : Array Int} (h : Rf w w' g e cap d) : Rw w' g e cap d := @SG.Rf.row seI _ _ _ _ _ _ h
theorem aqh {w w' : World} {g : Nat} {e : TypeId} {cap : Nat} {d : Array Int} (h : Rf w w' g e cap d) : Fr (fun b => b = g) w w' := @SG.Rf.fr seI _ _ _ _ _ _ h
abbrev acx (x : Int) : Value := .int .i64 x
abbrev sp (x : Int) : List Value := [.int .i64 x]
abbrev OwN (w : World) (base : Nat) (v : Value) (l : List Int) : Prop := Ow w base T.b 1 sp v l
theorem aur : auc P T.ad T.b acx sp 1 8 where
 et := et.ad
 by5 := by decide
 ld := fun b i w K => kr
 st := fun b i a n c w K => kr
 bs := fun x w K => kr
 len := fun _ => rfl
 one := fun _ u hu => by simp at hu; subst hu; rfl
 ne := by decide
theorem afw {g : FuncId} {gn : Func} (hg : P.funcs[g]? = some gn) (hgn : (gn.name == "runtime.NumGoroutine") = false) (hgb : gn.body.isNone = false) {cap : List Value} {w : World} {Out : List Int → Prop} (hs : afv P g cap acx Out 60000 w) {K : KV}
  (h : ∀ w' v xs, Out xs → OwN w' w.heap.size v xs → Fz w w' → K v w') : kg P F.de [.func (.func g) #[] cap.toArray] w K := by
 apply M.cv.calls
 unfold M.cv
 have hf : ∀ (args : List Value) (w : World) (K : KV), gi P F.ag args w K = kg P F.ag args w K := fun args w K => ado FN.ag.at (by kernel_rfl) (by kernel_rfl) args w K
 rw [hf]
 exact acr (tQ := T.bl) (aru aur) aur.ld FN.ag.at (by kernel_rfl) (by kernel_rfl) (by kernel_rfl) hg hgn hgb hs h
theorem Ow.rw {w : World} {base g n cap : Nat} {l : List Int} (h : OwN w base (.slice (some ⟨g, 0, none⟩) n cap) l) : n = l.length ∧ base ≤ g ∧ cap ≤ maxLen ∧ Rw w g T.b cap l.toArray := by
 rcases h.2 with ⟨h0, _⟩ | ⟨g', cap', cur, hv, hb, hc, h1, h2, h3, h4⟩
 ·cases h0
 ·injection hv with q1 q2 q3
  injection q1 with q1
  injection q1 with q1
  subst q1 q2 q3
  refine ⟨rfl, hb, h2, cur, hc, by simpa using h3, by simpa using h1, fun j hj => ?_⟩
  show cur[j]? = some (.int .i64 l.toArray[j]!)
  have hj' : j < l.length := by simpa using hj
  have h5 : (cur.toList.take (l.length * 1))[j]? = (l.flatMap sp)[j]? := by rw [h4]
  rw [List.getElem?_take_of_lt (by omega)] at h5
  have h6 : (l.flatMap sp)[j]? = some (.int .i64 l[j]) := by
   have := zk (enc := sp) (sz := 1) (fun _ => rfl) l j l[j] 0 (.int .i64 l[j]) (List.getElem?_eq_getElem hj') rfl
   simpa using this
  rw [h6] at h5
  simpa [hj'] using h5
theorem aaa : ∀ l : List Int, l.flatMap sp = l.map acx
 | [] => rfl
 | x :: l => by rw [List.flatMap_cons, aaa l]; rfl
theorem aqc {w : World} {base g cap : Nat} {l : List Int} (hb : base ≤ g) (hm : cap ≤ maxLen) (h : Rw w g T.b cap l.toArray) : OwN w base (.slice (some ⟨g, 0, none⟩) l.length cap) l := by
 obtain ⟨cur, h1, h2, h3, h4'⟩ := h
 have h4 : ∀ j, j < l.toArray.size → cur[j]? = some (.int .i64 l.toArray[j]!) := h4'
 refine ⟨by rw [aaa]; simp, .inr ⟨g, cap, cur, rfl, hb, h1, by simpa using h3, hm, by simpa using h2, ?_⟩⟩
 rw [aaa]
 apply List.ext_getElem?
 intro j
 by_cases hj : j < l.length
 ·rw [List.getElem?_take_of_lt (by omega)]
  have := h4 j (by simpa using hj)
  simp [hj] at this ⊢
  exact this
 ·rw [List.getElem?_take_eq_none (by omega), List.getElem?_eq_none (by simp; omega)]
theorem yo {w : World} {K : KV} (h : K (.tuple #[]) w) : kg P F.ab [.slice none 0 0] w K := @SG.yo seI w K h
theorem aaf {w : World} {g cap n : Nat} {e : TypeId} {d : Array Int} (H : Rw w g e cap d) (hn : d.size = n) (h6 : n < 60000) {K : KV}
  (h : ∀ w', Rf w w' g e cap (d.toList.mergeSort fun x y => decide (x ≤ y)).toArray → K (.tuple #[]) w') : kg P F.ab [.slice (some ⟨g, 0, none⟩) n cap] w K := @SG.aaf seI w g cap n e d H hn h6 K h
def mw (l : List Int) : List Int := l.mergeSort fun x y => decide (x ≤ y)
theorem nu (l : List Int) : (mw l).Perm l := List.mergeSort_perm ..
theorem vg {l l' : List Int} (h : l.Perm l') : mw l = mw l' := by
 unfold mw
 have hs : ∀ l : List Int, (l.mergeSort fun x y => decide (x ≤ y)).Pairwise fun a b => decide (a ≤ b) = true := fun l => List.pairwise_mergeSort (fun a b c h1 h2 => by simp at *; omega) (fun a b => by simp; omega) l
 exact List.Perm.eq_of_pairwise (fun a b _ _ h1 h2 => by simp at h1 h2; omega) (hs l) (hs l') (((List.mergeSort_perm ..).trans h).trans (List.mergeSort_perm ..).symm)
theorem aie {g : FuncId} {gn : Func} (hg : P.funcs[g]? = some gn) (hgn : (gn.name == "runtime.NumGoroutine") = false) (hgb : gn.body.isNone = false) {cap : List Value} {w : World} {ks : List Int} (hk : ks.length < 60000) (hs : afv P g cap acx (fun xs => xs.Perm ks) 60000 w) {K : KV}
  (h : ∀ w' v, OwN w' w.heap.size v (mw ks) → Fz w w' → K v w') : kg P F.ca [.func (.func g) #[] cap.toArray] w K := by
 apply M.da.calls
 unfold M.da
 rw [M.cv.fcall]
 refine afw hg hgn hgb hs fun w1 v xs hx o1 f1 => ?_
 rw [M.ex.fcall]
 have hlen := hx.length_eq
 rcases o1.2 with ⟨rfl, h0⟩ | ⟨g1, cap1, cur, rfl, hb1, _⟩
 ·refine yo ?_
  have hx0 : xs = [] := List.length_eq_zero_iff.1 h0
  have hk0 : ks = [] := List.length_eq_zero_iff.1 (by rw [← hlen, hx0]; rfl)
  refine h w1 _ ?_ f1
  subst hk0
  rw [show mw [] = [] from by simp [mw]]
  exact Ow.none
 ·obtain ⟨_, hbg, hcm, hrw⟩ := Ow.rw o1
  refine aaf hrw (by simp) (by omega) fun w2 H2 => ?_
  have hp : mw xs = mw ks := vg hx
  have hl : (mw xs).length = xs.length := (nu xs).length_eq
  refine h w2 _ ?_ (f1.mu (aqh H2) fun b hb he => by omega)
  rw [← hp]
  have := aqc (base := w.heap.size) (l := mw xs) hbg hcm (akq H2)
  rw [hl] at this
  exact this
end Go.Proofs.YtfnhoaemapheoaaGreat.Sint
set_option maxRecDepth 100000
namespace Go.Proofs.YtfnhoaemapheoaaGreat.KeyD
open Go.Eng Go.Sort Go.Proofs.YtfnhoaemapheoaaGreat.Sint
def KI (w W : World) (U : Nat → Prop) (r : Nat) (m : MP) (J : List Int → Asn) : KL := fun x w1 => ∃ (done : List Int) (U1 : Nat → Prop), x.length = 1 ∧ xq w1 W.heap.size r .i64 m done ∧ (J done.reverse).ok w1 U1 ∧ (∀ b, U1 b → w.heap.size ≤ b ∧ b < w1.heap.size ∧ b ≠ W.heap.size) ∧ Fr (fun b => w.heap.size ≤ b) W w1
theorem aab {w : World} {it r : Nat} {k : IntKind} {m : MP} {done : List Int} (h : xq w it r k m done) : done.Nodup ∧ ∀ x ∈ done, x ∈ jz m := by
 obtain ⟨es, clk, since, c0, jk, _, _, _, _, _, _, _, _, _, h1, h2⟩ := h
 exact ⟨h1, h2⟩
theorem akd {w : World} {r Bm : Nat} {m : MP} {e : TypeId} (hm : pg w r .i64 m) (hn : (jz m).Nodup) (hB : w.heap[Bm]? = some (.cells #[.map (some r)] e (0, 0))) (hl : m.length < 60000) :
  afv P F.c [.pointer (some ⟨Bm, 0, none⟩)] acx (fun xs => xs.Perm (jz m)) 60000 w := by
 intro l J W U K hf hJ hU hround hend
 apply M.t.calls
 unfold M.t
 have hBm : W.heap[Bm]? = some (.cells #[.map (some r)] e (0, 0)) := hf.heap hB fun h => h
 have c0 := gt hBm 0
 simp only [List.size_toArray, List.getElem?_toArray, List.getElem?_cons_zero] at c0
 have hm' : pg W r .i64 m := hm.ug (hf.jy r hm.lt fun h => h)
 have hrw := hm.lt
 simp [c0]
 refine aqp mt.o hm' fun w1 hi f1 => ?_
 have hWs := hf.size
 have hWlt := (hi.lt).1
 refine ⟨KI w W U r m J, fun _ w1 => tm w1 W.heap.size m.length, ⟨[], U, rfl, hi, (J []).jy hJ f1 fun _ _ h => h, fun b hb => ?_, f1.mono fun _ _ h => h.elim⟩, ?_⟩
 ·have := hU b hb
  have := f1.size
  exact ⟨by omega, by omega, by omega⟩
 rintro x w2 ⟨done, U1, hx1, hi2, hJ2, hU2, f2⟩
 unfold M.t.j0
 refine ara hi2 hn T.bm (fun hall => ?_) fun y v w3 hy hyd hc3 f3 hlt => ?_
 ·have e0 : ∀ w K, exT P (.tuple #[.bool false]) 0 w K = K (.bool false) w := fun _ _ => rfl
  simp [e0]
  obtain ⟨h1, h2⟩ := aab hi2
  refine hend _ w2 done.reverse U1 ?_ hJ2 f2
  refine (List.reverse_perm done).trans ?_
  refine (List.perm_ext_iff_of_nodup h1 hn).2 fun z => ⟨h2 z, fun hz => ?_⟩
  obtain ⟨p, hp, rfl⟩ := List.mem_map.1 hz
  exact hall p hp
 ·simp
  rw [arx hc3]
  simp
  have hnit : ∀ b, U1 b → ¬ b = W.heap.size := fun b hb => (hU2 b hb).2.2
  have hJ3 := (J done.reverse).jy hJ2 f3 hnit
  have hlen : done.length < m.length := by
   obtain ⟨h1, h2⟩ := aab hi2
   have := ub (l := y :: done) (l' := jz m) (List.nodup_cons.2 ⟨hyd, h1⟩) fun z hz => by
    rcases List.mem_cons.1 hz with rfl | hz
    ·exact List.mem_map_of_mem hy
    ·exact h2 z hz
   simp only [jz, List.length_map, List.length_cons] at this
   omega
  have hs3 := f3.size
  refine hround done.reverse y w3 U1 _ hJ3 (fun b hb => ⟨(hU2 b hb).1, by have := (hU2 b hb).2.1; omega⟩) (by simp; omega) fun w4 U4 hJ4 hU4 f4 => ?_
  simp
  have hit : ¬ U1 W.heap.size := fun h => hnit _ h rfl
  have hr1 : ¬ U1 r := fun h => by have := (hU2 r h).1; omega
  have hi3 : xq w3 W.heap.size r .i64 m (y :: done) := hc3.1
  have hi4 := hi3.jy (f4.jy _ hi3.lt.1 hit) (f4.jy _ hi3.lt.2 hr1)
  refine ⟨⟨y :: done, U4, rfl, hi4, by simpa using hJ4, fun b hb => ?_, ?_⟩, ?_⟩
  ·rcases hU4 b hb with h | h
   ·have := hU2 b h
    have := f4.size
    exact ⟨by omega, by omega, by omega⟩
   ·have := hi3.lt.1
    have := f2.size
    exact ⟨by omega, by omega, by omega⟩
  ·refine (f2.mu f3 fun b hb he => by omega).mu f4 fun b hb he => (hU2 b he).1
  ·have : tm w4 W.heap.size m.length = tm w3 W.heap.size m.length := by
    unfold tm
    rw [f4.jy _ hi3.lt.1 hit]
   rw [this]; exact hlt
theorem ang {w : World} {r : Nat} {m : MP} (hm : pg w r .i64 m) (hn : (jz m).Nodup) (hl : m.length < 60000) {K : KV}
  (h : ∀ w' v, OwN w' w.heap.size v (mw (jz m)) → Fz w w' → K v w') :
  gi P F.au [.map (some r)] w fun t w => gi P F.ca [t] w K := by
 rw [M.ag.fcall]
 apply M.ag.calls
 unfold M.ag
 rw [xj, ahp]
 show gi P F.ca _ _ K
 rw [M.da.fcall]
 have f1 : Fz w (w.alloc (.cells #[.map (some r)] T.o)) := (Fr.refl _ w).alloc _
 have hB : (w.alloc (.cells #[.map (some r)] T.o)).heap[w.heap.size]? = some (.cells #[.map (some r)] T.o (0, 0)) := by rw [iq, if_pos rfl]
 have hsz : w.heap.size ≤ (w.alloc (.cells #[.map (some r)] T.o)).heap.size := by simp
 refine aie (ks := jz m) FN.c.at (by kernel_rfl) (by kernel_rfl) (by simpa [jz] using hl) (akd (hm.ug (f1.jy r hm.lt fun h => h)) hn hB hl) fun w2 v o2 f2 => ?_
 exact h w2 v (o2.mono hsz) (f1.trans f2)
end Go.Proofs.YtfnhoaemapheoaaGreat.KeyD
set_option maxRecDepth 100000
namespace Go.Proofs.YtfnhoaemapheoaaGreat
open Go.Eng Go.Proofs.YtfnhoaemapheoaaGreat.Sint
structure Fil where
 n : Int
 kt : List Int
 jj : List Int
structure Dk where
 jb : Int
 left : Int
 jt : Bool
 je : Bool
 fs : List Fil
structure FE where
 n : Int
 p : Nat
 fv : Value
 lv : Value
 kt : List Int
 jj : List Int
def FE.abs (e : FE) : Fil := ⟨e.n, e.kt, e.jj⟩
def FE.ptr (e : FE) : Value := .pointer (some ⟨e.p, 0, none⟩)
def Fil.len (f : Fil) : Nat := f.kt.length + f.jj.length
def Dk.iz (D : Dk) : Nat := (D.fs.map Fil.len).sum
abbrev ki (v : Value) (l : List Int) : Asn := ni T.am 1 aga v l
abbrev SlB (w : World) (v : Value) (l : List Int) : Prop := Sl w 1 aga v l
def bnz (e : FE) : List Asn := [ii e.p #[e.fv, e.lv] T.ah, ki e.fv e.kt, ki e.lv e.jj]
def ye (e : FE) : Asn := pt (bnz e)
def bae (hb r : Nat) (D : Dk) : Asn := ii hb #[.int .i64 D.jb, .map (some r), .int .i64 D.left, .bool D.jt, .bool D.je] T.ag
structure oy (m : MP) (es : List FE) (D : Dk) : Prop where
 fs : D.fs = es.map FE.abs
 ml : m.length = es.length
 mg : ∀ e ∈ es, ly m e.n = some e.ptr
 mz : ∀ k, (∀ e ∈ es, e.n ≠ k) → ly m k = none
 tn : (es.map FE.n).Nodup
 kp : (jz m).Perm (es.map FE.n)
 jb : D.jb ≤ 1048576
 iz : (D.iz : Int) ≤ D.jb
 rng : ∀ e ∈ es, 0 ≤ e.n ∧ e.n < 64
 arm : D.jt = true → 0 ≤ D.left ∧ D.left < 9223372036854775808
def oc (hb r : Nat) (m : MP) (es : List FE) (D : Dk) : List Asn := bae hb r D :: jq r .i64 m :: es.map ye
def il (hb : Nat) (D : Dk) : Asn where
 ok w B := ∃ r m es, oy m es D ∧ Rs (oc hb r m es D) w B
 jy := by
  rintro w w' B S ⟨r, m, es, h1, h2⟩ hf hn
  exact ⟨r, m, es, h1, h2.jy hf hn⟩
section
variable {w0 w : World} {hb r : Nat} {m : MP} {es : List FE} {D : Dk} {R : List Asn} {e : FE}
theorem zi (S : St w0 w (il hb D :: R)) : ∃ r m es, oy m es D ∧ St w0 w (oc hb r m es D ++ R) := by
 obtain ⟨B, ⟨r, m, es, h1, h2⟩, _, cl⟩ := S.open
 exact ⟨r, m, es, h1, cl w _ (Fr.refl _ _) (h2.mono fun b hb => .inl hb)⟩
theorem abi (h : oy m es D) (S : St w0 w (oc hb r m es D ++ R)) : St w0 w (il hb D :: R) := by
 obtain ⟨U, h1, _, g⟩ := S.abq
 exact g w [il hb D] (Fr.refl _ _) ⟨U, ⟨r, m, es, h, h1⟩, fun b hb => .inl hb, trivial⟩
theorem pq (hb r : Nat) (m : MP) (a b : List FE) (e : FE) (D : Dk) (R : List Asn) : (oc hb r m (a ++ e :: b) D ++ R).Perm (ye e :: (oc hb r m (a ++ b) D ++ R)) := by
 unfold oc
 simp only [List.map_append, List.map_cons, List.cons_append, List.append_assoc]
 refine (List.Perm.cons _ (List.Perm.cons _ ?_)).trans ((List.Perm.cons _ (.swap _ _ _)).trans (.swap _ _ _))
 exact List.perm_middle
theorem xz (S : St w0 w (ye e :: R)) : St w0 w (ii e.p #[e.fv, e.lv] T.ah :: ki e.fv e.kt :: ki e.lv e.jj :: R) := St.all.1 S
theorem auy (S : St w0 w (ii e.p #[e.fv, e.lv] T.ah :: ki e.fv e.kt :: ki e.lv e.jj :: R)) : St w0 w (ye e :: R) := St.all.2 S
theorem ul (S : St w0 w (oc hb r m es D ++ R)) : w.heap[hb]? = some (.cells #[.int .i64 D.jb, .map (some r), .int .i64 D.left, .bool D.jt, .bool D.je] T.ag (0, 0)) := St.blk S
theorem afj (S : St w0 w (oc hb r m es D ++ R)) : pg w r .i64 m ∧ (jz m).Nodup := by
 obtain ⟨B, h1, _⟩ := (St.swap S).open
 exact h1.1
theorem qu (h : w.heap[hb]? = some (.cells #[.int .i64 D.jb, .map (some r), .int .i64 D.left, .bool D.jt, .bool D.je] T.ag (0, 0))) :
  gr w hb 0 = some (.int .i64 D.jb) ∧ gr w hb 1 = some (.map (some r)) ∧ gr w hb 2 = some (.int .i64 D.left) ∧ gr w hb 3 = some (.bool D.jt) ∧ gr w hb 4 = some (.bool D.je) ∧ ∀ i, qx w hb i = false :=
 ⟨by rw [gt h]; rfl, by rw [gt h]; rfl, by rw [gt h]; rfl, by rw [gt h]; rfl, by rw [gt h]; rfl, nw h⟩
theorem oy.bly (h : oy m es D) (k : Int) : (ly m k = none ∧ ∀ e ∈ es, e.n ≠ k) ∨ ∃ a e b, es = a ++ e :: b ∧ e.n = k ∧ ly m k = some e.ptr := by
 by_cases hx : ∃ e ∈ es, e.n = k
 ·obtain ⟨e, he, rfl⟩ := hx
  obtain ⟨a, b, hab⟩ := List.append_of_mem he
  exact .inr ⟨a, e, b, hab, rfl, h.mg e he⟩
 ·exact .inl ⟨h.mz k fun e he hk => hx ⟨e, he, hk⟩, fun e he hk => hx ⟨e, he, hk⟩⟩
theorem ars (hh : w.heap[hb]? = some (.cells #[.int .i64 D.jb, .map (some r), .int .i64 D.left, .bool D.jt, .bool D.je] T.ag (0, 0))) {K : KV} (h : K (.int .i64 (if D.je then 10 else 0)) w) : gi P F.bt [.pointer (some ⟨hb, 0, none⟩)] w K := by
 rw [M.dg.fcall]
 apply M.dg.calls
 unfold M.dg
 obtain ⟨_, _, _, _, c4, _⟩ := qu hh
 cases hd : D.je with
 | true => rw [hd] at h c4; simp [c4]; simpa using h
 | false => rw [hd] at h c4; simp [c4]; simpa using h
theorem aiy (hk : oy m es D) (S : St w0 w (oc hb r m es D ++ R)) (k : Int) {K : KV} (h0 : D.je = true → K (.tuple #[.pointer none, .int .i64 10]) w) (h1 : D.je = false → (∀ e ∈ es, e.n ≠ k) → K (.tuple #[.pointer none, .int .i64 11]) w)
  (h2 : D.je = false → ∀ a e b, es = a ++ e :: b → e.n = k → K (.tuple #[e.ptr, .int .i64 0]) w) : gi P F.bx [.pointer (some ⟨hb, 0, none⟩), .int .i64 k] w K := by
 rw [M.cf.fcall]
 apply M.cf.calls
 unfold M.cf
 rw [gp]
 refine ars (ul S) ?_
 obtain ⟨_, c1, _, _, c4, _⟩ := qu (ul S)
 cases hd : D.je with
 | true => simp; exact h0 hd
 | false =>
  simp
  unfold M.cf.j0
  simp [c1]
  rw [aaj mt.o (afj S).1]
  rcases hk.bly k with ⟨hn, hall⟩ | ⟨a, e, b, he, hek, hg⟩
  ·rw [hn]
   simp
   exact h1 hd hall
  ·rw [hg]
   simp [FE.ptr]
   exact h2 hd a e b he hek
theorem arr (S : St w0 w (ye e :: R)) (hl : e.kt.length + e.jj.length ≤ 10000000) {K : KV} (h : ∀ w' v, St w0 w' (ki v (e.kt ++ e.jj) :: ye e :: R) → K v w') : gi P F.ct [e.ptr] w K := by
 rw [M.dx.fcall]
 apply M.dx.calls
 unfold M.dx
 have hb := (xz S).blk
 have c0 : gr w e.p 0 = some e.fv := by rw [gt hb]; rfl
 have c1 : gr w e.p 1 = some e.lv := by rw [gt hb]; rfl
 have s1 : SlB w e.fv e.kt := (xz S).swap.row jr
 have s2 : SlB w e.lv e.jj := (xz S).abn.row jr
 obtain ⟨a1, k1, hv1, _⟩ := id s1
 obtain ⟨a2, k2, hv2, _⟩ := id s2
 rw [hv1] at c0
 rw [hv2] at c1
 simp [FE.ptr, c0, c1]
 rw [← hv1, ← hv2]
 have hcell : w.heap.size < (Eng.dr w 1).heap.size + 1 := by simp
 have hn : ((Eng.dr w 1).alloc (.cells #[e.fv, e.lv] T.f)).heap[w.heap.size]? = some (.cells (([(e.fv, e.kt), (e.lv, e.jj)] : List (Value × List Int)).map (·.1)).toArray T.f (0, 0)) := by
  rw [iq, if_pos (by simp)]; rfl
 have f1 : Fz w ((Eng.dr w 1).alloc (.cells #[e.fv, e.lv] T.f)) := ((Fr.refl _ w).dr 1).alloc _
 rw [M.k.fcall]
 refine CB.aaz (L := [(e.fv, e.kt), (e.lv, e.jj)]) hn (fun p hp => ?_) (by simp [CB.tot]; omega) (by simp) fun w' v o f2 => ?_
 ·simp at hp
  rcases hp with rfl | rfl
  ·exact s1.fr f1 fun _ _ _ h => h
  ·exact s2.fr f1 fun _ _ _ h => h
 ·have hs : w.heap.size ≤ ((Eng.dr w 1).alloc (.cells #[e.fv, e.lv] T.f)).heap.size := f1.size
  refine h w' v (S.add (a := ki v (e.kt ++ e.jj)) (f1.trans f2) (B := fun b => v.ownBlock = some b) ⟨?_, fun b hb => hb⟩ fun b hb => ?_)
  ·simpa using o.mono (Nat.zero_le _)
  ·have := o.lt hb
   exact ⟨by omega, this.2⟩
end
set_option maxRecDepth 100000
def Dk.get (D : Dk) (k : Int) : Option Fil := D.fs.find? fun f => decide (f.n = k)
def Dk.qp (D : Dk) : List Int := D.fs.map Fil.n
def Dk.jg (D : Dk) : List Int := mw D.qp
abbrev si (v : Value) (l : List Int) : Asn := ni T.b 1 sp v l
theorem xf (x : Int) : (sp x).length = 1 := rfl
section
variable {w0 w : World} {hb r : Nat} {m : MP} {es a b : List FE} {D : Dk} {R : List Asn} {e e' : FE}
theorem oy.qp (h : oy m es D) : D.qp = es.map FE.n := by
 unfold Dk.qp
 rw [h.fs, List.map_map]; rfl
theorem oy.nd (h : oy m es D) : (jz m).Nodup := h.kp.nodup_iff.2 h.tn
theorem oy.few (h : oy m es D) : es.length ≤ 64 := by
 have := ub (l := es.map FE.n) (l' := (List.range 64).map Int.ofNat) h.tn fun x hx => by
  obtain ⟨e, he, rfl⟩ := List.mem_map.1 hx
  have := h.rng e he
  exact List.mem_map.2 ⟨e.n.toNat, List.mem_range.2 (by omega), by simp; omega⟩
 simpa using this
theorem oy.xi (h : oy m (a ++ e :: b) D) : D.get e.n = some e.abs := by
 unfold Dk.get
 rw [h.fs]
 have hn := h.tn
 rw [List.map_append, List.map_cons, List.nodup_append] at hn
 rw [List.map_append, List.find?_append]
 have : (a.map FE.abs).find? (fun f => decide (f.n = e.n)) = none := by
  rw [List.find?_eq_none]
  intro f hf
  obtain ⟨x, hx, rfl⟩ := List.mem_map.1 hf
  have := hn.2.2 x.n (List.mem_map_of_mem hx) e.n (List.mem_cons_self ..)
  simp [FE.abs]
  exact decide_eq_false this
 rw [this]
 simp [FE.abs]
theorem oy.acl (h : oy m es D) {k : Int} (hk : ∀ e ∈ es, e.n ≠ k) : D.get k = none := by
 unfold Dk.get
 rw [h.fs, List.find?_eq_none]
 intro f hf
 obtain ⟨x, hx, rfl⟩ := List.mem_map.1 hf
 simp [FE.abs]
 exact decide_eq_false (hk x hx)
theorem bcl (S : St w0 w (oc hb r m (a ++ e :: b) D ++ R)) : w.heap[e.p]? = some (.cells #[e.fv, e.lv] T.ah (0, 0)) ∧ SlB w e.fv e.kt ∧ SlB w e.lv e.jj := by
 have S' := xz (S.perm (pq hb r m a b e D R))
 exact ⟨S'.blk, S'.swap.row jr, S'.abn.row jr⟩
theorem anp (S : St w0 w R) (jb : Int) {K : KV} (h0 : (jb < 1 ∨ 1048576 < jb) → K (.tuple #[.pointer none, .int .i64 1]) w)
  (h1 : 1 ≤ jb → jb ≤ 1048576 → ∀ w' hb, St w0 w' (il hb ⟨jb, 0, false, false, []⟩ :: R) → K (.tuple #[.pointer (some ⟨hb, 0, none⟩), .int .i64 0]) w') : gi P F.ev [.int .i64 jb] w K := by
 rw [M.ev.fcall]
 apply M.ev.calls
 unfold M.ev
 by_cases hx : jb < 1
 ·simp [hx]; exact h0 (.inl hx)
 by_cases hy : 1048576 < jb
 ·simp [hx, hy]; exact h0 (.inr hy)
 simp [hx, hy]
 rw [alb]
 simp
 have hm := ahl w .i64
 refine h1 (by omega) (by omega) _ (w.heap.size + 1) (abi (m := []) (es := []) (r := w.heap.size) ⟨rfl, rfl, fun e he => by (cases he), fun _ _ => rfl, by simp, by simp [jz], by (show jb ≤ 1048576; omega), by (show ((0 : Nat) : Int) ≤ jb; omega), fun e he => by (cases he), fun h => by (cases h)⟩ ?_)
 have f : Fz w ((w.alloc (.map #[] 0)).alloc (.cells #[.int .i64 jb, .map (some w.heap.size), .int .i64 0, .bool false, .bool false] T.ag)) := ((Fr.refl _ w).alloc _).alloc _
 obtain ⟨U, _, _, g⟩ := S.abq (L := [])
 refine g _ (oc (w.heap.size + 1) w.heap.size [] [] ⟨jb, 0, false, false, []⟩) (f.mono fun _ _ h => h.elim) ⟨fun b => b = w.heap.size + 1, ⟨?_, rfl⟩, fun b hb => .inr (by simp at hb ⊢; omega), fun b => b = w.heap.size, ⟨⟨hm.ug (by rw [iq, if_neg (by simp)]), by simp [jz]⟩, rfl⟩, fun b hb => ⟨.inr (by simp at hb ⊢; omega), by simp at hb ⊢; omega⟩, trivial⟩
 rw [iq, if_pos (by simp)]
theorem akf (hk : oy m es D) (S : St w0 w (oc hb r m es D ++ R)) {K : KV} (h : ∀ w' v, St w0 w' (si v D.jg :: (oc hb r m es D ++ R)) → K v w') : gi P F.bs [.pointer (some ⟨hb, 0, none⟩)] w K := by
 rw [M.df.fcall]
 apply M.df.calls
 unfold M.df
 obtain ⟨_, c1, _⟩ := qu (ul S)
 simp [c1]
 have hf := hk.few
 refine KeyD.ang (afj S).1 hk.nd (by rw [hk.ml]; omega) fun w' v o f => ?_
 have hd : mw (jz m) = D.jg := by
  unfold Dk.jg
  rw [hk.qp]
  exact vg hk.kp
 rw [hd] at o
 refine h w' v (S.add (a := si v D.jg) f (B := fun b => v.ownBlock = some b) ⟨o.mono (Nat.zero_le _), fun b hb => hb⟩ fun b hb => ⟨(o.lt hb).1, (o.lt hb).2⟩)
def lenOf (D : Dk) (k : Int) : Nat := ((D.get k).map Fil.len).getD 0
theorem ber {l l' : List Nat} (h : l.Perm l') : l.sum = l'.sum := by
 induction h with
 | nil => rfl
 | cons x _ ih => simp [ih]
 | swap x y l => simp; omega
 | trans _ _ h1 h2 => exact h1.trans h2
theorem bgw (hk : oy m es D) : (D.jg.map (lenOf D)).sum = D.iz := by
 have h1 : (D.jg.map (lenOf D)).Perm (D.qp.map (lenOf D)) := (nu _).map _
 rw [ber h1]
 unfold Dk.iz Dk.qp
 rw [List.map_map]
 congr 1
 apply List.map_congr_left
 intro f hf
 rw [hk.fs] at hf
 obtain ⟨x, hx, rfl⟩ := List.mem_map.1 hf
 obtain ⟨a, b, hab⟩ := List.append_of_mem hx
 subst hab
 show lenOf D x.n = x.abs.len
 unfold lenOf
 rw [hk.xi]; rfl
theorem afu {l : List Nat} {x : Nat} (h : x ∈ l) : x ≤ l.sum := by
 induction l with
 | nil => cases h
 | cons y l ih =>
  rcases List.mem_cons.1 h with rfl | h
  ·simp
  ·have := ih h; simp; omega
def adx (D : Dk) (i : Nat) : Nat := ((D.jg.take i).map (lenOf D)).sum
def UsI (w0 : World) (hb r : Nat) (m : MP) (es : List FE) (D : Dk) (R : List Asn) (v : Value) : KL := fun x w1 => ∃ (u : Value) (i : Nat), x = [u, .int .i64 (adx D i : Nat), .int .i64 (i : Nat)] ∧ i ≤ D.jg.length ∧ St w0 w1 (si v D.jg :: (oc hb r m es D ++ R))
theorem bkd (hk : oy m es D) (S : St w0 w (oc hb r m es D ++ R)) {K : KV} (h : ∀ w', St w0 w' (oc hb r m es D ++ R) → K (.int .i64 (D.iz : Nat)) w') : gi P F.ek [.pointer (some ⟨hb, 0, none⟩)] w K := by
 rw [M.ch.fcall]
 apply M.ch.calls
 unfold M.ch
 rw [gp]
 refine akf hk S fun w1 v S1 => ?_
 have hsl : ∀ {w}, St w0 w (si v D.jg :: (oc hb r m es D ++ R)) → Sl w 1 sp v D.jg := fun S => S.row xf
 rw [(hsl S1).iy (by simp)]
 refine ⟨UsI w0 hb r m es D R v, fun x _ => D.jg.length - ms x 2, ⟨_, 0, rfl, Nat.zero_le _, S1⟩, ?_⟩
 rintro x w2 ⟨u, i, rfl, hi, S2⟩
 have q0 : ∀ a b c : Value, gv [a, b, c] 0 = a := fun _ _ _ => rfl
 have q1 : ∀ a b c : Value, gv [a, b, c] 1 = b := fun _ _ _ => rfl
 have q2 : ∀ a b c : Value, gv [a, b, c] 2 = c := fun _ _ _ => rfl
 have q4 : ∀ a b c d e : Value, gv [a, b, c, d, e] 4 = e := fun _ _ _ _ _ => rfl
 have hus := bgw hk
 have hu := hk.iz
 have hr := hk.jb
 have hfl : D.jg.length = es.length := by unfold Dk.jg; rw [(nu _).length_eq, hk.qp, List.length_map]
 have hfew := hk.few
 simp only [q0, q1, q2, lh, gp]
 by_cases hil : i < D.jg.length
 ·have hil' : (i : Int) < D.jg.length := by omega
  simp only [hil', decide_true, Eng.cond_true]
  unfold M.ch.j2
  obtain ⟨bb, o, cap, hv, hbb, _, hc⟩ := (hsl S2).at hil
  have c0 := hc 0 _ rfl
  simp only [Nat.mul_one, Nat.add_zero] at c0
  have hmem : D.jg[i] ∈ D.jg := List.getElem_mem hil
  have htk : adx D (i + 1) = adx D i + lenOf D D.jg[i] := by
   unfold adx
   rw [List.take_succ_eq_append_getElem hil, List.map_append, List.sum_append]; simp
  have htot : adx D (i + 1) ≤ D.iz := by
   rw [← hus]
   unfold adx
   conv => rhs; rw [← List.take_append_drop (i + 1) D.jg, List.map_append, List.sum_append]
   omega
  generalize hki : D.jg[i] = k at *
  have hmem' : k ∈ es.map FE.n := by
   rw [← hk.qp]; exact (nu _).mem_iff.1 hmem
  obtain ⟨e, he, hek⟩ := List.mem_map.1 hmem'
  obtain ⟨a, b, hab⟩ := List.append_of_mem he
  subst hab
  obtain ⟨hbk, s1, s2⟩ := bcl (a := a) (e := e) (b := b) S2.drop
  obtain ⟨_, c1, _⟩ := qu (ul S2.drop)
  have hg := hk.mg e (by simp)
  have d0 : gr w2 e.p 0 = some e.fv := by rw [gt hbk]; rfl
  have d1 : gr w2 e.p 1 = some e.lv := by rw [gt hbk]; rfl
  obtain ⟨a1, k1, hv1, _⟩ := s1
  obtain ⟨a2, k2, hv2, _⟩ := s2
  rw [hv1] at d0
  rw [hv2] at d1
  have hlu : ∀ K, luT P T.o (.map (some r)) (.int .i64 k) false (Eng.dr w2 1) K = K (.pointer (some ⟨e.p, 0, none⟩)) (Eng.dr w2 1) := fun K => by
   rw [aaj mt.o (pg.ug (w' := Eng.dr w2 1) (afj S2.drop).1 rfl), ← hek, hg]; rfl
  have hlen : lenOf D k = e.kt.length + e.jj.length := by
   unfold lenOf
   rw [← hek, hk.xi]; rfl
  have hw1 : IntKind.i64.wrap ((e.kt.length : Int) + (e.jj.length : Int)) = ((e.kt.length + e.jj.length : Nat) : Int) := by rw [ia]; omega
  have hw2 : IntKind.i64.wrap ((adx D i : Int) + ((e.kt.length + e.jj.length : Nat) : Int)) = ((adx D (i + 1) : Nat) : Int) := by
   rw [ia]; omega
  have hwi : IntKind.i64.wrap ((i : Int) + 1) = ((i + 1 : Nat) : Int) := by rw [ia]; rfl
  rw [hv]
  simp [q0, q1, q2, hil, c0, c1, hlu, d0, d1, hw1, hw2, hwi, -Int.natCast_add]
  rw [← hv]
  refine ⟨⟨_, i + 1, rfl, by omega, S2.jo ((Fr.refl _ w2).dr 1)⟩, ?_⟩
  simp only [ms, q2]
  simp; omega
 ·have hil' : ¬ (i : Int) < D.jg.length := by omega
  simp only [hil', decide_false, Eng.cond_false, q4]
  have : adx D i = D.iz := by
   unfold adx
   rw [List.take_of_length_le (by omega), hus]
  rw [this]
  exact h w2 S2.drop
theorem bhl (S : St w0 w (oc hb r m es D ++ R)) {K : KV} (h : K (.bool D.je) w) : gi P F.bw [.pointer (some ⟨hb, 0, none⟩)] w K := by
 rw [M.dj.fcall]
 apply M.dj.calls
 unfold M.dj
 obtain ⟨_, _, _, _, c4, _⟩ := qu (ul S)
 simp [c4]
 exact h
def Dk.lz (D : Dk) (k : Int) : List Int × Int := if D.je then ([], 10) else match D.get k with
 | none => ([], 11)
 | some f => (f.kt ++ f.jj, 0)
theorem xv (hk : oy m (a ++ e :: b) D) : e.kt.length + e.jj.length ≤ D.iz := by
 have : e.abs.len ∈ D.fs.map Fil.len := by
  rw [hk.fs]
  exact List.mem_map_of_mem (List.mem_map_of_mem (by simp))
 exact afu this
theorem bkw (hk : oy m es D) (S : St w0 w (oc hb r m es D ++ R)) (k : Int) {K : KV} (h : ∀ w' v, St w0 w' (ki v (D.lz k).1 :: (oc hb r m es D ++ R)) → K (.tuple #[v, .int .i64 (D.lz k).2]) w') : gi P F.dd [.pointer (some ⟨hb, 0, none⟩), .int .i64 k] w K := by
 rw [M.dl.fcall]
 apply M.dl.calls
 unfold M.dl
 unfold Dk.lz at h
 have Snil : St w0 w (ki (.slice none 0 0) [] :: (oc hb r m es D ++ R)) := S.add (a := ki (.slice none 0 0) []) (Fr.refl _ w) (B := fun _ => False) ⟨Ow.none, fun b hb => by simp [Value.ownBlock] at hb⟩ fun b hb => hb.elim
 refine aiy hk S k (fun hd => ?_) (fun hd hn => ?_) fun hd a e b he hek => ?_
 ·simp [hd] at h ⊢
  exact h w _ Snil
 ·rw [hk.acl hn] at h
  simp [hd] at h ⊢
  exact h w _ Snil
 ·subst he
  have hl := xv hk
  have hu := hk.iz
  have hr := hk.jb
  rw [← hek, hk.xi] at h
  simp [hd] at h ⊢
  refine arr (S.perm (pq hb r m a b e D R)) (by omega) fun w' v S' => ?_
  exact h w' v (S'.tail (pq hb r m a b e D R).symm)
end
def Dk.ol (D : Dk) (k : Int) (fa lo : List Int) : Dk := { D with fs := D.fs.map fun f => if f.n = k then ⟨k, fa, lo⟩ else f }
def Dk.rem (D : Dk) (k : Int) : Dk := { D with fs := D.fs.filter fun f => decide (f.n ≠ k) }
section
variable {w0 w : World} {hb r : Nat} {m : MP} {es a b : List FE} {D : Dk} {R : List Asn} {e e' : FE}
theorem oy.aqi (h : oy m (a ++ e :: b) D) : ∀ x, x ∈ a ∨ x ∈ b → x.n ≠ e.n := by
 have hn := h.tn
 rw [List.map_append, List.map_cons, List.nodup_append, List.nodup_cons] at hn
 rintro x (hx | hx) he
 ·exact hn.2.2 x.n (List.mem_map_of_mem hx) e.n (List.mem_cons_self ..) he
 ·exact hn.2.1.1 (he ▸ List.mem_map_of_mem hx)
theorem axm (h : oy m (a ++ e :: b) D) (fa lo : List Int) : (D.ol e.n fa lo).fs = a.map FE.abs ++ ⟨e.n, fa, lo⟩ :: b.map FE.abs := by
 unfold Dk.ol
 simp only [h.fs, List.map_append, List.map_cons, List.map_map]
 have hx : ∀ x : FE, x ∈ a ∨ x ∈ b → ((fun f : Fil => if f.n = e.n then (⟨e.n, fa, lo⟩ : Fil) else f) ∘ FE.abs) x = x.abs := fun x hx => by
  show (if x.n = e.n then _ else x.abs) = _
  rw [if_neg (h.aqi x hx)]
 rw [List.map_congr_left fun x hxa => hx x (.inl hxa), List.map_congr_left (l := b) fun x hxb => hx x (.inr hxb)]
 simp [FE.abs]
theorem adc (h : oy m (a ++ e :: b) D) (fa lo : List Int) : (D.ol e.n fa lo).iz + (e.kt.length + e.jj.length) = D.iz + (fa.length + lo.length) := by
 unfold Dk.iz
 rw [axm h, h.fs]
 simp [FE.abs, Fil.len]
 omega
theorem oy.ol (h : oy m (a ++ e :: b) D) (hn : e'.n = e.n) (hp : e'.p = e.p) (hu : ((D.ol e.n e'.kt e'.jj).iz : Int) ≤ D.jb) : oy m (a ++ e' :: b) (D.ol e.n e'.kt e'.jj) where
 fs := by rw [axm h, ← hn]; simp [FE.abs]
 ml := by rw [h.ml]; simp
 mg x hx := by
  rcases List.mem_append.1 hx with hx | hx
  ·exact h.mg x (by simp [hx])
  ·rcases List.mem_cons.1 hx with rfl | hx
   ·rw [hn, h.mg e (by simp)]; simp [FE.ptr, hp]
   ·exact h.mg x (by simp [hx])
 mz k hk := h.mz k fun x hx => by
  rcases List.mem_append.1 hx with hx | hx
  ·exact hk x (by simp [hx])
  ·rcases List.mem_cons.1 hx with rfl | hx
   ·rw [← hn]; exact hk e' (by simp)
   ·exact hk x (by simp [hx])
 tn := by have := h.tn; simp only [List.map_append, List.map_cons] at *; rw [hn]; exact this
 kp := by have := h.kp; simp only [List.map_append, List.map_cons] at *; rw [hn]; exact this
 jb := h.jb
 iz := hu
 rng x hx := by
  rcases List.mem_append.1 hx with hx | hx
  ·exact h.rng x (by simp [hx])
  ·rcases List.mem_cons.1 hx with rfl | hx
   ·rw [hn]; exact h.rng e (by simp)
   ·exact h.rng x (by simp [hx])
 arm := h.arm
theorem oy.rem (h : oy m (a ++ e :: b) D) : oy (ym m e.n) (a ++ b) (D.rem e.n) where
 fs := by
  unfold Dk.rem
  simp only [h.fs, List.map_append, List.map_cons, List.filter_append]
  have hx : ∀ l : List FE, (∀ x ∈ l, x.n ≠ e.n) → (l.map FE.abs).filter (fun f => decide (f.n ≠ e.n)) = l.map FE.abs := fun l hl => List.filter_eq_self.2 fun f hf => by
   obtain ⟨x, hx, rfl⟩ := List.mem_map.1 hf
   exact decide_eq_true (hl x hx)
  rw [List.filter_cons, hx a fun x h' => h.aqi x (.inl h'), hx b fun x h' => h.aqi x (.inr h')]
  simp [FE.abs]
 ml := by
  have h1 := abr m e.n
  have h2 : (jz (ym m e.n)).length = (jz m).length - 1 := by
   rw [h1, List.length_erase_of_mem]
   exact h.kp.mem_iff.2 (List.mem_map_of_mem (by simp))
  simp only [jz, List.length_map] at h2
  rw [h2, h.ml]
  simp
 mg x hx := by
  rw [aib _ _ _ fun he => h.aqi x (List.mem_append.1 hx) he.symm]
  exact h.mg x (by rcases List.mem_append.1 hx with h | h <;> simp [h])
 mz k hk := by
  by_cases hek : e.n = k
  ·subst hek; exact ams _ _ h.nd
  ·rw [aib _ _ _ hek]
   refine h.mz k fun x hx => ?_
   rcases List.mem_append.1 hx with hx | hx
   ·exact hk x (by simp [hx])
   ·rcases List.mem_cons.1 hx with rfl | hx
    ·exact hek
    ·exact hk x (by simp [hx])
 tn := by
  have := h.tn
  rw [(List.Perm.map FE.n (List.perm_middle (l₁ := a) (a := e) (l₂ := b))).nodup_iff] at this
  exact (List.nodup_cons.1 this).2
 kp := by
  rw [abr]
  have h1 := (h.kp.trans (List.Perm.map FE.n (List.perm_middle (l₁ := a) (a := e) (l₂ := b)))).erase e.n
  rw [List.map_cons, List.erase_cons_head] at h1
  exact h1
 jb := h.jb
 iz := by
  have h1 := h.iz
  have h2 : (D.rem e.n).iz ≤ D.iz := by
   unfold Dk.rem Dk.iz
   have : ∀ l : List Fil, ((l.filter fun f => decide (f.n ≠ e.n)).map Fil.len).sum ≤ (l.map Fil.len).sum := fun l => by
    induction l with
    | nil => simp
    | cons f l ih =>
     rw [List.filter_cons]
     split
     ·rw [List.map_cons, List.map_cons, List.sum_cons, List.sum_cons]; omega
     ·rw [List.map_cons, List.sum_cons]; omega
   exact this D.fs
  show ((D.rem e.n).iz : Int) ≤ D.jb
  omega
 rng x hx := h.rng x (by rcases List.mem_append.1 hx with h | h <;> simp [h])
 arm := h.arm
theorem rg (S : St w0 w R) : St w0 w (ki (.slice none 0 0) [] :: R) := S.add (a := ki (.slice none 0 0) []) (Fr.refl _ w) (B := fun _ => False) ⟨Ow.none, fun b hb => by simp [Value.ownBlock] at hb⟩ fun b hb => hb.elim
theorem ans {v : Value} {l : List Int} (S : St w0 w (ki v l :: ye e :: R)) : St w0 ((w.setCell ⟨e.p, 0, none⟩ v).setCell ⟨e.p, 1, none⟩ (.slice none 0 0)) (ye { e with fv := v, lv := .slice none 0 0, kt := l, jj := [] } :: R) := by
 have S1 := xz S.swap
 have S2 : St w0 w (ii e.p #[e.fv, e.lv] T.ah :: ki v l :: R) := (S1.swap.drop.swap.drop : St w0 w _)
 have hh := S2.blk
 have S3 := S2.nb (cs' := #[v, .slice none 0 0]) (e' := T.ah) (w' := (w.setCell ⟨e.p, 0, none⟩ v).setCell ⟨e.p, 1, none⟩ (.slice none 0 0)) (((Fr.refl (fun x => x = e.p) w).setCell (.inl rfl) _ _).setCell (.inl rfl) _ _) (by rw [nj (nj hh)]; rfl)
 exact auy (e := { e with fv := v, lv := .slice none 0 0, kt := l, jj := [] }) ((rg S3).perm ((List.Perm.swap _ _ _).trans (List.Perm.cons _ (List.Perm.swap _ _ _))))
theorem Ow.take {α : Type} {enc : α → List Value} {base : Nat} {et : TypeId} {v : Value} {l : List α} {t : TypeId} (he : ∀ x, (enc x).length = 1) (h : Ow w base et 1 enc v l) (ht : nk P t = true) (hz : szE P t = 1) {n : Nat} (hn : n ≤ l.length) {k : IntKind} :
  ∃ v', Ow w base et 1 enc v' (l.take n) ∧ (∀ g, v'.ownBlock = some g → v.ownBlock = some g) ∧ ∀ w1 K, slT P t v none (some (.int k (n : Int))) none w1 K = K v' w1 := by
 have h' := h
 obtain ⟨h1, h2⟩ := h
 have hlen : (l.take n).length = n := by rw [List.length_take]; omega
 have hfl : (l.take n).flatMap enc = (l.flatMap enc).take (n * 1) := by
  clear h' h1 h2 hlen
  induction l generalizing n with
  | nil => simp
  | cons x l ih =>
   cases n with
   | zero => simp
   | succ n =>
    have := ih (n := n) (by simpa using hn)
    rw [List.take_succ_cons, List.flatMap_cons, this, List.flatMap_cons, List.take_append, he]
    have hx := he x
    have e : (n + 1) * 1 - 1 = n * 1 := by omega
    rw [e, List.take_of_length_le (l := enc x) (by rw [hx]; omega)]
 rcases h2 with ⟨rfl, h0⟩ | ⟨g, cap, cur, rfl, hb0, hb, hc, hr⟩
 ·have : n = 0 := by omega
  subst this
  refine ⟨.slice none 0 0, ?_, fun g hg => hg, fun w1 K => by rw [zt ht (.inl ⟨rfl, rfl⟩) (.inr ⟨k, rfl⟩) (Nat.le_refl _) (Nat.le_refl _)]; simp⟩
  rw [List.take_zero]; exact Ow.none
 ·refine ⟨.slice (some ⟨g, 0, none⟩) n cap, ?_, fun g hg => hg, fun w1 K => ?_⟩
  ·unfold Ow
   rw [hlen, hfl]
   exact bgd h' hn
  ·rw [zt ht (.inl ⟨rfl, rfl⟩) (.inr ⟨k, rfl⟩) (Nat.zero_le _) (by omega)]
   simp [Addr.add]
theorem bld {v : Value} {l : List Int} (S : St w0 w (ki v l :: R)) {n : Nat} (hn : n ≤ l.length) : ∃ v', (∀ w1 K, slT P T.f v none (some (.int .i64 (n : Int))) none w1 K = K v' w1) ∧ St w0 w (ki v' (l.take n) :: R) := by
 obtain ⟨B, ⟨h1, h2⟩, hB, cl⟩ := S.open
 obtain ⟨v', o, g, f⟩ := Ow.take jr h1 (t := T.f) (by kernel_rfl) (by kernel_rfl) hn (k := .i64)
 exact ⟨v', f, cl w [ki v' (l.take n)] (Fr.refl _ _) (Rs.one (B := B) ⟨o, fun b hb => h2 b (g b hb)⟩ fun b hb => .inl hb)⟩
def Dk.nl (D : Dk) (k : Int) : Dk × Int := if D.je then (D, 10) else match D.get k with
 | none => (D, 11)
 | some f => (D.ol k (f.kt ++ f.jj) [], 0)
def Dk.cut (D : Dk) (k n : Int) : Dk × Int := if D.je then (D, 10) else match D.get k with
 | none => (D, 11)
 | some f => if n < 0 ∨ (f.kt.length + f.jj.length : Nat) < n then (D, 1) else (D.ol k ((f.kt ++ f.jj).take n.toNat) [], 0)
def Dk.aey (D : Dk) (k : Int) : Dk × Int := if D.je then (D, 10) else match D.get k with
 | none => (D, 11)
 | some _ => (D.rem k, 0)
theorem aeh (S : St w0 w (ii e.p #[e.fv, e.lv] T.ah :: R)) : gr w e.p 0 = some e.fv ∧ gr w e.p 1 = some e.lv ∧ ∀ i, qx w e.p i = false := by
 have hh := S.blk
 exact ⟨by rw [gt hh]; rfl, by rw [gt hh]; rfl, nw hh⟩
theorem axr (S : St w0 w (il hb D :: R)) (k : Int) {K : KV} (h : ∀ w', St w0 w' (il hb (D.nl k).1 :: R) → K (.int .i64 (D.nl k).2) w') : gi P F.dc [.pointer (some ⟨hb, 0, none⟩), .int .i64 k] w K := by
 obtain ⟨r, m, es, hk, S'⟩ := zi S
 rw [M.dk.fcall]
 apply M.dk.calls
 unfold M.dk
 unfold Dk.nl at h
 refine aiy hk S' k (fun hd => ?_) (fun hd hn => ?_) fun hd a e b he hek => ?_
 ·simp [hd] at h ⊢
  exact h w S
 ·rw [hk.acl hn] at h
  simp [hd] at h ⊢
  exact h w S
 ·subst he
  have hl := xv hk
  have hu := hk.iz
  have hr := hk.jb
  rw [← hek, hk.xi] at h
  simp [hd, FE.abs] at h ⊢
  refine arr (S'.perm (pq hb r m a b e D R)) (by omega) fun w' v S2 => ?_
  have S3 := ans S2
  obtain ⟨x1, x2, hv, _⟩ := S2.row jr
  generalize (e.kt ++ e.jj).length = L at hv
  subst hv
  obtain ⟨c0, c1, fz⟩ := aeh (xz S2.swap)
  simp [FE.ptr, c0, c1, fz, ka, kj]
  refine h _ (abi (m := m) (r := r) (es := a ++ { e with fv := .slice x1 L x2, lv := .slice none 0 0, kt := e.kt ++ e.jj, jj := [] } :: b) (hk.ol (e' := { e with fv := .slice x1 L x2, lv := .slice none 0 0, kt := e.kt ++ e.jj, jj := [] }) rfl rfl ?_) (S3.perm (pq hb r m a b _ _ R).symm))
  have := adc hk (e.kt ++ e.jj) []
  simp at this ⊢
  omega
theorem bml (S : St w0 w (il hb D :: R)) (k n : Int) {K : KV} (h : ∀ w', St w0 w' (il hb (D.cut k n).1 :: R) → K (.int .i64 (D.cut k n).2) w') : gi P F.eo [.pointer (some ⟨hb, 0, none⟩), .int .i64 k, .int .i64 n] w K := by
 obtain ⟨r, m, es, hk, S'⟩ := zi S
 rw [M.bm.fcall]
 apply M.bm.calls
 unfold M.bm
 unfold Dk.cut at h
 refine aiy hk S' k (fun hd => ?_) (fun hd hn => ?_) fun hd a e b he hek => ?_
 ·simp [hd] at h ⊢
  exact h w S
 ·rw [hk.acl hn] at h
  simp [hd] at h ⊢
  exact h w S
 ·subst he
  have hl := xv hk
  have hu := hk.iz
  have hr := hk.jb
  rw [← hek, hk.xi] at h
  simp [hd, FE.abs] at h ⊢
  unfold M.bm.j0
  refine arr (S'.perm (pq hb r m a b e D R)) (by omega) fun w' v S2 => ?_
  have hlen := fun K => (S2.row jr).iy (P := P) (t := T.f) (ty := T.b) (w := w') (by kernel_rfl) [false] (K := K)
  have hback : St w0 w' (il hb D :: R) := abi hk (S2.drop.perm (pq hb r m a b e D R).symm)
  by_cases h0 : n < 0
  ·simp [h0] at h ⊢
   exact h w' hback
  ·by_cases h1 : ((e.kt.length : Int) + e.jj.length) < n
   ·simp [h0, h1, hlen] at h ⊢
    exact h w' hback
   ·simp [h0, h1, hlen] at h ⊢
    unfold M.bm.j1
    obtain ⟨v', hs, S3⟩ := bld (n := n.toNat) S2 (by simp; omega)
    have hn : ((n.toNat : Nat) : Int) = n := by omega
    rw [hn] at hs
    rw [hs]
    have S4 := ans S3
    obtain ⟨x1, x2, hv, _⟩ := S3.row jr
    generalize (List.take n.toNat (e.kt ++ e.jj)).length = L at hv
    subst hv
    obtain ⟨c0, c1, fz⟩ := aeh (xz S3.swap)
    simp [FE.ptr, c0, c1, fz, ka, kj]
    refine h _ (abi (m := m) (r := r) (es := a ++ { e with fv := .slice x1 L x2, lv := .slice none 0 0, kt := (e.kt ++ e.jj).take n.toNat, jj := [] } :: b) ?_ (S4.perm (pq hb r m a b _ _ R).symm))
    have := adc hk ((e.kt ++ e.jj).take n.toNat) []
    simp [List.take_append] at this ⊢
    have hh := hk.ol (e' := { e with fv := .slice x1 L x2, lv := .slice none 0 0, kt := (e.kt ++ e.jj).take n.toNat, jj := [] }) rfl rfl (by
     simp [List.take_append]
     omega)
    simpa [List.take_append] using hh
theorem bbc (S : St w0 w (il hb D :: R)) (k : Int) {K : KV} (h : ∀ w', St w0 w' (il hb (D.aey k).1 :: R) → K (.int .i64 (D.aey k).2) w') : gi P F.dp [.pointer (some ⟨hb, 0, none⟩), .int .i64 k] w K := by
 obtain ⟨r, m, es, hk, S'⟩ := zi S
 rw [M.db.fcall]
 apply M.db.calls
 unfold M.db
 unfold Dk.aey at h
 refine aiy hk S' k (fun hd => ?_) (fun hd hn => ?_) fun hd a e b he hek => ?_
 ·simp [hd] at h ⊢
  exact h w S
 ·rw [hk.acl hn] at h
  simp [hd] at h ⊢
  exact h w S
 ·subst he
  rw [← hek, hk.xi] at h
  obtain ⟨_, c1, _⟩ := qu (ul S')
  simp [hd, c1] at h ⊢
  refine bme mt.o (afj S').1 k _ _ _ fun o hm => ?_
  refine h _ (abi (m := ym m e.n) (r := r) (es := a ++ b) hk.rem ?_)
  have S2 : St w0 w (jq r .i64 m :: bae hb r (D.rem e.n) :: ((a ++ b).map ye ++ R)) := ((S'.perm (pq hb r m a b e D R)).drop : St w0 w (bae hb r D :: jq r .i64 m :: ((a ++ b).map ye ++ R))).swap
  obtain ⟨B, ⟨h1, h2⟩, hB, cl⟩ := S2.open
  refine (cl (World.setObj w r o) [jq r .i64 (ym m e.n)] ((Fr.refl B w).setObj (.inl h2) o) (Rs.one (B := B) ⟨⟨?_, ?_⟩, h2⟩ fun b hb => .inl hb)).swap
  ·rw [hek]; exact hm
  ·rw [abr]; exact h1.2.erase _
end
def Dk.adw (D : Dk) (k : Int) : Dk := { D with fs := D.fs ++ [⟨k, [], []⟩] }
def Dk.qd (D : Dk) (l : List Int) : List Int := if D.jt then l.take (min (l.length : Int) D.left).toNat else l
def Dk.after (D : Dk) (l : List Int) : Dk := if D.jt then { D with je := decide (D.left < l.length), left := D.left - (min (l.length : Int) D.left).toNat } else D
def Dk.put (D : Dk) (k : Int) (l : List Int) : Dk := match D.get k with
 | none => ((D.adw k).ol k [] (D.qd l)).after l
 | some f => (D.ol k f.kt (f.jj ++ D.qd l)).after l
def Dk.append (D : Dk) (k : Int) (l : List Int) : Dk × Int :=
 if D.je then (D, 10) else if k < 0 ∨ 64 ≤ k then (D, 1) else if D.jb < D.iz + l.length then (D, 9) else (D.put k l, if (D.put k l).je then 10 else 0)
section
variable {w0 w : World} {hb r : Nat} {m : MP} {es a b : List FE} {D : Dk} {R : List Asn} {e e' : FE}
theorem td {v v2 : Value} {l l2 : List Int} (S : St w0 w (ki v l :: R)) (hs : SlB w v2 l2) (hl : l.length + l2.length ≤ 1000000000) {cs : List Bool} {ty : TypeId} {K : KV} (h : ∀ w' v', St w0 w' (ki v' (l ++ l2) :: R) → K v' w') :
  biT P .append #[T.f, T.f] ty cs [v, v2] w K := by
 obtain ⟨B, ⟨h1, h2⟩, hB, cl⟩ := S.open
 refine ww et.f jr xd h1 hs hl (by decide) (Nat.zero_le _) cs fun v' w' o f g => ?_
 refine h w' v' (cl w' [ki v' (l ++ l2)] (f.mono fun x _ hx => h2 x hx) (Rs.one (B := fun x => v'.ownBlock = some x) ⟨o, fun b hb => hb⟩ fun x hx => ?_))
 rcases g with g | ⟨y, g1, g2⟩
 ·exact .inl (h2 x (by rw [← g]; exact hx))
 ·rw [hx] at g1; cases g1
  exact .inr ⟨g2, (o.lt hx).2⟩
theorem ato (S : St w0 w (il hb D :: R)) {K : KV} (h : K (.int .i64 (if D.je then 10 else 0)) w) : gi P F.bt [.pointer (some ⟨hb, 0, none⟩)] w K := by
 obtain ⟨r, m, es, hk, S'⟩ := zi S
 exact ars (ul S') h
theorem bix (hk : oy m (a ++ e :: b) D) (S : St w0 w (oc hb r m (a ++ e :: b) D ++ R)) {v2 : Value} {l2 : List Int} (hs : SlB w v2 l2) (hu : ((D.iz + l2.length : Nat) : Int) ≤ D.jb) {K : KV}
  (h : ∀ w', St w0 w' (il hb (D.ol e.n e.kt (e.jj ++ l2)) :: R) → K (.int .i64 (if D.je then 10 else 0)) w') : M.ad.j2 [e.ptr] [v2] (.pointer (some ⟨hb, 0, none⟩)) w K := by
 unfold M.ad.j2
 have hl := xv hk
 have hr := hk.jb
 have S1 := xz (S.perm (pq hb r m a b e D R))
 obtain ⟨c0, c1, fz⟩ := aeh S1
 obtain ⟨x1, x2, hv, _⟩ := S1.abn.row jr
 have c1' := c1
 rw [hv] at c1'
 simp [FE.ptr, c1']
 rw [← hv]
 refine td S1.abn hs (by omega) fun w1 v' S2 => ?_
 have S3 := S2.abn.tail (List.Perm.refl _)
 have S4 : St w0 w1 (ii e.p #[e.fv, e.lv] T.ah :: ki v' (e.jj ++ l2) :: ki e.fv e.kt :: (oc hb r m (a ++ b) D ++ R)) := S2.swap
 obtain ⟨d0, d1, fz1⟩ := aeh S4
 have hcell : ∃ x y z, v' = .slice x y z := by
  obtain ⟨x, z, hv, _⟩ := S2.row jr
  exact ⟨x, _, z, hv⟩
 obtain ⟨y1, y2, y3, rfl⟩ := hcell
 have hh := S4.blk
 have S5 := S4.nb (cs' := #[e.fv, .slice y1 y2 y3]) (e' := T.ah) (w' := w1.setCell ⟨e.p, 1, none⟩ (.slice y1 y2 y3)) ((Fr.refl (fun x => x = e.p) w1).setCell (.inl rfl) _ _) (by rw [nj hh]; rfl)
 simp [d1, fz1]
 have S6 := auy (e := { e with lv := .slice y1 y2 y3, jj := e.jj ++ l2 }) (S5.tail (.swap _ _ _))
 have hk' := hk.ol (e' := { e with lv := .slice y1 y2 y3, jj := e.jj ++ l2 }) rfl rfl (by
  have := adc hk e.kt (e.jj ++ l2)
  simp at this ⊢
  omega)
 have S7 : St w0 (w1.setCell ⟨e.p, 1, none⟩ (.slice y1 y2 y3)) (il hb (D.ol e.n e.kt (e.jj ++ l2)) :: R) := abi (m := m) (r := r) (es := a ++ { e with lv := .slice y1 y2 y3, jj := e.jj ++ l2 } :: b) hk' (S6.perm (pq hb r m a b _ _ R).symm)
 exact ato S7 (h _ S7)
theorem bip (hk : oy m (a ++ e :: b) D) (S : St w0 w (oc hb r m (a ++ e :: b) D ++ R)) (hd : D.je = false) {bv : Value} {l : List Int} (hbs : ∀ w' L, St w0 w' (L ++ R) → SlB w' bv l) (hu : ((D.iz + l.length : Nat) : Int) ≤ D.jb) {K : KV}
  (h : ∀ w', St w0 w' (il hb ((D.ol e.n e.kt (e.jj ++ D.qd l)).after l) :: R) → K (.int .i64 (if ((D.ol e.n e.kt (e.jj ++ D.qd l)).after l).je then 10 else 0)) w') : M.ad.j1 (.pointer (some ⟨hb, 0, none⟩)) bv [e.ptr] w K := by
 unfold M.ad.j1
 have hh := ul S
 have hr := hk.jb
 obtain ⟨_, _, c2, c3, c4, fz⟩ := qu hh
 have hs := hbs w _ S
 have hlen := fun w' K => hs.iy (P := P) (w := w') (t := T.f) (ty := T.b) (by kernel_rfl) [false] (K := K)
 rw [gp]
 cases ha : D.jt with
 | false =>
  rw [ha] at c3
  simp [c3]
  have e1 : D.qd l = l := by unfold Dk.qd; rw [ha]; rfl
  have e2 : (D.ol e.n e.kt (e.jj ++ l)).after l = D.ol e.n e.kt (e.jj ++ l) := by
   unfold Dk.after
   rw [show (D.ol e.n e.kt (e.jj ++ l)).jt = D.jt from rfl, ha]; rfl
  rw [e1, e2] at h
  exact bix hk S hs hu h
 | true =>
  rw [ha] at c3
  obtain ⟨hle, hlt⟩ := hk.arm ha
  have S2 : St w0 ((w.setCell ⟨hb, 4, none⟩ (.bool (decide (D.left < l.length)))).setCell ⟨hb, 2, none⟩ (.int .i64 (D.left - min (l.length : Int) D.left))) (oc hb r m (a ++ e :: b) { D with je := decide (D.left < l.length), left := D.left - min (l.length : Int) D.left } ++ R) :=
   St.nb (cs' := #[.int .i64 D.jb, .map (some r), .int .i64 (D.left - min (l.length : Int) D.left), .bool D.jt, .bool (decide (D.left < l.length))]) (e' := T.ag) S (((Fr.refl (fun x => x = hb) w).setCell (.inl rfl) _ _).setCell (.inl rfl) _ _) (by rw [nj (nj hh)]; rfl)
  obtain ⟨v', s', hsub, hsl⟩ := (hbs _ _ S2).sub (P := P) (t := T.f) (lo := none) (hi := some (.int .i64 ((min (l.length : Int) D.left).toNat : Nat))) (i := 0) (j := (min (l.length : Int) D.left).toNat) (by kernel_rfl) (by kernel_rfl) (.inl ⟨rfl, rfl⟩) (.inr ⟨_, rfl⟩) (Nat.zero_le _) (by omega)
  rw [List.drop_zero, Nat.sub_zero] at s'
  have hmin : (((min (l.length : Int) D.left).toNat : Nat) : Int) = min (l.length : Int) D.left := by omega
  have hmlen : (l.take (min (l.length : Int) D.left).toNat).length = (min (l.length : Int) D.left).toNat := by rw [List.length_take]; omega
  rw [hmin] at hsl
  have hlen' := fun w' K => s'.iy (P := P) (w := w') (t := T.f) (ty := T.b) (by kernel_rfl) [false] (K := K)
  rw [hmlen] at hlen'
  have hwr : IntKind.i64.wrap (D.left - min (l.length : Int) D.left) = D.left - min (l.length : Int) D.left := ia
  simp only [arz]
  simp [c2, c3, c4, fz, hlen, akc, ka, kj, hsl, hlen', hmin, hwr]
  have e1 : D.qd l = l.take (min (l.length : Int) D.left).toNat := by unfold Dk.qd; rw [ha]; rfl
  have e2 : (D.ol e.n e.kt (e.jj ++ D.qd l)).after l = Dk.ol { D with je := decide (D.left < l.length), left := D.left - min (l.length : Int) D.left } e.n e.kt (e.jj ++ l.take (min (l.length : Int) D.left).toNat) := by
   unfold Dk.after
   rw [show (D.ol e.n e.kt (e.jj ++ D.qd l)).jt = D.jt from rfl, ha, e1]
   show Dk.mk _ _ _ _ _ = Dk.mk _ _ _ _ _
   congr 1
   show D.left - _ = _
   rw [← hmin]; rfl
  rw [e2] at h
  refine bix (D := { D with je := decide (D.left < l.length), left := D.left - min (l.length : Int) D.left }) { hk with arm := fun _ => ⟨?_, ?_⟩ } S2 s' ?_ h
  ·show 0 ≤ D.left - min (l.length : Int) D.left; omega
  ·show D.left - min (l.length : Int) D.left < _; omega
  ·show ((D.iz + _ : Nat) : Int) ≤ D.jb
   rw [hmlen]; omega
theorem bjt (hk : oy m es D) (S : St w0 w (oc hb r m es D ++ R)) {k : Int} (hall : ∀ e ∈ es, e.n ≠ k) (hr : 0 ≤ k ∧ k < 64) :
  oy (sw m k (FE.ptr ⟨k, w.heap.size, .slice none 0 0, .slice none 0 0, [], []⟩)) (es ++ ⟨k, w.heap.size, .slice none 0 0, .slice none 0 0, [], []⟩ :: []) (D.adw k) ∧
  St w0 (w.alloc (.cells #[.slice none 0 0, .slice none 0 0] T.ah)) (ye ⟨k, w.heap.size, .slice none 0 0, .slice none 0 0, [], []⟩ :: (oc hb r m es D ++ R)) := by
 have hkn : k ∉ jz m := fun h => by
  obtain ⟨e, he, h'⟩ := List.mem_map.1 (hk.kp.mem_iff.1 h)
  exact hall e he h'
 have hmk : jz (sw m k (FE.ptr ⟨k, w.heap.size, .slice none 0 0, .slice none 0 0, [], []⟩)) = jz m ++ [k] := by rw [alo, if_neg hkn]
 have hml : (sw m k (FE.ptr ⟨k, w.heap.size, .slice none 0 0, .slice none 0 0, [], []⟩)).length = m.length + 1 := by
  have := congrArg List.length hmk
  simpa [jz] using this
 refine ⟨⟨?_, ?_, ?_, ?_, ?_, ?_, hk.jb, ?_, ?_, hk.arm⟩, ?_⟩
 ·show D.fs ++ _ = _
  rw [hk.fs]; simp [FE.abs]
 ·rw [hml, hk.ml]; simp
 ·intro x hx
  rw [ahm]
  rcases List.mem_append.1 hx with hx | hx
  ·rw [if_neg fun h => hall x hx h.symm]; exact hk.mg x hx
  ·rw [List.mem_singleton] at hx
   subst hx
   rw [if_pos rfl]
 ·intro j hj
  rw [ahm, if_neg (c := k = j) fun h => hj ⟨k, w.heap.size, .slice none 0 0, .slice none 0 0, [], []⟩ (by simp) h]
  exact hk.mz j fun e he => hj e (by simp [he])
 ·rw [List.map_append, List.nodup_append]
  refine ⟨hk.tn, by simp, ?_⟩
  rintro x hx y hy rfl
  obtain ⟨e, he, rfl⟩ := List.mem_map.1 hx
  simp at hy
  exact hall e he hy
 ·rw [hmk, List.map_append]
  exact hk.kp.append_right _
 ·have : (D.adw k).iz = D.iz := by unfold Dk.adw Dk.iz; simp [Fil.len]
  rw [this]; exact hk.iz
 ·intro x hx
  rcases List.mem_append.1 hx with hx | hx
  ·exact hk.rng x hx
  ·rw [List.mem_singleton] at hx
   subst hx
   exact hr
 ·have S1 : St w0 (w.alloc (.cells #[.slice none 0 0, .slice none 0 0] T.ah)) (ii w.heap.size #[.slice none 0 0, .slice none 0 0] T.ah :: (oc hb r m es D ++ R)) :=
   S.add ((Fr.refl _ w).alloc _) (B := fun x => x = w.heap.size) ⟨by rw [iq, if_pos rfl], rfl⟩ fun x hx => by subst hx; rw [ju]; omega
  exact auy (e := ⟨k, w.heap.size, .slice none 0 0, .slice none 0 0, [], []⟩) ((rg (rg S1)).abn)
theorem aow (S : St w0 w (il hb D :: R)) (k : Int) {bv : Value} {l : List Int} (hbs : ∀ w' L, St w0 w' (L ++ R) → SlB w' bv l) (hl : l.length ≤ 1000000000) {K : KV}
  (h : ∀ w', St w0 w' (il hb (D.append k l).1 :: R) → K (.int .i64 (D.append k l).2) w') : gi P F.cr [.pointer (some ⟨hb, 0, none⟩), .int .i64 k, bv] w K := by
 rw [M.ad.fcall]
 apply M.ad.calls
 unfold M.ad
 unfold Dk.append at h
 refine ato S ?_
 cases hd : D.je with
 | true => simp [hd] at h ⊢; exact h w S
 | false =>
 by_cases h0 : k < 0
 ·simp [hd, h0] at h ⊢; exact h w S
 by_cases h1 : 64 ≤ k
 ·simp [hd, h0, h1] at h ⊢; exact h w S
 have hlen := fun w' K L (S' : St w0 w' (L ++ R)) => (hbs w' L S').iy (P := P) (w := w') (t := T.f) (ty := T.b) (by kernel_rfl) [false] (K := K)
 obtain ⟨r, m, es, hk, S'⟩ := zi S
 obtain ⟨a1, k1, hbv, _⟩ := hbs w _ S'
 have hh := ul S'
 obtain ⟨c0, _⟩ := qu hh
 have hlen1 := fun w' K => (hbs w _ S').iy (P := P) (w := w') (t := T.f) (ty := T.b) (by kernel_rfl) [false] (K := K)
 have hr := hk.jb
 have hu0 := hk.iz
 simp [hd, h0, h1, c0, hlen1]
 refine bkd hk (S'.jo ((Fr.refl _ w).dr 1)) fun w1 S1 => ?_
 obtain ⟨c0, c1, _⟩ := qu (ul S1)
 have hw : IntKind.i64.wrap ((D.iz : Int) + l.length) = (D.iz : Int) + l.length := ia
 simp [c0, hw]
 by_cases h2 : D.jb < D.iz + l.length
 ·simp [h2]
  simp [hd, h0, h1, h2] at h
  exact h w1 (abi hk S1)
 simp [h2]
 simp [hd, h0, h1, h2] at h
 unfold M.ad.j0
 simp [c1]
 rw [aaj mt.o (afj S1).1]
 unfold Dk.put at h
 rcases hk.bly k with ⟨hn, hall⟩ | ⟨a, e, b, he, hek, hg⟩
 ·rw [hk.acl hall] at h
  rw [hn]
  have c1' : ∀ o, gr (w1.alloc o) hb 1 = some (.map (some r)) := fun o => by
   have hlt := (Array.getElem?_eq_some_iff.1 (ul S1)).1; exact (wd (w := w1) (w' := w1.alloc o) (b := hb) (by rw [iq, if_neg (by omega)]) 1).trans c1
  simp [c1']
  obtain ⟨hk2, S2⟩ := bjt hk S1 hall (by omega)
  have S3 := S2
  refine aqg mt.o (w := w1.alloc (.cells #[.slice none 0 0, .slice none 0 0] T.ah)) (r := r) (m := m) ?_ k _ _ fun o hm => ?_
  ·exact (afj S2.drop).1
  obtain ⟨B, ⟨h1, h2⟩, hB, cl⟩ := S2.abn.open
  have S4 := cl (World.setObj (w1.alloc (.cells #[.slice none 0 0, .slice none 0 0] T.ah)) r o) [jq r .i64 (sw m k (FE.ptr ⟨k, w1.heap.size, .slice none 0 0, .slice none 0 0, [], []⟩))] ((Fr.refl B _).setObj (.inl h2) o) (Rs.one (B := B) ⟨⟨hm, hk2.nd⟩, h2⟩ fun b hb => .inl hb)
  have S5 : St w0 (World.setObj (w1.alloc (.cells #[.slice none 0 0, .slice none 0 0] T.ah)) r o) (oc hb r (sw m k (FE.ptr ⟨k, w1.heap.size, .slice none 0 0, .slice none 0 0, [], []⟩)) (es ++ ⟨k, w1.heap.size, .slice none 0 0, .slice none 0 0, [], []⟩ :: []) (D.adw k) ++ R) := by
   refine St.perm S4 (List.Perm.trans ?_ (pq hb r _ es [] ⟨k, w1.heap.size, .slice none 0 0, .slice none 0 0, [], []⟩ (D.adw k) R).symm)
   rw [List.append_nil]
   exact (List.Perm.swap _ _ _).trans (List.Perm.cons _ (List.Perm.swap _ _ _))
  exact bip (e := ⟨k, w1.heap.size, .slice none 0 0, .slice none 0 0, [], []⟩) hk2 S5 hd hbs (by
   have : (D.adw k).iz = D.iz := by unfold Dk.adw Dk.iz; simp [Fil.len]
   rw [this]
   show _ ≤ D.jb
   omega) h
 ·subst he
  rw [← hek, hk.xi] at h
  rw [hg]
  simp [FE.ptr]
  exact bip hk S1 hd hbs (by omega) h
end
def ya (kl : List Int) (i len : Nat) : Nat := (max 0 (min (kl.getD i 0) (len : Int))).toNat
def acn (kl : List Int) (D : Dk) (k : Int) (i : Nat) : Dk := match D.get k with
 | none => D
 | some f => D.ol k (f.kt ++ f.jj.take (ya kl i f.jj.length)) []
def crN (kl : List Int) (D : Dk) (F : List Int) : Nat → Dk
 | 0 => D
 | i + 1 => acn kl (crN kl D F i) (F.getD i 0) i
def Dk.uq (D : Dk) (kl : List Int) : Dk := { crN kl D D.jg D.jg.length with jt := false, je := false }
section
variable {w0 w : World} {hb r : Nat} {m : MP} {es a b : List FE} {D : Dk} {R : List Asn} {e e' : FE}
theorem bbz (D : Dk) (k : Int) (fa lo : List Int) : (D.ol k fa lo).qp = D.qp := by
 unfold Dk.qp Dk.ol
 rw [List.map_map]
 refine List.map_congr_left fun f hf => ?_
 show (if f.n = k then (⟨k, fa, lo⟩ : Fil) else f).n = f.n
 split
 ·rename_i h; exact h.symm
 ·rfl
theorem avy (kl : List Int) (D : Dk) (k : Int) (i : Nat) : (acn kl D k i).qp = D.qp := by
 unfold acn
 split
 ·rfl
 ·exact bbz ..
theorem aug (kl : List Int) (D : Dk) (F : List Int) : ∀ i, (crN kl D F i).qp = D.qp
 | 0 => rfl
 | i + 1 => (avy kl _ _ _).trans (aug kl D F i)
theorem blu (hk : oy m (a ++ e :: b) D) (S : St w0 w (oc hb r m (a ++ e :: b) D ++ R)) {n : Nat} (hn : n ≤ e.jj.length) {x2 : List Value} {t17 : Value} {K4 : KL} {K : KV}
  (h : ∀ w', St w0 w' (il hb (D.ol e.n (e.kt ++ e.jj.take n) []) :: R) → K4 [gv x2 4, t17, e.ptr, .int .i64 (n : Int)] w') : M.am.j5 e.ptr [.int .i64 (n : Int)] K4 x2 t17 w K := by
 unfold M.am.j5
 have hl := xv hk
 have hu := hk.iz
 have hr := hk.jb
 have S1 := S.perm (pq hb r m a b e D R)
 have S2 := xz S1
 obtain ⟨c0, c1, fz⟩ := aeh S2
 have s1 : SlB w e.fv e.kt := S2.swap.row jr
 have s2 : SlB w e.lv e.jj := S2.abn.row jr
 obtain ⟨v', s', hsub, hsl⟩ := s2.sub (P := P) (t := T.f) (lo := none) (hi := some (.int .i64 (n : Int))) (i := 0) (j := n) (by kernel_rfl) (by kernel_rfl) (.inl ⟨rfl, rfl⟩) (.inr ⟨_, rfl⟩) (Nat.zero_le _) hn
 rw [List.drop_zero, Nat.sub_zero] at s'
 obtain ⟨a1, k1, hv1, _⟩ := id s1
 obtain ⟨a2, k2, hv2, _⟩ := id s2
 obtain ⟨a3, k3, hv3, _⟩ := id s'
 have c0' := c0
 have c1' := c1
 rw [hv1] at c0'
 rw [hv2] at c1' hsl
 rw [hv3] at hsl
 simp [FE.ptr, c0', c1', hsl]
 rw [← hv1]
 have hmin : (List.take n e.jj).length = min n e.jj.length := by simp
 rw [← hmin, ← hv3]
 have hbl : ((Eng.dr w 1).alloc (.cells #[e.fv, v'] T.f)).heap[w.heap.size]? = some (.cells (([(e.fv, e.kt), (v', e.jj.take n)] : List (Value × List Int)).map (·.1)).toArray T.f (0, 0)) := by
  rw [iq, if_pos (by simp)]; rfl
 have f1 : Fz w ((Eng.dr w 1).alloc (.cells #[e.fv, v'] T.f)) := ((Fr.refl _ w).dr 1).alloc _
 rw [M.k.fcall]
 refine CB.aaz (L := [(e.fv, e.kt), (v', e.jj.take n)]) hbl (fun p hp => ?_) (by simp [CB.tot]; omega) (by simp) fun w' v o f2 => ?_
 ·simp at hp
  rcases hp with rfl | rfl
  ·exact s1.fr f1 fun _ _ _ h => h
  ·exact s'.fr f1 fun _ _ _ h => h
 ·have hs : w.heap.size ≤ ((Eng.dr w 1).alloc (.cells #[e.fv, v'] T.f)).heap.size := f1.size
  have S3 : St w0 w' (ki v (e.kt ++ e.jj.take n) :: ye e :: (oc hb r m (a ++ b) D ++ R)) := S1.add (a := ki v (e.kt ++ e.jj.take n)) (f1.trans f2) (B := fun b => v.ownBlock = some b) ⟨by simpa using o.mono (Nat.zero_le _), fun b hb => hb⟩ fun b hb => by
   have := o.lt hb
   exact ⟨by omega, this.2⟩
  have S4 := ans S3
  obtain ⟨d0, d1, fz1⟩ := aeh (xz S3.swap)
  obtain ⟨y1, y2, hv, _⟩ := S3.row jr
  generalize (e.kt ++ e.jj.take n).length = L at hv
  subst hv
  simp [d0, d1, fz1, ka, kj]
  refine h _ (abi (m := m) (r := r) (es := a ++ { e with fv := .slice y1 L y2, lv := .slice none 0 0, kt := e.kt ++ e.jj.take n, jj := [] } :: b) (hk.ol (e' := { e with fv := .slice y1 L y2, lv := .slice none 0 0, kt := e.kt ++ e.jj.take n, jj := [] }) rfl rfl ?_) (S4.perm (pq hb r m a b _ _ R).symm))
  have := adc hk (e.kt ++ e.jj.take n) []
  simp at this ⊢
  omega
def CrI (w0 : World) (hb : Nat) (D : Dk) (kl : List Int) (R : List Asn) (v : Value) : KL := fun x w1 => ∃ (u0 u1 u2 u3 : Value) (i : Nat), x = [u0, u1, u2, u3, .int .i64 (i : Nat)] ∧ i ≤ D.jg.length ∧ St w0 w1 (si v D.jg :: il hb (crN kl D D.jg i) :: R)
theorem bfb (S : St w0 w (il hb D :: R)) {kv : Value} {kl : List Int} (hks : ∀ w' L, St w0 w' (L ++ R) → Sl w' 1 sp kv kl) {K : KV}
  (h : ∀ w', St w0 w' (il hb (D.uq kl) :: R) → K (.tuple #[]) w') : gi P F.du [.pointer (some ⟨hb, 0, none⟩), kv] w K := by
 rw [M.am.fcall]
 apply M.am.calls
 unfold M.am
 simp
 unfold M.am.j0
 rw [gp]
 obtain ⟨r0, m0, es0, hk0, S0⟩ := zi S
 have hfl : D.jg.length ≤ 64 := by
  have := hk0.few
  unfold Dk.jg
  rw [(nu _).length_eq, hk0.qp, List.length_map]; exact this
 refine akf hk0 S0 fun w1 v S1 => ?_
 have S1' : St w0 w1 (si v D.jg :: il hb D :: R) := ((abi hk0 (S1.perm List.perm_middle.symm)) : St w0 w1 (il hb D :: (si v D.jg :: R))).swap
 have hsl : ∀ {w i}, St w0 w (si v D.jg :: il hb (crN kl D D.jg i) :: R) → Sl w 1 sp v D.jg := fun S => S.row xf
 rw [(hsl (i := 0) S1').iy (by simp)]
 refine ⟨CrI w0 hb D kl R v, fun x _ => D.jg.length - ms x 4, ⟨_, _, _, _, 0, rfl, Nat.zero_le _, S1'⟩, ?_⟩
 rintro x w2 ⟨u0, u1, u2, u3, i, rfl, hi, S2⟩
 have q : ∀ a b c d e : Value, gv [a, b, c, d, e] 4 = e := fun _ _ _ _ _ => rfl
 simp only [q, lh, gp]
 by_cases hil : i < D.jg.length
 ·have hil' : (i : Int) < D.jg.length := by omega
  simp only [hil', decide_true, Eng.cond_true]
  unfold M.am.j3
  obtain ⟨bb, o, cap, hv, hbb, _, hc⟩ := (hsl S2).at hil
  have c0 := hc 0 _ rfl
  simp only [Nat.mul_one, Nat.add_zero] at c0
  have hmem : D.jg[i] ∈ D.jg := List.getElem_mem hil
  have hnext : crN kl D D.jg (i + 1) = acn kl (crN kl D D.jg i) D.jg[i] i := by
   show acn kl _ (D.jg.getD i 0) i = _
   rw [List.getD_eq_getElem?_getD, List.getElem?_eq_getElem hil]; rfl
  have hmem' : D.jg[i] ∈ (crN kl D D.jg i).qp := by
   rw [aug]; exact (nu _).mem_iff.1 hmem
  obtain ⟨r, m, es, hk, S3⟩ := zi S2.swap
  generalize hD : crN kl D D.jg i = D1 at *
  generalize hki : D.jg[i] = k at *
  rw [hk.qp] at hmem'
  obtain ⟨e, he, hek⟩ := List.mem_map.1 hmem'
  obtain ⟨a, b, hab⟩ := List.append_of_mem he
  subst hab
  obtain ⟨_, c1, _⟩ := qu (ul S3)
  have hg := hk.mg e (by simp)
  have hlu : ∀ K, luT P T.o (.map (some r)) (.int .i64 k) false w2 K = K e.ptr w2 := fun K => by
   rw [aaj mt.o (afj S3).1, ← hek, hg]; rfl
  obtain ⟨hbk, s1, s2⟩ := bcl (a := a) (e := e) (b := b) S3
  have d1 : gr w2 e.p 1 = some e.lv := by rw [gt hbk]; rfl
  have hlenl := fun w' K => s2.iy (P := P) (w := w') (t := T.f) (ty := T.b) (by kernel_rfl) [false] (K := K)
  have hks2 := hks w2 (si v D.jg :: [il hb D1]) S2
  have hlenk := fun w' K => hks2.iy (P := P) (w := w') (t := T.ad) (ty := T.b) (by kernel_rfl) [false] (K := K)
  obtain ⟨a2, k2, hv2, _⟩ := id s2
  have d1' := d1
  rw [hv2] at d1' hlenl
  have hwi : IntKind.i64.wrap ((i : Int) + 1) = ((i + 1 : Nat) : Int) := by rw [ia]; rfl
  have hst : crN kl D D.jg (i + 1) = D1.ol e.n (e.kt ++ e.jj.take (ya kl i e.jj.length)) [] := by
   rw [hnext]
   unfold acn
   rw [← hek, hk.xi]; rfl
  have fin : ∀ w' y0 y1 y2 y3, St w0 w' (il hb (D1.ol e.n (e.kt ++ e.jj.take (ya kl i e.jj.length)) []) :: si v D.jg :: R) → CrI w0 hb D kl R v [y0, y1, y2, y3, .int .i64 ((i + 1 : Nat) : Int)] w' ∧ D.jg.length - ms [y0, y1, y2, y3, .int .i64 ((i + 1 : Nat) : Int)] 4 < D.jg.length - ms [u0, u1, u2, u3, .int .i64 (i : Nat)] 4 := fun w' y0 y1 y2 y3 S' => ⟨⟨_, _, _, _, i + 1, rfl, by omega, by rw [hst]; exact S'.swap⟩, by simp only [ms, q]; simp; omega⟩
  rw [hv]
  by_cases hik : i < kl.length
  ·have hik' : (i : Int) < kl.length := by omega
   obtain ⟨bk, ok, capk, hkv, hbk2, _, hck⟩ := hks2.at hik
   have ck := hck 0 _ rfl
   simp only [Nat.mul_one, Nat.add_zero] at ck
   have hsty : ((ya kl i e.jj.length : Nat) : Int) = max 0 (min kl[i] (e.jj.length : Int)) := by
    unfold ya
    rw [List.getD_eq_getElem?_getD, List.getElem?_eq_getElem hik]
    simp only [Option.getD_some]
    omega
   simp [q, hil, c0, c1, hlu, hlenk, hik]
   rw [hkv]
   simp [hik, ck, FE.ptr, d1', hlenl, akc, bfy, ← hsty]
   have S4 := S3.jo ((Fr.refl _ w2).dr 1)
   refine blu (n := ya kl i e.jj.length) (R := si v D.jg :: R) hk S4 (by omega) fun w' S' => ?_
   rw [← hv]
   have := fin w' (gv [u0, u1, u2, u3, .int .i64 (i : Nat)] 4) (.int .i64 k) e.ptr (.int .i64 (ya kl i e.jj.length : Nat)) S'
   rw [hwi]
   exact this
  ·have hik' : ¬ (i : Int) < kl.length := by omega
   have hst0 : ya kl i e.jj.length = 0 := by
    unfold ya
    rw [List.getD_eq_getElem?_getD, List.getElem?_eq_none (by omega)]
    simp only [Option.getD_none]
    omega
   rw [hst0] at fin
   simp [q, hil, c0, c1, hlu, hlenk, hik]
   refine blu (n := 0) (R := si v D.jg :: R) hk S3 (by omega) fun w' S' => ?_
   rw [← hv]
   have := fin w' (gv [u0, u1, u2, u3, .int .i64 (i : Nat)] 4) (.int .i64 k) e.ptr (.int .i64 (0 : Nat)) S'
   rw [hwi]
   exact this
 ·have hil' : ¬ (i : Int) < D.jg.length := by omega
  simp only [hil', decide_false, Eng.cond_false]
  have hii : i = D.jg.length := by omega
  subst hii
  obtain ⟨r, m, es, hk, S3⟩ := zi S2.drop
  obtain ⟨_, _, _, c3, c4, fz⟩ := qu (ul S3)
  have hh := ul S3
  simp [c3, c4, fz, ka, kj]
  refine h _ (abi (r := r) (m := m) (es := es) (D := D.uq kl) { hk with arm := fun h => by cases h } (St.nb (cs' := #[.int .i64 (crN kl D D.jg D.jg.length).jb, .map (some r), .int .i64 (crN kl D D.jg D.jg.length).left, .bool false, .bool false]) (e' := T.ag) S3 (((Fr.refl (fun x => x = hb) w2).setCell (.inl rfl) _ _).setCell (.inl rfl) _ _) ?_))
  rw [nj (nj hh)]; rfl
end
section
variable {w0 w : World} {hb : Nat} {D : Dk} {R : List Asn}
theorem bjg (S : St w0 w (il hb D :: R)) (k : Int) {K : KV} (h : ∀ w' v, St w0 w' (ki v (D.lz k).1 :: il hb D :: R) → K (.tuple #[v, .int .i64 (D.lz k).2]) w') : gi P F.dd [.pointer (some ⟨hb, 0, none⟩), .int .i64 k] w K := by
 obtain ⟨r, m, es, hk, S'⟩ := zi S
 exact bkw hk S' k fun w' v S2 => h w' v (abi hk (S2.perm List.perm_middle.symm) : St w0 w' (il hb D :: (ki v (D.lz k).1 :: R))).swap
theorem bfk (S : St w0 w (il hb D :: R)) {K : KV} (h : ∀ w' v, St w0 w' (si v D.jg :: il hb D :: R) → K v w') : gi P F.bs [.pointer (some ⟨hb, 0, none⟩)] w K := by
 obtain ⟨r, m, es, hk, S'⟩ := zi S
 exact akf hk S' fun w' v S2 => h w' v (abi hk (S2.perm List.perm_middle.symm) : St w0 w' (il hb D :: (si v D.jg :: R))).swap
theorem amx (S : St w0 w (il hb D :: R)) {K : KV} (h : K (.bool D.je) w) : gi P F.bw [.pointer (some ⟨hb, 0, none⟩)] w K := by
 obtain ⟨r, m, es, hk, S'⟩ := zi S
 exact bhl S' h
end
end Go.Proofs.YtfnhoaemapheoaaGreat
set_option maxRecDepth 100000
namespace Go.Eng
section
variable {P : Program} {x : Int} {w : World} {K : KV}
theorem bgi : unT P .neg (.int .u32 x) w K = K (.int .u32 (IntKind.u32.wrap (0 - x))) w := by
 simp [unT, jn, Op.unary, Op.intArith, Sem.run_pure]
theorem bfh : unT P .xor (.int .u32 x) w K = K (.int .u32 (IntKind.u32.wrap (BitVec.ofInt IntKind.u32.bits IntKind.u32.max ^^^ BitVec.ofInt IntKind.u32.bits x).toNat)) w := by
 have e : (if IntKind.u32.signed = true then (-1 : Int) else IntKind.u32.max) = IntKind.u32.max := if_neg (by decide)
 unfold unT jn
 simp only [Op.unary, e, Op.intBits, Sem.run_pure]
end
end Go.Eng
namespace Go.Proofs.YtfnhoaemapheoaaGreat
open Go.Eng Go.Proofs.YtfnhoaemapheoaaGreat.Sint
def aty (a b : Int) : Int := IntKind.u32.wrap (BitVec.ofInt IntKind.u32.bits a ^^^ BitVec.ofInt IntKind.u32.bits b).toNat
def bgh (a b : Int) : Int := IntKind.u32.wrap (BitVec.ofInt IntKind.u32.bits a &&& BitVec.ofInt IntKind.u32.bits b).toNat
def orE (a b : Int) : Int := IntKind.u32.wrap (BitVec.ofInt IntKind.u32.bits a ||| BitVec.ofInt IntKind.u32.bits b).toNat
def orL (a b : Int) : Int := IntKind.u64.wrap (BitVec.ofInt IntKind.u64.bits a ||| BitVec.ofInt IntKind.u64.bits b).toNat
def aka (a : Int) : Int := aty IntKind.u32.max a
def acg (r : Int) : Int := aty (r.fdiv (2 ^ min (1 : Int).toNat IntKind.u32.bits)) (bgh 3988292384 (IntKind.u32.wrap (0 - bgh r 1)))
def uv (f : Int → Int) : Nat → Int → Int
 | 0, r => r
 | n + 1, r => f (uv f n r)
def aef (r : Int) (c : Int) : Int := uv acg 8 (aty r (IntKind.u32.wrap c))
def aat (l : List Int) : Int := aka (l.foldl aef (aka 0))
theorem aoz {t : TypeId} {rx ry : Operand} {x y : Int} {w : World} {K : KV} : ib P .xor t rx ry (.int .u32 x) (.int .u32 y) w K = K (.int .u32 (aty x y)) w := awy
theorem api {t : TypeId} {rx ry : Operand} {x y : Int} {w : World} {K : KV} : ib P .and t rx ry (.int .u32 x) (.int .u32 y) w K = K (.int .u32 (bgh x y)) w := awi
theorem bes {t : TypeId} {rx ry : Operand} {x y : Int} {w : World} {K : KV} : ib P .or t rx ry (.int .u32 x) (.int .u32 y) w K = K (.int .u32 (orE x y)) w := bcv
theorem bev {t : TypeId} {rx ry : Operand} {x y : Int} {w : World} {K : KV} : ib P .or t rx ry (.int .u64 x) (.int .u64 y) w K = K (.int .u64 (orL x y)) w := bcv
theorem aui {x : Int} {w : World} {K : KV} : unT P .xor (.int .u32 x) w K = K (.int .u32 (aka x)) w := bfh
def StI (w : World) (r : Int) (n : Nat) : KL := fun x w1 => ∃ (i : Nat), x = [.int .u32 (uv acg i r), .int .i64 (i : Nat)] ∧ w1 = w ∧ i ≤ n
theorem bhi {w : World} {r : Int} {n : Nat} (hn : n ≤ 1000000) {K : KV} (h : K (.int .u32 (uv acg n r)) w) : gi P F.fi [.int .u32 r, .int .i64 (n : Nat)] w K := by
 rw [M.eg.fcall]
 apply M.eg.calls
 unfold M.eg
 rw [gp]
 refine ⟨StI w r n, fun x _ => n - ms x 1, ⟨0, rfl, rfl, Nat.zero_le _⟩, ?_⟩
 rintro x w1 ⟨i, rfl, rfl, hi⟩
 have q0 : gv [.int .u32 (uv acg i r), .int .i64 (i : Nat)] 0 = .int .u32 (uv acg i r) := rfl
 have q1 : gv [.int .u32 (uv acg i r), .int .i64 (i : Nat)] 1 = .int .i64 (i : Nat) := rfl
 simp only [q0, q1, gp]
 by_cases hil : i < n
 ·have hil' : (i : Int) < n := by omega
  have hwi : IntKind.i64.wrap ((i : Int) + 1) = ((i + 1 : Nat) : Int) := by rw [ia]; rfl
  simp [hil']
  unfold M.eg.j2
  simp only [q0, q1, gp]
  rw [aci (by omega), api, bgi, api, aoz]
  simp only [kz]
  rw [hwi]
  exact ⟨⟨i + 1, rfl, rfl, by omega⟩, by simp [ms, gv]; omega⟩
 ·have hil' : ¬ (i : Int) < n := by omega
  have he : i = n := by omega
  subst he
  simp
  exact h
def MoI (w : World) (l : List Int) (s : Int) : KL := fun x w1 => ∃ (u : Value) (i : Nat), x = [u, .int .u32 ((l.take i).foldl aef (aka s)), .int .i64 (i : Nat)] ∧ w1 = w ∧ i ≤ l.length
theorem bch {w : World} {v : Value} {l : List Int} (hs : SlB w v l) (hl : l.length ≤ 1000000000) {K : KV} (h : K (.int .u32 (aat l)) w) : gi P F.fj [v] w K := by
 rw [M.ew.fcall]
 apply M.ew.calls
 unfold M.ew
 rw [M.ej.fcall]
 apply M.ej.calls
 unfold M.ej
 rw [aui, gp, hs.iy (by kernel_rfl)]
 refine ⟨MoI w l 0, fun x _ => l.length - ms x 2, ⟨_, 0, rfl, rfl, Nat.zero_le _⟩, ?_⟩
 rintro x w1 ⟨u, i, rfl, rfl, hi⟩
 generalize hf : (l.take i).foldl aef (aka 0) = f
 have q0 : gv [u, .int .u32 f, .int .i64 (i : Nat)] 0 = u := rfl
 have q1 : gv [u, .int .u32 f, .int .i64 (i : Nat)] 1 = .int .u32 f := rfl
 have q2 : gv [u, .int .u32 f, .int .i64 (i : Nat)] 2 = .int .i64 (i : Nat) := rfl
 simp only [q2, gp]
 by_cases hil : i < l.length
 ·have hil' : (i : Int) < l.length := by omega
  have hwi : IntKind.i64.wrap ((i : Int) + 1) = ((i + 1 : Nat) : Int) := by rw [ia]; rfl
  obtain ⟨b, o, cap, hv, _, _, hc⟩ := hs.at hil
  have c0 := hc 0 _ rfl
  simp only [Nat.mul_one, Nat.add_zero] at c0
  have htk : (l.take (i + 1)).foldl aef (aka 0) = aef f l[i] := by
   rw [List.take_succ_eq_append_getElem hil, List.foldl_append, hf]; rfl
  generalize l[i] = c at *
  simp [hil']
  unfold M.ej.j2
  simp only [q1, q2, gp]
  rw [hv]
  simp [hil, c0]
  rw [og (ks := .u8) (kd := .u32) (by kernel_rfl) (by kernel_rfl), aoz]
  refine bhi (n := 8) (by omega) ?_
  rw [hwi]
  exact ⟨⟨.int .u8 c, i + 1, by rw [htk]; rfl, rfl, by omega⟩, by simp [ms, gv]; omega⟩
 ·have hil' : ¬ (i : Int) < l.length := by omega
  simp [hil']
  rw [List.take_of_length_le (by omega)] at hf
  have q4 : gv [v, .int .i64 (l.length : Nat), .int .i64 (i : Nat), u, .int .u32 f] 4 = .int .u32 f := rfl
  try simp only [q0, q1, q4]
  rw [aui, ← hf]
  exact h
def b8 (x : Int) : Int := IntKind.u8.wrap x
def s8 (x : Int) : Int := x.fdiv (2 ^ min (8 : Int).toNat IntKind.u32.bits)
def wi (n : Int) : List Int := (List.range 4).map fun i => b8 (uv s8 i n)
section
variable {w0 w : World} {R : List Asn} {v : Value} {l : List Int}
theorem blc (S : St w0 w R) (x : Int) : St w0 (w.alloc (.cells #[.int .u8 x] T.am)) (ki (.slice (some ⟨w.heap.size, 0, none⟩) 1 1) [x] :: R) := St.uo (l := [x]) S jr rfl (by unfold maxLen; simp)
def P3I (w0 : World) (l : List Int) (n : Int) (R : List Asn) : KL := fun x w1 => ∃ (v : Value) (i : Nat), x = [v, .int .u32 (uv s8 i n), .int .i64 (i : Nat)] ∧ i ≤ 4 ∧ St w0 w1 (ki v (l ++ (wi n).take i) :: R)
theorem ta (n : Int) : (wi n).length = 4 := by simp [wi]
theorem ayc (n : Int) {i : Nat} (hi : i < 4) : (wi n).take (i + 1) = (wi n).take i ++ [b8 (uv s8 i n)] := by
 rw [List.take_succ_eq_append_getElem (by rw [ta]; exact hi)]
 simp [wi]
theorem atn (S : St w0 w (ki v l :: R)) (hl : l.length ≤ 100000000) (n : Int) {K : KV} (h : ∀ w' v', St w0 w' (ki v' (l ++ wi n) :: R) → K v' w') : gi P F.ey [v, .int .u32 n] w K := by
 rw [M.ef.fcall]
 apply M.ef.calls
 unfold M.ef
 rw [gp]
 refine ⟨P3I w0 l n R, fun x _ => 4 - ms x 2, ⟨v, 0, rfl, by omega, by simpa using S⟩, ?_⟩
 rintro x w1 ⟨v, i, rfl, hi, S⟩
 have q0 : gv [v, .int .u32 (uv s8 i n), .int .i64 (i : Nat)] 0 = v := rfl
 have q1 : gv [v, .int .u32 (uv s8 i n), .int .i64 (i : Nat)] 1 = .int .u32 (uv s8 i n) := rfl
 have q2 : gv [v, .int .u32 (uv s8 i n), .int .i64 (i : Nat)] 2 = .int .i64 (i : Nat) := rfl
 simp only [q2, gp]
 by_cases hil : i < 4
 ·have hil' : (i : Int) < 4 := by omega
  have hwi : IntKind.i64.wrap ((i : Int) + 1) = ((i + 1 : Nat) : Int) := by rw [ia]; rfl
  simp [hil']
  unfold M.ef.j2
  simp only [q0, q1, q2, gp]
  rw [og (ks := .u32) (kd := .u8) (by kernel_rfl) (by kernel_rfl)]
  simp
  have S1 := blc S (b8 (uv s8 i n))
  refine Go.Eng.td et.f jr xd S1.swap (l2 := [b8 (uv s8 i n)]) (S1.row jr) (by simp [ta]; omega) (by decide) fun w2 v2 S2 => ?_
  rw [aci (by omega), hwi]
  refine ⟨⟨v2, i + 1, rfl, by omega, ?_⟩, by simp [ms, gv]; omega⟩
  rw [ayc n hil, ← List.append_assoc]
  exact S2.swap.drop
 ·have hil' : ¬ (i : Int) < 4 := by omega
  have he : i = 4 := by omega
  subst he
  simp
  rw [List.take_of_length_le (by rw [ta]; omega)] at S
  exact h w1 v S
def shE (c : Int) (i : Nat) : Int := IntKind.u32.wrap (IntKind.u32.wrap c * 2 ^ min (8 * i) IntKind.u32.bits)
def abk (l : List Int) : Nat → Int
 | 0 => 0
 | i + 1 => orE (abk l i) (shE (l.getD i 0) i)
def yn (l : List Int) : Int := abk l 4
def U3I (w : World) (l : List Int) : KL := fun x w1 => ∃ (u0 u1 : Value) (i : Nat), x = [u0, u1, .int .u32 (abk l i), .int .i64 (i : Nat)] ∧ w1 = w ∧ i ≤ 4
theorem beh (hs : SlB w v l) (hl : 4 ≤ l.length) {K : KV} (h : K (.int .u32 (yn l)) w) : gi P F.fk [v] w K := by
 rw [M.et.fcall]
 apply M.et.calls
 unfold M.et
 obtain ⟨v', s', _, hsub⟩ := hs.sub (P := P) (t := T.f) (lo := none) (hi := some (.int .i64 (4 : Nat))) (i := 0) (j := 4) (by kernel_rfl) (by kernel_rfl) (.inl ⟨rfl, rfl⟩) (.inr ⟨_, rfl⟩) (Nat.zero_le _) hl
 have e4 : (List.take (4 - 0) (List.drop 0 l)) = l.take 4 := by simp
 rw [e4] at s'
 have hsub' : ∀ w1 K, slT P T.f v none (some (.int .i64 4)) none w1 K = K v' w1 := hsub
 have hl4 : (l.take 4).length = 4 := by simp; omega
 rw [gp, hsub', s'.iy (by kernel_rfl), hl4]
 refine ⟨U3I w l, fun x _ => 4 - ms x 3, ⟨_, _, 0, rfl, rfl, by omega⟩, ?_⟩
 rintro x w1 ⟨u0, u1, i, rfl, rfl, hi⟩
 have q2 : gv [u0, u1, .int .u32 (abk l i), .int .i64 (i : Nat)] 2 = .int .u32 (abk l i) := rfl
 have q3 : gv [u0, u1, .int .u32 (abk l i), .int .i64 (i : Nat)] 3 = .int .i64 (i : Nat) := rfl
 have q0 : gv [u0, u1, .int .u32 (abk l i), .int .i64 (i : Nat)] 0 = u0 := rfl
 have q1 : gv [u0, u1, .int .u32 (abk l i), .int .i64 (i : Nat)] 1 = u1 := rfl
 simp only [q3, gp]
 by_cases hil : i < 4
 ·have hil' : (i : Int) < ((4 : Nat) : Int) := by omega
  have hwi : IntKind.i64.wrap ((i : Int) + 1) = ((i + 1 : Nat) : Int) := by rw [ia]; rfl
  have hw8 : IntKind.i64.wrap (8 * (i : Int)) = ((8 * i : Nat) : Int) := by rw [ia]; omega
  have hwu : IntKind.u64.wrap (8 * (i : Int)) = 8 * (i : Int) := acm (by omega) (by omega)
  have ht8 : (8 * (i : Int)).toNat = 8 * i := by omega
  obtain ⟨b, o, cap, hv, _, _, hc⟩ := s'.at (i := i) (by omega)
  have c0 := hc 0 _ rfl
  simp only [Nat.mul_one, Nat.add_zero] at c0
  have hgd : l.getD i 0 = (l.take 4)[i]'(by omega) := by
   rw [List.getD_eq_getElem?_getD, List.getElem?_eq_getElem (by omega), List.getElem_take]; rfl
  rw [← hgd] at c0
  rw [hl4] at hv
  have e : abk l (i + 1) = orE (abk l i) (shE (l.getD i 0) i) := rfl
  generalize l.getD i 0 = c at *
  simp only [lh]
  rw [decide_eq_true hil', Eng.cond_true]
  unfold M.et.j2
  simp only [q0, q1, q2, q3, gp, vh, hw8]
  rw [hv]
  rw [adr (by kernel_rfl) (by omega) (by omega)]
  have hz : szE P T.f = 1 := by kernel_rfl
  rw [hz]
  simp [c0]
  rw [og (ks := .u8) (kd := .u32) (by kernel_rfl) (by kernel_rfl), og (ks := .i64) (kd := .u64) (by kernel_rfl) (by kernel_rfl), hwu, aeg (by omega), ht8, bes, hwi]
  exact ⟨⟨_, _, i + 1, by rw [e]; rfl, rfl, by omega⟩, by simp [ms, gv]; omega⟩
 ·have hil' : ¬ (i : Int) < 4 := by omega
  have he : i = 4 := by omega
  subst he
  simp
  exact h
def lw (n : Int) : List Int := (List.range 8).map fun k => b8 (n.fdiv (2 ^ min (56 - 8 * k) IntKind.u64.bits))
theorem lx (n : Int) : (lw n).length = 8 := by simp [lw]
theorem ayv (n : Int) {k : Nat} (hk : k < 8) : (lw n).take (k + 1) = (lw n).take k ++ [b8 (n.fdiv (2 ^ min (56 - 8 * k) IntKind.u64.bits))] := by
 rw [List.take_succ_eq_append_getElem (by rw [lx]; exact hk)]
 simp [lw]
def P6I (w0 : World) (l : List Int) (n : Int) (R : List Asn) : KL := fun x w1 => ∃ (v : Value) (k : Nat), x = [v, .int .i64 (56 - 8 * (k : Int))] ∧ k ≤ 8 ∧ St w0 w1 (ki v (l ++ (lw n).take k) :: R)
def blp (x : List Value) : Nat := match gv x 1 with
 | .int _ k => (k + 8).toNat
 | _ => 0
theorem age (S : St w0 w (ki v l :: R)) (hl : l.length ≤ 100000000) (n : Int) {K : KV} (h : ∀ w' v', St w0 w' (ki v' (l ++ lw n) :: R) → K v' w') : gi P F.em [v, .int .u64 n] w K := by
 rw [M.ec.fcall]
 apply M.ec.calls
 unfold M.ec
 rw [gp]
 refine ⟨P6I w0 l n R, fun x _ => blp x, ⟨v, 0, rfl, by omega, by simpa using S⟩, ?_⟩
 rintro x w1 ⟨v, k, rfl, hk, S⟩
 have q0 : gv [v, .int .i64 (56 - 8 * (k : Int))] 0 = v := rfl
 have q1 : gv [v, .int .i64 (56 - 8 * (k : Int))] 1 = .int .i64 (56 - 8 * (k : Int)) := rfl
 simp only [q1, gp]
 by_cases hil : k < 8
 ·have hil' : (0 : Int) ≤ 56 - 8 * (k : Int) := by omega
  have hwu : IntKind.u64.wrap (56 - 8 * (k : Int)) = 56 - 8 * (k : Int) := acm (by omega) (by omega)
  have hwi : IntKind.i64.wrap (56 - 8 * (k : Int) - 8) = 56 - 8 * ((k + 1 : Nat) : Int) := by rw [ia]; omega
  have htn : (56 - 8 * (k : Int)).toNat = 56 - 8 * k := by omega
  simp only [rh]
  rw [decide_eq_true hil']
  simp only [gk]
  unfold M.ec.j2
  simp only [q0, q1, gp]
  rw [og (ks := .i64) (kd := .u64) (by kernel_rfl) (by kernel_rfl), hwu, aci hil', htn, og (ks := .u64) (kd := .u8) (by kernel_rfl) (by kernel_rfl)]
  simp
  have S1 := blc S (b8 (n.fdiv (2 ^ min (56 - 8 * k) IntKind.u64.bits)))
  refine Go.Eng.td et.f jr xd S1.swap (l2 := [b8 (n.fdiv (2 ^ min (56 - 8 * k) IntKind.u64.bits))]) (S1.row jr) (by simp [lx]; omega) (by decide) fun w2 v2 S2 => ?_
  rw [hwi]
  refine ⟨⟨v2, k + 1, rfl, by omega, ?_⟩, by simp [blp, gv]; omega⟩
  rw [ayv n hil, ← List.append_assoc]
  exact S2.swap.drop
 ·have hil' : ¬ (0 : Int) ≤ 56 - 8 * (k : Int) := by omega
  simp only [rh]
  rw [decide_eq_false hil']
  simp only [gk]
  rw [List.take_of_length_le (by rw [lx]; omega)] at S
  exact h w1 v S
def abb (l : List Int) : Nat → Int
 | 0 => 0
 | i + 1 => orL (IntKind.u64.wrap (abb l i * 2 ^ min (8 : Int).toNat IntKind.u64.bits)) (IntKind.u64.wrap (l.getD i 0))
def akj (l : List Int) : Int := abb l 8
def U6I (w : World) (l : List Int) : KL := fun x w1 => ∃ (u0 : Value) (i : Nat), x = [u0, .int .u64 (abb l i), .int .i64 (i : Nat)] ∧ w1 = w ∧ i ≤ 8
theorem aky (hs : SlB w v l) (hl : 8 ≤ l.length) {K : KV} (h : K (.int .u64 (akj l)) w) : gi P F.ew [v] w K := by
 rw [M.ep.fcall]
 apply M.ep.calls
 unfold M.ep
 obtain ⟨v', s', _, hsub⟩ := hs.sub (P := P) (t := T.f) (lo := none) (hi := some (.int .i64 (8 : Nat))) (i := 0) (j := 8) (by kernel_rfl) (by kernel_rfl) (.inl ⟨rfl, rfl⟩) (.inr ⟨_, rfl⟩) (Nat.zero_le _) hl
 have e4 : (List.take (8 - 0) (List.drop 0 l)) = l.take 8 := by simp
 rw [e4] at s'
 have hsub' : ∀ w1 K, slT P T.f v none (some (.int .i64 8)) none w1 K = K v' w1 := hsub
 have hl4 : (l.take 8).length = 8 := by simp; omega
 rw [gp, hsub', s'.iy (by kernel_rfl), hl4]
 refine ⟨U6I w l, fun x _ => 8 - ms x 2, ⟨_, 0, rfl, rfl, by omega⟩, ?_⟩
 rintro x w1 ⟨u0, i, rfl, rfl, hi⟩
 have q1 : gv [u0, .int .u64 (abb l i), .int .i64 (i : Nat)] 1 = .int .u64 (abb l i) := rfl
 have q2 : gv [u0, .int .u64 (abb l i), .int .i64 (i : Nat)] 2 = .int .i64 (i : Nat) := rfl
 have q0 : gv [u0, .int .u64 (abb l i), .int .i64 (i : Nat)] 0 = u0 := rfl
 simp only [q2, gp]
 by_cases hil : i < 8
 ·have hil' : (i : Int) < ((8 : Nat) : Int) := by omega
  have hwi : IntKind.i64.wrap ((i : Int) + 1) = ((i + 1 : Nat) : Int) := by rw [ia]; rfl
  obtain ⟨b, o, cap, hv, _, _, hc⟩ := s'.at (i := i) (by omega)
  have c0 := hc 0 _ rfl
  simp only [Nat.mul_one, Nat.add_zero] at c0
  have hgd : l.getD i 0 = (l.take 8)[i]'(by omega) := by
   rw [List.getD_eq_getElem?_getD, List.getElem?_eq_getElem (by omega), List.getElem_take]; rfl
  rw [← hgd] at c0
  rw [hl4] at hv
  have e : abb l (i + 1) = orL (IntKind.u64.wrap (abb l i * 2 ^ min (8 : Int).toNat IntKind.u64.bits)) (IntKind.u64.wrap (l.getD i 0)) := rfl
  generalize l.getD i 0 = c at *
  simp only [lh]
  rw [decide_eq_true hil', Eng.cond_true]
  unfold M.ep.j2
  simp only [q0, q1, q2, gp]
  rw [hv]
  rw [adr (by kernel_rfl) (by omega) (by omega)]
  have hz : szE P T.f = 1 := by kernel_rfl
  rw [hz]
  simp [c0]
  rw [aeg (by omega), og (ks := .u8) (kd := .u64) (by kernel_rfl) (by kernel_rfl), bev, hwi]
  exact ⟨⟨_, i + 1, by rw [e], rfl, by omega⟩, by simp [ms, gv]; omega⟩
 ·have hil' : ¬ (i : Int) < 8 := by omega
  have he : i = 8 := by omega
  subst he
  simp
  exact h
theorem apz {n : Nat} (h : n < 4294967296) : IntKind.u32.wrap (n : Int) = n := by
 show (if (false && decide ((n : Int) % 4294967296 ≥ 2147483648)) = true then (n : Int) % 4294967296 - 4294967296 else (n : Int) % 4294967296) = n
 simp; omega
theorem bbh {n : Nat} (h : n < 4294967296) : (BitVec.ofInt IntKind.u32.bits (n : Int)).toNat = n := by
 show (BitVec.ofInt 32 (n : Int)).toNat = n
 rw [BitVec.toNat_ofInt]; omega
theorem ait {a c i : Nat} (ha : a < 2 ^ i) (hc : 2 ^ i * c + a < 4294967296) : orE (a : Int) ((2 ^ i * c : Nat) : Int) = ((2 ^ i * c + a : Nat) : Int) := by
 unfold orE
 rw [BitVec.toNat_or, bbh (by omega), bbh (by omega), Nat.or_comm, ← Nat.two_pow_add_eq_or_of_lt ha, apz hc]
theorem biz {a c : Nat} (ha : a < 256) (hc : 256 * c + a < 18446744073709551616) : orL ((256 * c : Nat) : Int) (a : Int) = ((256 * c + a : Nat) : Int) := by
 have := Nat.two_pow_add_eq_or_of_lt (i := 8) (b := a) ha c
 unfold orL
 rw [BitVec.toNat_or]
 have h1 : (BitVec.ofInt IntKind.u64.bits ((256 * c : Nat) : Int)).toNat = 256 * c := amg (by omega)
 have h2 : (BitVec.ofInt IntKind.u64.bits (a : Int)).toNat = a := amg (by omega)
 rw [h1, h2, ← this, abv hc]
theorem ahh {n : Nat} : b8 (n : Int) = ((n % 256 : Nat) : Int) := by
 unfold b8
 show (if (false && decide ((n : Int) % 256 ≥ 128)) = true then (n : Int) % 256 - 256 else (n : Int) % 256) = _
 simp
theorem att {n : Nat} : s8 (n : Int) = ((n / 256 : Nat) : Int) := aip n 8
theorem aha {n : Nat} (hn : n < 4294967296) (r : List Int) : yn (wi (n : Int) ++ r) = n := by
 have e : wi (n : Int) = [((n % 256 : Nat) : Int), ((n / 256 % 256 : Nat) : Int), ((n / 256 / 256 % 256 : Nat) : Int), ((n / 256 / 256 / 256 % 256 : Nat) : Int)] := by
  show [b8 (n : Int), b8 (s8 n), b8 (s8 (s8 n)), b8 (s8 (s8 (s8 n)))] = _
  rw [att, att, att, ahh, ahh, ahh, ahh]
 rw [e]
 generalize h0 : n % 256 = c0
 generalize h1 : n / 256 % 256 = c1
 generalize h2 : n / 256 / 256 % 256 = c2
 generalize h3 : n / 256 / 256 / 256 % 256 = c3
 have sh : ∀ (c i : Nat), c < 256 → i < 4 → 2 ^ (8 * i) * c < 4294967296 → shE (c : Int) i = ((2 ^ (8 * i) * c : Nat) : Int) := fun c i hc hi hb => by
  unfold shE
  rw [apz (by omega)]
  have hm : min (8 * i) IntKind.u32.bits = 8 * i := Nat.min_eq_left (by show 8 * i ≤ 32; omega)
  rw [hm]
  have : (c : Int) * 2 ^ (8 * i) = ((2 ^ (8 * i) * c : Nat) : Int) := by rw [Int.mul_comm]; simp
  rw [this, apz hb]
 show orE (orE (orE (orE 0 (shE (c0 : Int) 0)) (shE (c1 : Int) 1)) (shE (c2 : Int) 2)) (shE (c3 : Int) 3) = n
 rw [sh c0 0 (by omega) (by omega) (by simp; omega), sh c1 1 (by omega) (by omega) (by simp; omega), sh c2 2 (by omega) (by omega) (by simp; omega), sh c3 3 (by omega) (by omega) (by simp; omega)]
 have z0 := ait (a := 0) (c := c0) (i := 0) (by simp) (by simp; omega)
 have z1 := ait (a := c0) (c := c1) (i := 8) (by simp; omega) (by simp; omega)
 have z2 := ait (a := 256 * c1 + c0) (c := c2) (i := 16) (by simp; omega) (by simp; omega)
 have z3 := ait (a := 65536 * c2 + (256 * c1 + c0)) (c := c3) (i := 24) (by simp; omega) (by simp; omega)
 simp only [Nat.mul_zero, Nat.pow_zero, Nat.one_mul, Nat.add_zero, Nat.mul_one] at z0 z1 z2 z3 ⊢
 rw [show ((0 : Int)) = ((0 : Nat) : Int) from rfl, z0, z1]
 rw [show 2 ^ 8 * c1 + c0 = 256 * c1 + c0 from rfl, show 8 * 2 = 16 from rfl, z2, show 2 ^ 16 * c2 + (256 * c1 + c0) = 65536 * c2 + (256 * c1 + c0) from rfl, show 8 * 3 = 24 from rfl, z3]
 congr 1
 show 16777216 * c3 + (65536 * c2 + (256 * c1 + c0)) = n
 omega
theorem aoe {n : Nat} (hn : n < 18446744073709551616) (r : List Int) : akj (lw (n : Int) ++ r) = n := by
 have hb : ∀ k, k < 8 → (lw (n : Int) ++ r).getD k 0 = ((n / 2 ^ (56 - 8 * k) % 256 : Nat) : Int) := fun k hk => by
  rw [List.getD_eq_getElem?_getD, List.getElem?_append_left (by rw [lx]; exact hk)]
  unfold lw
  rw [List.getElem?_map, List.getElem?_range hk]
  show b8 ((n : Int).fdiv (2 ^ min (56 - 8 * k) IntKind.u64.bits)) = _
  have hm : min (56 - 8 * k) IntKind.u64.bits = 56 - 8 * k := Nat.min_eq_left (by show 56 - 8 * k ≤ 64; omega)
  rw [hm, aip, ahh]
 have key : ∀ i, i ≤ 8 → abb (lw (n : Int) ++ r) i = ((n / 2 ^ (64 - 8 * i) : Nat) : Int) := by
  intro i
  induction i with
  | zero => intro _; show (0 : Int) = _; simp; omega
  | succ i ih =>
   intro hi
   show orL (IntKind.u64.wrap (abb (lw (n : Int) ++ r) i * 2 ^ 8)) (IntKind.u64.wrap ((lw (n : Int) ++ r).getD i 0)) = _
   rw [ih (by omega), hb i (by omega)]
   have e1 : n / 2 ^ (64 - 8 * i) = n / 2 ^ (56 - 8 * i) / 256 := by
    rw [Nat.div_div_eq_div_mul]
    congr 1
    rw [show (256 : Nat) = 2 ^ 8 from rfl, ← Nat.pow_add]
    congr 1; omega
   have e2 : 64 - 8 * (i + 1) = 56 - 8 * i := by omega
   rw [e1, e2]
   have hlt : n / 2 ^ (56 - 8 * i) ≤ n := Nat.div_le_self _ _
   generalize n / 2 ^ (56 - 8 * i) = m at *
   have e3 : ((m / 256 : Nat) : Int) * 2 ^ 8 = ((256 * (m / 256) : Nat) : Int) := by rw [Int.mul_comm]; simp
   rw [e3, abv (by omega), abv (by omega), biz (by omega) (by omega)]
   congr 1; omega
 show abb _ 8 = _
 rw [key 8 (by omega)]; simp
theorem ajn (z : Int) : ∃ n : Nat, IntKind.u32.wrap z = (n : Int) ∧ n < 4294967296 := by
 have : IntKind.u32.wrap z = z % 4294967296 := by
  show (if (false && decide (z % 4294967296 ≥ 2147483648)) = true then z % 4294967296 - 4294967296 else z % 4294967296) = _
  simp
 exact ⟨(z % 4294967296).toNat, by rw [this]; omega, by omega⟩
theorem auq (l : List Int) : ∃ n : Nat, aat l = (n : Int) ∧ n < 4294967296 := by
 unfold aat
 rw [aka, aty]
 exact ajn _
end
end Go.Proofs.YtfnhoaemapheoaaGreat
